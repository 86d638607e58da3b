import Derived.Test.YtamajcgdfjeehaaDoorMq2
import Derived.Lib.ItoaNum
section
namespace Go.Proofs.YtamajcgdfjeehaaDoor
open Go.Vc
set_option maxHeartbeats 4000000
attribute [local irreducible] JL JC JQ OpWp Con ConN

def lim (n : Int) : Int := min n 1099511627776
def wP : Nat → T → Int
  | 0, _ => 1099511627776
  | f + 1, e => e.args.foldl (fun n x => lim (n + wP f x)) 1
def wParts (e : T) (f : Nat) : Int := wP f e
def wPartsL (l : List T) (f : Nat) (n : Int) : Int := l.foldl (fun n e => lim (n + wParts e f)) n
theorem wParts_zero (e : T) : wParts e 0 = 1099511627776 := rfl
theorem wParts_succ (e : T) (f : Nat) : wParts e (f + 1) = wPartsL e.args f 1 := rfl
theorem lim_bd (n : Int) (h : 0 ≤ n) : 0 ≤ lim n ∧ lim n ≤ 1099511627776 := by unfold lim; omega
theorem wPartsL_bd (f : Nat) (hf : ∀ e, 0 ≤ wParts e f ∧ wParts e f ≤ 1099511627776) : ∀ (l : List T) (n : Int), 0 ≤ n ∧ n ≤ 1099511627776 → 0 ≤ wPartsL l f n ∧ wPartsL l f n ≤ 1099511627776
  | [], n, h => by simpa [wPartsL] using h
  | e :: r, n, h => wPartsL_bd f hf r _ (lim_bd _ (by have := hf e; omega))
theorem wParts_bd : ∀ (f : Nat) (e : T), 0 ≤ wParts e f ∧ wParts e f ≤ 1099511627776
  | 0, e => by rw [wParts_zero]; omega
  | f + 1, e => by rw [wParts_succ]; exact wPartsL_bd f (wParts_bd f) _ _ (by omega)
theorem wPartsL_snoc (f : Nat) (e : T) (l : List T) (n : Int) : wPartsL (l ++ [e]) f n = lim (wPartsL l f n + wParts e f) := by simp [wPartsL]
theorem wPartsL_take (f : Nat) (l : List T) (n : Int) (k : Nat) (h : k < l.length) : wPartsL (l.take (k + 1)) f n = lim (wPartsL (l.take k) f n + wParts l[k] f) := by
  rw [List.take_succ_eq_append_getElem h, wPartsL_snoc]
mutual
/-- The weight of a statement; of the depths, 'fuel' are left. -/
def wOne : Nat → Sm → Int
  | 0, _ => 1099511627776
  | f + 1, s =>
    if s.kind = 1 ∨ s.kind = 2 then lim (1 + wPartsL s.index 20 0 + wPartsL s.value 20 0)
    else if s.kind = 3 then lim (2 + wPartsL s.value 20 0 + wAll f s.thn 0 + wAll f s.els 0)
    else if s.kind = 4 then lim (2 + (Max.max 0 (min s.max 33) + 1) * lim (2 + wPartsL s.value 20 0 + wAll f s.thn 0))
    else if s.kind = 5 then lim (2 + wAll f s.thn 0)
    else 0
def wAll : Nat → List Sm → Int → Int
  | _, [], n => n
  | f, s :: r, n => wAll f r (lim (n + wOne f s))
end
theorem prod_bd (a b : Int) (h1 : 0 ≤ a) (h2 : a ≤ 34) (h3 : 0 ≤ b) (h4 : b ≤ 1099511627776) : 0 ≤ a * b ∧ a * b ≤ 37383395344384 := by
  refine ⟨Int.mul_nonneg h1 h3, ?_⟩
  have := Int.mul_le_mul h2 h4 h3 (by omega)
  omega

mutual
theorem wOne_bd : ∀ (f : Nat) (s : Sm), 0 ≤ wOne f s ∧ wOne f s ≤ 1099511627776
  | 0, s => by rw [wOne]; omega
  | f + 1, s => by
    have b1 := wPartsL_bd 20 (wParts_bd 20) s.index 0 (by omega)
    have b2 := wPartsL_bd 20 (wParts_bd 20) s.value 0 (by omega)
    have b3 := wAll_bd f s.thn 0 (by omega)
    have b4 := wAll_bd f s.els 0 (by omega)
    rw [wOne]
    split
    · exact lim_bd _ g_
    split
    · exact lim_bd _ g_
    split
    · have b5 := lim_bd (2 + wPartsL s.value 20 0 + wAll f s.thn 0) (by omega)
      have b7 := prod_bd (Max.max 0 (min s.max 33) + 1) _ (by omega) (by omega) b5.1 b5.2
      exact lim_bd _ g_
    split
    · exact lim_bd _ g_
    · omega
theorem wAll_bd : ∀ (f : Nat) (l : List Sm) (n : Int), 0 ≤ n ∧ n ≤ 1099511627776 → 0 ≤ wAll f l n ∧ wAll f l n ≤ 1099511627776
  | f, [], n, h => by simpa [wAll] using h
  | f, s :: r, n, h => by
    rw [wAll]
    exact wAll_bd f r _ (lim_bd _ (by have := wOne_bd f s; omega))
end

theorem wAll_snoc (f : Nat) (e : Sm) : ∀ (l : List Sm) (n : Int), wAll f (l ++ [e]) n = lim (wAll f l n + wOne f e)
  | [], n => by simp [wAll]
  | a :: l, n => by simp only [List.cons_append, wAll]; exact wAll_snoc f e l _
theorem wAll_take (f : Nat) (l : List Sm) (n : Int) (k : Nat) (h : k < l.length) : wAll f (l.take (k + 1)) n = lim (wAll f (l.take k) n + wOne f l[k]) := by
  rw [List.take_succ_eq_append_getElem h, wAll_snoc]


theorem wexpr_c : ∀ (fuel : Nat) (e : T) (depth : Int), 0 ≤ depth → depth + fuel = 21 → Con Tryd.prog 146 [.row e.row', In .i64 depth] [] (fun K => K (In .i64 (wParts e fuel)) []) := by
  intro fuel
  induction fuel with
  | zero =>
    intro e depth h0 h1
    refine con_intro Tryd.func146 rfl rfl (Nat.le_of_ble_eq_true rfl) (fun c hc => R_ (o_ r_ (ci_ r_ (fun bx => E_ r_ (T_ (am_ (R_ (M_ r_ (o_ r_ (bz_ r_ r_ (T_ (jc_condd rfl (fun h => R_ (E_ r_ (T_ (ar_ (aw_ ?_))))) (fun h => absurd (show 20 < depth by omega) h)))))))))))))
    refine jq_ret1 rfl rfl [] rfl (fun K h => by rw [wParts_zero] at h; exact h)
  | succ f ih =>
    intro e depth h0 h1
    refine con_intro Tryd.func146 rfl rfl (Nat.le_of_ble_eq_true rfl) (fun c hc => R_ (o_ r_ (ci_ r_ (fun bx => E_ r_ (T_ (am_ (R_ (M_ r_ (o_ r_ (bz_ r_ r_ (T_ (jc_condd rfl (fun h => by omega) (fun h => as_ (al_ (R_ (E_ r_ (T_ ?_)))))))))))))))))
    refine am_ (R_ (E_ r_ (T_ (au_ (jc_loop [1, 2] (fun k => k ≤ e.args.length) (fun k => [(5, In .i64 (wPartsL (e.args.take k) f 1)), (6, In .i64 (k : Int))]) (fun _ => [.blk bx 27 e.row']) (fun k => e.args.length - k) 0 [0] (Nat.zero_le _) rfl ?_ ?_)))))
    · (repeat (first | exact True.intro | refine ⟨rfl, ?_⟩))
    · intro k hk
      refine am_ (R_ (M_ r_ (F_ r_ (L_ 0 r_ (o_ r_ (br_ r_ (fun hlen => o_ r_ (bw_ r_ r_ (T_ ?_)))))))))
      have hmax : e.args.length ≤ 9223372036854775807 := by simpa using hlen
      refine jc_condd rfl (fun hlt => ?_) (fun hge => ?_)
      · simp only [List.length_map, Int.ofNat_lt] at hlt
        have b1 := wParts_bd f e.args[k]
        have b2 := wPartsL_bd f (wParts_bd f) (e.args.take k) 1 (by omega)
        refine as_ (al_ (B_ (an_ (M_ r_ (F_ r_ (L_ 0 r_ (M_ r_ (o_ r_ (cc_ r_ r_ g_ (T.row_eq _) r_ b_ (o_ r_ (cr_ r_ r_ r_ (M_ r_ (o_ r_ (bj_ r_ r_ g_ (o_ r_ (bm_ r_ (ih _ _ g_ g_) (o_ r_ (bj_ r_ r_ g_ (o_ r_ (cl_ r_ r_ (E_ r_ ?_)))))))))))))))))))))
        refine ak_ (ay_ (al_ (an_ (M_ r_ (o_ r_ (bj_ r_ r_ g_ (E_ r_ (ak_ (jq_again (k + 1) [0] hlt g_ rfl ?_)))))))))
        · rw [wPartsL_take f e.args 1 k hlt]
          unfold lim
          rw [Int.min_comm]
          (repeat (first | exact True.intro | refine ⟨rfl, ?_⟩))
      · simp only [List.length_map, Int.ofNat_lt] at hge
        refine av_ (ax_ (ax_ (ba_ (al_ (R_ (M_ r_ (E_ r_ (T_ (ar_ (jq_ret1 rfl rfl [] rfl (fun K h => by rw [wParts_succ, ← List.take_of_length_le (Nat.le_of_not_lt hge)] at h; exact h)))))))))))

theorem rexprs_c (l : List T) : Con Tryd.prog 131 [.cell (.list (l.map T.row))] [] (fun K => K (In .i64 (wPartsL l 20 0)) []) := by
  refine con_intro Tryd.func131 rfl rfl (Nat.le_of_ble_eq_true rfl) (fun c hc => R_ (E_ r_ (T_ (R_ (E_ r_ (T_ (am_ (R_ (E_ r_ (T_ (au_ (jc_loop [0] (fun k => k ≤ l.length) (fun k => [(3, In .i64 (wPartsL (l.take k) 20 0)), (4, In .i64 (k : Int))]) (fun _ => []) (fun k => l.length - k) 0 [] (Nat.zero_le _) rfl ?_ ?_))))))))))))
  · (repeat (first | exact True.intro | refine ⟨rfl, ?_⟩))
  · intro k hk
    refine am_ (R_ (M_ r_ (M_ r_ (o_ r_ (br_ r_ (fun hlen => o_ r_ (bw_ r_ r_ (T_ ?_))))))))
    have hmax : l.length ≤ 9223372036854775807 := by simpa using hlen
    refine jc_condd rfl (fun hlt => ?_) (fun hge => ?_)
    · simp only [List.length_map, Int.ofNat_lt] at hlt
      have b1 := wParts_bd 20 l[k]
      have b2 := wPartsL_bd 20 (wParts_bd 20) (l.take k) 0 (by omega)
      refine as_ (al_ (B_ (an_ (M_ r_ (M_ r_ (M_ r_ (o_ r_ (cc_ r_ r_ g_ (T.row_eq _) r_ b_ (o_ r_ (cr_ r_ r_ r_ (o_ r_ (bm_ r_ (wexpr_c 20 _ _ g_ g_) (o_ r_ (bj_ r_ r_ g_ (o_ r_ (cl_ r_ r_ (E_ r_ (ak_ (ay_ (al_ ?_))))))))))))))))))))
      refine an_ (M_ r_ (o_ r_ (bj_ r_ r_ g_ (E_ r_ (ak_ (jq_again (k + 1) [] hlt g_ rfl ?_))))))
      · rw [wPartsL_take 20 l 0 k hlt]
        unfold lim
        rw [Int.min_comm]
        (repeat (first | exact True.intro | refine ⟨rfl, ?_⟩))
    · simp only [List.length_map, Int.ofNat_lt] at hge
      refine av_ (ax_ (ax_ (ba_ (al_ (R_ (M_ r_ (E_ r_ (T_ (ar_ (jq_ret1 rfl rfl [] rfl (fun K h => by rw [← List.take_of_length_le (Nat.le_of_not_lt hge)] at h; exact h)))))))))))

theorem lim_lim (a b : Int) (h : 0 ≤ a) : lim (a + lim b) = lim (a + b) := by unfold lim; omega
theorem wAll_full (l : List Sm) : ∀ n, n = 1099511627776 → wAll 0 l n = 1099511627776 := by
  induction l with
  | nil => intro n h; simpa [wAll] using h
  | cons s l ih => intro n h; rw [wAll]; exact ih _ (by subst h; rw [wOne]; rfl)

theorem rweight_zero (l : List Sm) (depth : Int) (h1 : depth = 21) : Con Tryd.prog 116 [.cell (.list (l.map Sm.row)), In .i64 depth] [] (fun K => K (In .i64 (wAll 0 l 0)) []) := by
  refine con_intro Tryd.func116 rfl rfl (Nat.le_of_ble_eq_true rfl) (fun c hc => R_ (E_ r_ (T_ (R_ (E_ r_ (T_ (am_ (R_ (E_ r_ (T_ (au_ (jc_loop [0, 1] (fun k : Nat => k = 0) (fun k => [(5, In .i64 0), (6, In .i64 (k : Int))]) (fun _ => []) (fun k => l.length - k) 0 [] rfl rfl ?_ ?_))))))))))))
  · (repeat (first | exact True.intro | refine ⟨rfl, ?_⟩))
  · rintro k hk
    refine am_ (R_ (M_ r_ (M_ r_ (o_ r_ (br_ r_ (fun hlen => o_ r_ (bw_ r_ r_ (T_ (jc_condd rfl (fun hlt => ?_) (fun hge => ?_))))))))))
    · refine as_ (al_ (B_ (am_ (R_ (M_ r_ (o_ r_ (bz_ r_ r_ (T_ (jc_condd rfl (fun _ => R_ (E_ r_ (T_ (ar_ (aw_ (az_ (aw_ ?_))))))) (fun h => by omega))))))))))
      refine aw_ (az_ (aw_ (jq_ret1 rfl rfl [] rfl (fun K h => ?_))))
      cases l with
      | nil => simp at hlt; omega
      | cons s l => rw [wAll, wAll_full l _ (by simp [wOne, lim])] at h; exact h
    · refine av_ (ax_ (ax_ (ba_ (al_ (R_ (M_ r_ (E_ r_ (T_ (ar_ ?_)))))))))
      have : l = [] := by cases l with
        | nil => rfl
        | cons s l => simp at hge; omega
      subst this
      refine jq_ret1 rfl rfl [] rfl (fun K h => by simpa [wAll] using h)

theorem rweight_succ (f : Nat) (ih : ∀ (l : List Sm) (depth : Int), 0 ≤ depth → depth + f = 21 → Con Tryd.prog 116 [.cell (.list (l.map Sm.row)), In .i64 depth] [] (fun K => K (In .i64 (wAll f l 0)) []))
    (l : List Sm) (depth : Int) (h0 : 0 ≤ depth) (h1 : depth + (f + 1 : Nat) = 21) : Con Tryd.prog 116 [.cell (.list (l.map Sm.row)), In .i64 depth] [] (fun K => K (In .i64 (wAll (f + 1) l 0)) []) := by
  refine con_intro Tryd.func116 rfl rfl (Nat.le_of_ble_eq_true rfl) (fun c hc => R_ (E_ r_ (T_ (R_ (E_ r_ (T_ (am_ (R_ (E_ r_ (T_ (au_ (jc_loop [0, 1] (fun k => k ≤ l.length) (fun k => [(5, In .i64 (wAll (f + 1) (l.take k) 0)), (6, In .i64 (k : Int))]) (fun _ => []) (fun k => l.length - k) 0 [] (Nat.zero_le _) rfl ?_ ?_))))))))))))
  · rw [List.take_zero, wAll]
    (repeat (first | exact True.intro | refine ⟨rfl, ?_⟩))
  · intro k hk
    refine am_ (R_ (M_ r_ (M_ r_ (o_ r_ (br_ r_ (fun hlen => o_ r_ (bw_ r_ r_ (T_ ?_))))))))
    have hmax : l.length ≤ 9223372036854775807 := by simpa using hlen
    refine jc_condd rfl (fun hlt => ?_) (fun hge => ?_)
    · simp only [List.length_map, Int.ofNat_lt] at hlt
      have b1 := wPartsL_bd 20 (wParts_bd 20) l[k].index 0 (by omega)
      have b2 := wPartsL_bd 20 (wParts_bd 20) l[k].value 0 (by omega)
      have b3 := wAll_bd f l[k].thn 0 (by omega)
      have b4 := wAll_bd f l[k].els 0 (by omega)
      have b8 := wAll_bd (f + 1) (l.take k) 0 (by omega)
      refine as_ (al_ (B_ (am_ (R_ (M_ r_ (o_ r_ (bz_ r_ r_ (T_ (jc_condd rfl (fun h => by omega) (fun h => as_ (al_ (R_ (M_ r_ (M_ r_ (o_ r_ (cc_ r_ r_ g_ (Sm.row_eq _) r_ b_ (o_ r_ (cr_ r_ r_ r_ ?_))))))))))))))))))
      refine o_ r_ (bl_ r_ r_ (fun bl => S_ 0 r_ (T_ (R_ (E_ r_ (T_ (am_ (R_ (F_ r_ (L_ 0 r_ (T_ (jc_cut (ι := Int) [0, 1, 5, 6] (fun n => 0 ≤ n ∧ n ≤ 1099511627776000000 ∧ lim n = wOne (f + 1) l[k]) (fun n => [(8, In .i64 n)]) (fun _ => []) ?_ ?_))))))))))))
      · refine au_ (am_ (R_ (o_ r_ (bn_ r_ r_ (E_ r_ (T_ (jc_condd rfl (fun hk1 => ?_) (fun hk1 => ?_))))))))
        · refine as_ (al_ (jc_condd rfl (fun _ => ao_ r_ r_ k_ k_ (yF_ r_ (yL_ 0 r_ (aa_ (fun c => bm_ r_ (rexprs_c _) p_) (aa_ (fun c => bj_ r_ r_ g_ p_) (yF_ r_ (yL_ 0 r_ (aa_ (fun c => bm_ r_ (rexprs_c _) p_) (aa_ (fun c => bj_ r_ r_ g_ p_) (yE_ r_ (ae_ (ay_ (jq_cut (1 + wPartsL l[k].index 20 0 + wPartsL l[k].value 20 0) [] ⟨by omega, by omega, by rw [wOne, if_pos (.inl hk1)]⟩ rfl ?_))))))))))))) (fun h => absurd hk1 h)))
          (repeat (first | exact True.intro | refine ⟨rfl, ?_⟩))
        · refine an_ (o_ r_ (bn_ r_ r_ (E_ r_ (T_ (jc_condd rfl (fun hk2 => ?_) (fun hk2 => ?_))))))
          · refine ao_ r_ r_ k_ k_ (yF_ r_ (yL_ 0 r_ (aa_ (fun c => bm_ r_ (rexprs_c _) p_) (aa_ (fun c => bj_ r_ r_ g_ p_) (yF_ r_ (yL_ 0 r_ (aa_ (fun c => bm_ r_ (rexprs_c _) p_) (aa_ (fun c => bj_ r_ r_ g_ p_) (yE_ r_ (ae_ (ay_ (jq_cut (1 + wPartsL l[k].index 20 0 + wPartsL l[k].value 20 0) [] ⟨by omega, by omega, by rw [wOne, if_pos (.inr hk2)]⟩ rfl ?_))))))))))))
            (repeat (first | exact True.intro | refine ⟨rfl, ?_⟩))
          · have h12 : ¬ (l[k].kind = 1 ∨ l[k].kind = 2) := by omega
            refine R_ (o_ r_ (bn_ r_ r_ (E_ r_ (T_ (jc_condd rfl (fun hk3 => ?_) (fun hk3 => ?_))))))
            · refine ao_ r_ r_ k_ k_ (yF_ r_ (yL_ 0 r_ (aa_ (fun c => bm_ r_ (rexprs_c _) p_) (aa_ (fun c => bj_ r_ r_ g_ p_) (yF_ r_ (yL_ 0 r_ (yM_ r_ (aa_ (fun c => bj_ r_ r_ g_ p_) (aa_ (fun c => bm_ r_ (ih _ _ g_ g_) p_) (aa_ (fun c => bj_ r_ r_ g_ p_) (yF_ r_ (yL_ 0 r_ (yM_ r_ (aa_ (fun c => bj_ r_ r_ g_ p_) (aa_ (fun c => bm_ r_ (ih _ _ g_ g_) p_) ?_)))))))))))))))
              refine aa_ (fun c => bj_ r_ r_ g_ p_) (yE_ r_ (ae_ (ay_ (jq_cut (2 + wPartsL l[k].value 20 0 + wAll f l[k].thn 0 + wAll f l[k].els 0) [] ⟨by omega, by omega, by rw [wOne, if_neg h12, if_pos hk3]⟩ rfl ?_))))
              (repeat (first | exact True.intro | refine ⟨rfl, ?_⟩))
            · refine R_ (o_ r_ (bn_ r_ r_ (E_ r_ (T_ (jc_condd rfl (fun hk4 => ?_) (fun hk4 => ?_))))))
              · have b5 := lim_bd (2 + wPartsL l[k].value 20 0 + wAll f l[k].thn 0) (by omega)
                unfold lim at b5
                rw [Int.min_comm] at b5
                have b6 : 0 ≤ Max.max 0 (min l[k].max 33) + 1 ∧ Max.max 0 (min l[k].max 33) + 1 ≤ 34 := by omega
                have b7 := prod_bd _ _ b6.1 b6.2 b5.1 b5.2
                refine R_ (F_ r_ (L_ 0 r_ (o_ r_ (cl_ r_ r_ (o_ r_ (ck_ r_ r_ (E_ r_ (T_ (ao_ r_ r_ k_ k_ (yM_ r_ (aa_ (fun c => bj_ r_ r_ g_ p_) (yF_ r_ (yL_ 0 r_ (aa_ (fun c => bm_ r_ (rexprs_c _) p_) (aa_ (fun c => bj_ r_ r_ g_ p_) (yF_ r_ (yL_ 0 r_ ?_)))))))))))))))))
                refine yM_ r_ (aa_ (fun c => bj_ r_ r_ g_ p_) (aa_ (fun c => bm_ r_ (ih _ _ g_ g_) p_) (aa_ (fun c => bj_ r_ r_ g_ p_) (aa_ (fun c => cl_ r_ r_ p_) (aa_ (fun c => cz_ r_ r_ g_ p_) (aa_ (fun c => bj_ r_ r_ g_ p_) (yE_ r_ (ae_ (ay_ ?_)))))))))
                refine jq_cut (2 + (Max.max 0 (min l[k].max 33) + 1) * min 1099511627776 (2 + wPartsL l[k].value 20 0 + wAll f l[k].thn 0)) [] ⟨by omega, by omega, by rw [wOne, if_neg h12, if_neg hk3, if_pos hk4, Int.min_comm 1099511627776]; rfl⟩ rfl ?_
                (repeat (first | exact True.intro | refine ⟨rfl, ?_⟩))
              · refine R_ (o_ r_ (bn_ r_ r_ (E_ r_ (T_ (jc_condd rfl (fun hk5 => ?_) (fun hk5 => ?_))))))
                · refine an_ (F_ r_ (L_ 0 r_ (M_ r_ (o_ r_ (bj_ r_ r_ g_ (o_ r_ (bm_ r_ (ih _ _ g_ g_) (o_ r_ (bj_ r_ r_ g_ (E_ r_ (ak_ (ay_ (jq_cut (2 + wAll f l[k].thn 0) [] ⟨by omega, by omega, by rw [wOne, if_neg h12, if_neg hk3, if_neg hk4, if_pos hk5]⟩ rfl ?_)))))))))))))
                  (repeat (first | exact True.intro | refine ⟨rfl, ?_⟩))
                · refine as_ (ay_ (jq_cut 0 [] ⟨by omega, by omega, by rw [wOne, if_neg h12, if_neg hk3, if_neg hk4, if_neg hk5]; rfl⟩ rfl ?_))
                  (repeat (first | exact True.intro | refine ⟨rfl, ?_⟩))
      · rintro n ⟨hn0, hn1, hn⟩
        refine an_ (M_ r_ (M_ r_ (o_ r_ (bj_ r_ r_ g_ (o_ r_ (cl_ r_ r_ (E_ r_ (ak_ (ay_ (al_ (an_ (M_ r_ (o_ r_ (bj_ r_ r_ g_ (E_ r_ (ak_ (jq_again (k + 1) [] hlt g_ rfl ?_)))))))))))))))))
        · rw [wAll_take (f + 1) l 0 k hlt, ← hn, lim_lim _ _ b8.1]
          unfold lim
          rw [Int.min_comm]
          (repeat (first | exact True.intro | refine ⟨rfl, ?_⟩))
    · simp only [List.length_map, Int.ofNat_lt] at hge
      refine av_ (ax_ (ax_ (ba_ (al_ (R_ (M_ r_ (E_ r_ (T_ (ar_ (jq_ret1 rfl rfl [] rfl (fun K h => by rw [← List.take_of_length_le (Nat.le_of_not_lt hge)] at h; exact h)))))))))))

theorem rweight_c : ∀ (f : Nat) (l : List Sm) (depth : Int), 0 ≤ depth → depth + f = 21 → Con Tryd.prog 116 [.cell (.list (l.map Sm.row)), In .i64 depth] [] (fun K => K (In .i64 (wAll f l 0)) [])
  | 0, l, depth, _, h1 => rweight_zero l depth (by omega)
  | f + 1, l, depth, h0, h1 => rweight_succ f (rweight_c f) l depth h0 h1
theorem rWeight_c (l : List Sm) : Con Tryd.prog 87 [.cell (.list (l.map Sm.row))] [] (fun K => K (In .i64 (wAll 20 l 0)) []) := by
  refine con_intro Tryd.func87 rfl rfl (Nat.le_of_ble_eq_true rfl) (fun c hc => R_ (E_ r_ (T_ (R_ (M_ r_ (o_ r_ (bm_ r_ (rweight_c 20 _ _ g_ g_) (E_ r_ (T_ (ar_ (jq_ret1 rfl rfl [] rfl (fun K h => h))))))))))))

end Go.Proofs.YtamajcgdfjeehaaDoor
end

section
namespace Go.Proofs.YtamajcgdfjeehaaDoor
open Go.Vc
set_option maxHeartbeats 4000000
attribute [local irreducible] JL JC JQ OpWp Con ConN

theorem flat_take {f : Sm → List Int} {l : List Sm} {k : Nat} (h : k < l.length) : (l.take (k + 1)).flatMap f = (l.take k).flatMap f ++ f l[k] := by
  rw [List.take_succ_eq_append_getElem h, List.flatMap_append]; simp
theorem flat_le {f : Sm → List Int} {l : List Sm} {k : Nat} (h : k < l.length) : ((l.take k).flatMap f).length + (f l[k]).length ≤ (l.flatMap f).length := by
  have h1 : l = l.take k ++ l[k] :: l.drop (k + 1) := by rw [List.getElem_cons_drop, List.take_append_drop]
  have h2 : (l.flatMap f).length = ((l.take k ++ l[k] :: l.drop (k + 1)).flatMap f).length := by rw [← h1]
  rw [h2]
  simp only [List.flatMap_append, List.flatMap_cons, List.length_append]
  omega

def rlSelf (s : Sm) : List Int := if s.kind = 3 then [s.label] else []
def rlOne : Nat → Sm → List Int
  | 0, _ => []
  | f + 1, s => rlSelf s ++ s.thn.flatMap (rlOne f) ++ s.els.flatMap (rlOne f)
theorem rl_zero (l : List Sm) : l.flatMap (rlOne 0) = [] := by
  induction l with
  | nil => rfl
  | cons s l ih => simp [rlOne]

theorem rlabels_c : ∀ (f : Nat) (l : List Sm) (depth : Int), 0 ≤ depth → depth + f = 21 → (l.flatMap (rlOne f)).length ≤ 1000000 →
    Con Tryd.prog 115 [.cell (.list (l.map Sm.row)), In .i64 depth, In .i64 3] [] (fun K => K (.cell (.list ((l.flatMap (rlOne f)).map Irow))) []) := by
  intro f
  induction f with
  | zero =>
    intro l depth h0 h1 hlim
    refine con_intro Tryd.func115 rfl rfl (Nat.le_of_ble_eq_true rfl) (fun c hc => R_ (E_ r_ (T_ (R_ (E_ r_ (T_ (am_ (R_ (E_ r_ (T_ (au_ (jc_loop [0, 1, 2, 6, 7] (fun _ : Nat => True) (fun _ => [(8, In .i64 0)]) (fun _ => []) (fun _ => 0) 0 [] trivial rfl ?_ ?_))))))))))))
    · (repeat (first | exact True.intro | refine ⟨rfl, ?_⟩))
    · intro k _
      refine am_ (am_ (jc_cut (ι := Unit) [6, 7] (fun _ => True) (fun _ => [(17, Bl false)]) (fun _ => []) ?_ ?_))
      · by_cases hl : (0 : Int) < ((l.map Sm.row).length : Int)
        · refine an_ (M_ r_ (M_ r_ (o_ r_ (br_ r_ (fun hlen => o_ r_ (bw_ r_ r_ (M_ r_ (ah_ r_ u_ b_ (bd_ r_ (ah_ r_ u_ b_ (cu_ r_ r_ (o_ r_ (bp_ r_ u_ r_ (ak_ (jq_cut () [] trivial rfl ?_)))))))))))))))
          rw [show decide (depth ≤ 20) = false from decide_eq_false (by omega)]
          (repeat (first | exact True.intro | refine ⟨rfl, ?_⟩))
        · refine an_ (M_ r_ (M_ r_ (o_ r_ (br_ r_ (fun hlen => o_ r_ (bw_ r_ r_ (M_ r_ (ai_ r_ w_ b_ (ai_ r_ w_ b_ (o_ r_ (bv_ r_ w_ r_ (ak_ (jq_cut () [] trivial rfl ?_)))))))))))))
          (repeat (first | exact True.intro | refine ⟨rfl, ?_⟩))
      · intro _ _
        skip
        refine jc_cond rfl (fun h => by cases h) (fun _ => av_ (ax_ (ax_ (ba_ (al_ (R_ (M_ r_ (E_ r_ (T_ (ar_ ?_))))))))))
        rw [rl_zero]
        refine jq_sle 6 rfl (SLe.cell CLe.nil) (jq_ret1 rfl rfl [] rfl (fun K h => h))
  | succ f ih =>
    intro l depth h0 h1 hlim
    refine con_intro Tryd.func115 rfl rfl (Nat.le_of_ble_eq_true rfl) (fun c hc => R_ (E_ r_ (T_ (R_ (E_ r_ (T_ (am_ (R_ (E_ r_ (T_ (au_ (jc_ownNil 3 1 g_ ?_))))))))))))
    refine jc_loop (ι := Nat × Value) [0, 1, 2] (fun i => i.1 ≤ l.length) (fun i => [(7, .cell (.val i.2)), (8, In .i64 (i.1 : Int))]) (fun i => [.own i.2 3 1 (((l.take i.1).flatMap (rlOne (f + 1))).map Irow)]) (fun i => l.length - i.1) (0, .slice none 0 0) [0] (Nat.zero_le _) rfl ?_ ?_
    · (repeat (first | exact True.intro | refine ⟨rfl, ?_⟩))
    · rintro ⟨k, v⟩ hk
      dsimp only at hk ⊢
      by_cases hlt : (k : Int) < ((l.map Sm.row).length : Int)
      · refine am_ (R_ (M_ r_ (M_ r_ (o_ r_ (br_ r_ (fun hlen => o_ r_ (bw_ r_ r_ (M_ r_ (ah_ r_ u_ b_ (bd_ r_ (ah_ r_ u_ b_ (cu_ r_ r_ (o_ r_ (bp_ r_ u_ r_ (T_ (jc_condd rfl (fun _ => ?_) (fun h => absurd (show depth ≤ 20 by omega) h)))))))))))))))))
        have hmax : l.length ≤ 9223372036854775807 := by simpa using hlen
        simp only [List.length_map, Int.ofNat_lt] at hlt
        have hle := flat_le (f := rlOne (f + 1)) hlt
        have e2 : rlOne (f + 1) l[k] = rlSelf l[k] ++ l[k].thn.flatMap (rlOne f) ++ l[k].els.flatMap (rlOne f) := rfl
        have hl2 := congrArg List.length e2
        simp only [List.length_append] at hl2
        refine as_ (al_ (B_ (R_ (M_ r_ (M_ r_ (o_ r_ (cc_ r_ r_ g_ (Sm.row_eq _) r_ b_ (o_ r_ (cr_ r_ r_ r_ (o_ r_ (bl_ r_ r_ (fun bl => S_ 0 r_ (T_ (am_ (am_ (jc_cut (ι := Unit) [0, 1, 2, 7, 8, 9] (fun _ => True) (fun _ => [(41, Bl (decide (l[k].kind = 3)))]) (fun _ => [.own v 3 1 (((l.take k).flatMap (rlOne (f + 1))).map Irow), .blk bl 52 l[k].row']) ?_ ?_))))))))))))))))
        · by_cases h3 : l[k].kind = 3
          · refine an_ (F_ r_ (L_ 0 r_ (o_ r_ (bn_ r_ r_ (M_ r_ (ai_ r_ u_ b_ (ai_ r_ u_ b_ (ai_ r_ u_ b_ (o_ r_ (bp_ r_ u_ r_ (M_ r_ (ah_ r_ r_ b_ (bd_ r_ (ah_ r_ r_ b_ (bn_ r_ r_ (ah_ r_ r_ b_ (bd_ r_ (ah_ r_ r_ b_ (bf_ r_ r_ r_ b_ (ah_ r_ r_ b_ (bg_ 0 r_ r_ r_ r_ (ah_ r_ r_ b_ (bd_ r_ ?_)))))))))))))))))))))))
            refine ah_ r_ r_ b_ (bn_ r_ r_ (ah_ r_ r_ b_ (bv_ r_ r_ r_ (o_ r_ (bp_ r_ r_ r_ (ak_ (jq_cut () [1, 0] trivial rfl ?_)))))))
            (repeat (first | exact True.intro | refine ⟨rfl, ?_⟩))
          · by_cases h4 : l[k].kind = 4
            · refine an_ (F_ r_ (L_ 0 r_ (o_ r_ (bn_ r_ r_ (M_ r_ (ah_ r_ w_ b_ (bf_ r_ r_ r_ b_ (ah_ r_ w_ b_ (bg_ 0 r_ r_ r_ r_ (ah_ r_ w_ b_ (bn_ r_ r_ (o_ r_ (bv_ r_ w_ r_ (M_ r_ (ah_ r_ u_ b_ (bd_ r_ (ah_ r_ u_ b_ (bn_ r_ r_ (ah_ r_ u_ b_ (bd_ r_ (ah_ r_ r_ b_ (bf_ r_ r_ r_ b_ (ah_ r_ r_ b_ (bg_ 0 r_ r_ r_ r_ (ah_ r_ r_ b_ (bd_ r_ ?_))))))))))))))))))))))))))
              refine ah_ r_ r_ b_ (bn_ r_ r_ (ah_ r_ u_ b_ (bv_ r_ r_ r_ (o_ r_ (bp_ r_ u_ r_ (ak_ (jq_cut () [1, 0] trivial rfl ?_)))))))
              (repeat (first | exact True.intro | refine ⟨rfl, ?_⟩))
            · refine an_ (F_ r_ (L_ 0 r_ (o_ r_ (bn_ r_ r_ (M_ r_ (ah_ r_ w_ b_ (bf_ r_ r_ r_ b_ (ah_ r_ w_ b_ (bg_ 0 r_ r_ r_ r_ (ah_ r_ w_ b_ (bn_ r_ r_ (o_ r_ (bv_ r_ w_ r_ (M_ r_ (ai_ r_ w_ b_ (ai_ r_ w_ b_ (ai_ r_ w_ b_ (aj_ r_ b_ (aj_ r_ b_ (aj_ r_ b_ ?_))))))))))))))))))))
              refine aj_ r_ b_ (ai_ r_ w_ b_ (o_ r_ (bv_ r_ w_ r_ (ak_ ?_))))
              rw [show decide (l[k].kind = 3) = false from decide_eq_false h3]
              refine jq_cut () [1, 0] trivial rfl ?_
              (repeat (first | exact True.intro | refine ⟨rfl, ?_⟩))
        intro _ _
        refine jc_cut (ι := Value) [0, 1, 2, 8, 9] (fun _ => True) (fun v => [(7, .cell (.val v))]) (fun v => [.own v 3 1 (((l.take k).flatMap (rlOne (f + 1)) ++ rlSelf l[k]).map Irow), .blk bl 52 l[k].row']) ?_ ?_
        · have hself : (rlSelf l[k]).length ≤ (rlOne (f + 1) l[k]).length := by rw [e2]; simp only [List.length_append]; omega
          refine jc_condd rfl (fun hw => ?_) (fun hw => ?_)
          · have e1 : rlSelf l[k] = [l[k].label] := by simp [rlSelf, hw]
            rw [e1] at hself ⊢
            simp only [List.length_cons, List.length_nil] at hself
            refine an_ (M_ r_ (F_ r_ (L_ 1 r_ (o_ r_ (bq_ r_ r_ b_ r_ r_ b_ (o_ r_ (ow_append1 0 (l[k].label) rfl rfl rfl rfl rfl rfl rfl (fun _ => rfl) (by show (_ + _) * 8 ≤ _; first | omega | (simp only [List.length_append]; omega)) (by first | omega | (simp only [List.length_append]; omega)) (fun v1 hv1 => E_ r_ (ak_ (jq_cut v1 [0, 0] trivial rfl ?_))))))))))
            (repeat (first | exact True.intro | refine ⟨rfl, ?_⟩))
          · have e1 : rlSelf l[k] = [] := by simp [rlSelf, hw]
            rw [e1, List.append_nil]
            refine as_ (jq_cut v [0, 0] trivial rfl ?_)
            (repeat (first | exact True.intro | refine ⟨rfl, ?_⟩))
        · intro v1 _
          refine R_ (M_ r_ (F_ r_ (L_ 1 r_ (M_ r_ (o_ r_ (bj_ r_ r_ g_ (M_ r_ (o_ r_ (bm_ r_ (ih _ _ g_ g_ g_) (o_ r_ (ow_appendM 0 rfl rfl rfl rfl rfl rfl rfl (fun _ => rfl) (by show (_ + _) * 8 ≤ _; first | omega | (simp only [List.length_append]; omega)) (by first | omega | (simp only [List.length_append]; omega)) (fun v2 hv2 => E_ r_ (T_ (an_ (M_ r_ (F_ r_ (L_ 1 r_ (M_ r_ ?_))))))))))))))))))
          refine o_ r_ (bj_ r_ r_ g_ (M_ r_ (o_ r_ (bm_ r_ (ih _ _ g_ g_ g_) (o_ r_ (ow_appendM 0 rfl rfl rfl rfl rfl rfl rfl (fun _ => rfl) (by show (_ + _) * 8 ≤ _; first | omega | (simp only [List.length_append]; omega)) (by first | omega | (simp only [List.length_append]; omega)) (fun v3 hv3 => E_ r_ (ak_ (ay_ (al_ (an_ (M_ r_ (o_ r_ (bj_ r_ r_ g_ (E_ r_ (ak_ ?_))))))))))))))))
          refine jq_again (i := (k, v)) (k + 1, v3) [0] hlt (by dsimp only; omega) (own_eq (congrArg (List.map Irow) ?_)) ?_
          · rw [flat_take hlt, e2]
            simp only [List.append_assoc]
          · (repeat (first | exact True.intro | refine ⟨rfl, ?_⟩))
      · refine am_ (R_ (M_ r_ (M_ r_ (o_ r_ (br_ r_ (fun hlen => o_ r_ (bw_ r_ r_ (M_ r_ (ai_ r_ w_ b_ (ai_ r_ w_ b_ (o_ r_ (bv_ r_ w_ r_ (T_ (jc_cond rfl (fun h => by cases h) (fun _ => av_ (ax_ (ax_ (ba_ ?_))))))))))))))))))
        refine al_ (R_ (M_ r_ (E_ r_ (T_ (ar_ ?_)))))
        simp only [List.length_map, Int.ofNat_lt] at hlt
        rw [List.take_of_length_le (Nat.le_of_not_lt hlt)]
        refine jq_freeze 6 0 rfl rfl (by rw [hc]; simp [hb]) (jq_ret1 rfl rfl [] rfl (fun K h => h))

def ifsOf (l : List Sm) : List Int := l.flatMap (rlOne 20)
theorem Ifs_c (l : List Sm) (h : (ifsOf l).length ≤ 1000000) : Con Tryd.prog 86 [.cell (.list (l.map Sm.row))] [] (fun K => K (.cell (.list ((ifsOf l).map Irow))) []) := by
  refine con_intro Tryd.func86 rfl rfl (Nat.le_of_ble_eq_true rfl) (fun c hc => R_ (E_ r_ (T_ (R_ (M_ r_ (o_ r_ (bm_ r_ (rlabels_c 20 _ _ g_ g_ h) (E_ r_ (T_ (ar_ (jq_ret1 rfl rfl [] rfl (fun K h => h))))))))))))
end Go.Proofs.YtamajcgdfjeehaaDoor
end

section
namespace Go.Proofs.YtamajcgdfjeehaaDoor
open Go.Vc
attribute [local irreducible] JL JC JQ OpWp Con ConN

section
variable {L : List Int} {bm bd : Nat} {V A : List ByteArray} {Sh : List Shd}
theorem maker_c (gv : Gv L V A Sh) : ∀ d : Nat, d ≤ 10 → StmtP L bm bd V A Sh d ∧ BlockP L bm bd V A Sh d ∧ LoopP L bm bd V A Sh d
  | 0, h => by
    have h1 : StmtP L bm bd V A Sh 0 := stmt_step gv 0 h (fun d' h => by omega) (fun d' h => by omega)
    have h2 := block_step gv 0 h1
    exact ⟨h1, h2, loop_step gv 0 h h2⟩
  | d + 1, h => by
    obtain ⟨_, g2, g3⟩ := maker_c gv d (by omega)
    have e2 : ∀ d', d + 1 = d' + 1 → BlockP L bm bd V A Sh d' := fun d' e => by
      have e : d' = d := by omega
      subst e
      exact g2
    have e3 : ∀ d', d + 1 = d' + 1 → LoopP L bm bd V A Sh d' := fun d' e => by
      have e : d' = d := by omega
      subst e
      exact g3
    have h1 := stmt_step gv (d + 1) h e2 e3
    have h2 := block_step gv (d + 1) h1
    exact ⟨h1, h2, loop_step gv (d + 1) h h2⟩
end

mutual
def Sm.sz : Sm → Nat
  | .mk _ _ _ _ _ _ t e => 1 + Sm.szs t + Sm.szs e
def Sm.szs : List Sm → Nat
  | [] => 0
  | s :: l => s.sz + Sm.szs l
end
theorem Sm.szs_app : ∀ l m : List Sm, Sm.szs (l ++ m) = Sm.szs l + Sm.szs m
  | [], m => by simp [Sm.szs]
  | s :: l, m => by simp only [List.cons_append, Sm.szs, Sm.szs_app l m]; omega
theorem Sm.sz_eq (s : Sm) : s.sz = 1 + Sm.szs s.thn + Sm.szs s.els := by cases s; simp [Sm.sz, Sm.thn, Sm.els]
theorem Sm.szs_take (l : List Sm) (n : Nat) : Sm.szs (l.take n) ≤ Sm.szs l := by
  have := Sm.szs_app (l.take n) (l.drop n)
  rw [List.take_append_drop] at this
  omega
theorem flat_szs {f : Sm → List Int} (h : ∀ s, (f s).length ≤ s.sz) : ∀ l : List Sm, (l.flatMap f).length ≤ Sm.szs l
  | [] => by simp
  | s :: l => by
    have := flat_szs h l
    have := h s
    simp only [List.flatMap_cons, List.length_append, Sm.szs]
    omega
theorem rlOne_le : ∀ (f : Nat) (s : Sm), (rlOne f s).length ≤ s.sz
  | 0, s => by simp [rlOne]
  | f + 1, s => by
    have h1 := flat_szs (rlOne_le f) s.thn
    have h2 := flat_szs (rlOne_le f) s.els
    have h3 : (rlSelf s).length ≤ 1 := by unfold rlSelf; split <;> simp
    simp only [rlOne, List.length_append, Sm.sz_eq s]
    omega
theorem ifs_le (l : List Sm) : (ifsOf l).length ≤ Sm.szs l := flat_szs (rlOne_le 20) l
def cntG : Nat → Nat
  | 0 => 1
  | d + 1 => 3 + 4 * cntG d
theorem cntG_pos (d : Nat) : 1 ≤ cntG d := by cases d <;> simp [cntG]; omega
theorem pc_szs {St : Int → Int → List Sm → Prop} {n : Nat} (h : ∀ a b l, St a b l → Sm.szs l ≤ n) {k : Nat} {a b : Int} {l : List Sm} (hp : PcG St k a b l) : Sm.szs l ≤ k * n := by
  induction hp with
  | nil => simp [Sm.szs]
  | snoc k _ _ _ l l2 _ h2 ih =>
    have := h _ _ _ h2
    rw [Sm.szs_app, Nat.add_mul]
    omega
theorem bl_szs {St : Int → Int → List Sm → Prop} {n : Nat} (h : ∀ a b l, St a b l → Sm.szs l ≤ n) {m : Nat} {a b : Int} {l : List Sm} (hp : BlG St m a b l) : Sm.szs l ≤ m * n := by
  obtain ⟨k, hk, hp⟩ := hp
  exact Nat.le_trans (pc_szs h hp) (Nat.mul_le_mul_right _ (by omega))
theorem StG_szs {V A : List ByteArray} {Sh : List Shd} : ∀ (d : Nat) (il : Int) (hs : ByteArray) (a b : Int) (l : List Sm), StG V A Sh d il hs a b l → Sm.szs l ≤ cntG d := by
  have leaf : ∀ {U : List ByteArray} {a b : Int} {l : List Sm}, LeafG V U a b l → Sm.szs l = 1 := by
    rintro U a b l ⟨_, ⟨s, e, _, _, rfl⟩ | ⟨s, e, e2, _, _, _, rfl⟩⟩ <;> simp [Sm.szs, Sm.sz]
  intro d
  induction d with
  | zero =>
    intro il hs a b l h
    have := leaf h
    simp [cntG, this]
  | succ d ih =>
    intro il hs a b l h
    have b2 : ∀ il hs a b l, BlG (StG V A Sh d il hs) 2 a b l → Sm.szs l ≤ 2 * cntG d := fun il hs a b l h => bl_szs (m := 2) (ih il hs) h
    have hp := cntG_pos d
    rcases h with h | h | h | h
    · have := leaf h
      simp only [cntG]
      omega
    · obtain ⟨_, c, l1, l2, lab1, _, h1, h2, rfl⟩ := h
      have e1 := b2 _ _ _ _ _ h1
      have e2 : Sm.szs l2 ≤ 2 * cntG d := by
        rcases h2 with ⟨rfl, _⟩ | h2
        · simp [Sm.szs]
        · exact b2 _ _ _ _ _ h2
      simp only [Sm.szs, Sm.sz, cntG]
      omega
    · obtain ⟨_, _, h | h⟩ := h
      · obtain ⟨c, mx, l1, _, _, h1, rfl⟩ := h
        have e1 := b2 _ _ _ _ _ h1
        simp only [Sm.szs, Sm.sz, cntG]
        omega
      · obtain ⟨v, n, op, top, mx, l1, st, _, _, _, _, _, _, h1, rfl⟩ := h
        have e1 := b2 _ _ _ _ _ h1
        simp only [Sm.szs, Sm.sz, cntG, Sm.szs_app]
        omega
    · obtain ⟨_, sh, _, l1, h1, rfl⟩ := h
      have e1 := b2 _ _ _ _ _ h1
      simp only [Sm.szs, Sm.sz, cntG]
      omega
theorem body_szs {V A : List ByteArray} {Sh : List Shd} {a b : Int} {l : List Sm} (h : BlG (StG V A Sh 3 0 E0) 5 a b l) : Sm.szs l ≤ 635 := bl_szs (m := 5) (StG_szs 3 0 E0) h
end Go.Proofs.YtamajcgdfjeehaaDoor
end

section
namespace Go.Proofs.YtamajcgdfjeehaaDoor
open Go.Vc
set_option maxHeartbeats 8000000
attribute [local irreducible] JL JC JQ OpWp Con ConN
attribute [local irreducible] StG BlG

abbrev NilC : C := .val (.slice none 0 0)
abbrev Zt : List C := [.val (.string ⟨#[]⟩), .val (.int .i64 0), .val (.int .i64 0), .val (.int .i64 0), .val (.int .i64 0), NilC, NilC, NilC, NilC, NilC, NilC]
abbrev Rw (nm : ByteArray) (per dln pri jit : Int) (a b c d e f : C) : List C := [.val (.string nm), .val (.int .i64 per), .val (.int .i64 dln), .val (.int .i64 pri), .val (.int .i64 jit), a, b, c, d, e, f]
abbrev M0 (bd : Nat) (v : Value) (Sh : List Shd) (N : Int) : List C := [.val (.pointer (some ⟨bd, 0, none⟩)), .val v, NilC, NilC, .list (Sh.map ShRow), .val (.string ⟨#[]⟩), .val (.int .i64 0), .val (.int .i64 N), .val (.int .i64 0)]
theorem pow_bd (i : Int) (h : i.toNat ≤ 30) : (0 : Int) ≤ 1 * 2 ^ i.toNat ∧ (1 : Int) * 2 ^ i.toNat ≤ 1073741824 := by
  have h6 : (2 : Nat) ^ i.toNat ≤ 2 ^ 30 := Nat.pow_le_pow_right (by omega) h
  have h7 : ((2 ^ i.toNat : Nat) : Int) = (2 : Int) ^ i.toNat := by simp
  have h8 : (0 : Int) ≤ (2 : Int) ^ i.toNat := h7 ▸ Int.natCast_nonneg _
  omega
abbrev XY : List ByteArray := [⟨#[120]⟩, ⟨#[121]⟩]
abbrev VS : List ByteArray := [⟨#[105]⟩, ⟨#[107]⟩, ⟨#[110]⟩]
def InG (k : Nat) (l : List Inp) : Prop := l.map (·.1) = XY.take k ∧ ∀ x ∈ l, (-2 ≤ x.2.1 ∧ x.2.1 ≤ 3) ∧ x.2.1 ≤ x.2.2 ∧ x.2.2 ≤ x.2.1 + 11
def ArG (l : List Arr) : Prop := l = [] ∨ ∃ k : Nat, k ≤ 3 ∧ l = [(⟨#[97]⟩, 2 ^ k)]
def MdG (I : List Inp) (l : List Md) : Prop := l = [] ∨ ∃ x lo hi, I[0]? = some x ∧ (x.2.1 ≤ lo ∧ lo ≤ hi ∧ hi ≤ x.2.2) ∧ l = [(⟨#[102, 101, 119]⟩, x.1, lo, hi)]
def ClG (ifs : List Int) (l : List Clm) : Prop := l = [] ∨ ∃ (a b : Nat) (ha : a < ifs.length) (hb : b < ifs.length), a ≠ b ∧ l = [(ifs[a], ifs[b])]
structure TaskG (Sh : List Shd) (nm : ByteArray) (W : Int) (t : Tk) : Prop where
  name : t.name = nm
  period : 2000 ≤ t.period ∧ t.period ≤ 6000
  deadline : t.period - 400 ≤ t.deadline ∧ t.deadline ≤ t.period
  priority : 1 ≤ t.priority ∧ t.priority ≤ 5
  jitter : 0 ≤ t.jitter ∧ t.jitter ≤ 30
  inputs : t.inputs.length ≤ 2 ∧ InG t.inputs.length t.inputs
  vars : t.vars = VS
  arrays : ArG t.arrays
  modes : MdG t.inputs t.modes
  claims : ClG (ifsOf t.body) t.claims
  body : ∃ lab l n, BlG (StG (t.inputs.map (·.1) ++ VS) (t.arrays.map (·.1)) Sh 3 0 E0) 5 0 lab l ∧ t.body = l.take n
  weight : wAll 20 t.body 0 ≤ W
theorem InG.len {k : Nat} {l : List Inp} (h : InG k l) (hk : k ≤ 2) : l.length = k := by
  have := congrArg List.length h.1
  simpa [Nat.min_eq_left hk] using this
theorem InG.snoc {k : Nat} {l : List Inp} (h : InG k l) {s : ByteArray} {lo hi : Int} (hs : XY[k]? = some s) (hb : (-2 ≤ lo ∧ lo ≤ 3) ∧ lo ≤ hi ∧ hi ≤ lo + 11) : InG (k + 1) (l ++ [(s, lo, hi)]) := by
  refine ⟨?_, fun x hx => ?_⟩
  · obtain ⟨hlt, rfl⟩ := List.getElem?_eq_some_iff.1 hs
    rw [List.map_append, h.1, List.take_succ_eq_append_getElem hlt]
    rfl
  · rcases List.mem_append.1 hx with hx | hx
    · exact h.2 x hx
    · rw [List.mem_singleton.1 hx]; exact hb

abbrev Et3 (bd : Nat) (W : Int) (br bt : Nat) : Env := [(0, Ptr bd), (3, In .i64 W), (10, Ptr br), (11, Ptr bt)]
abbrev Et (bd : Nat) (W : Int) (br bt bx : Nat) : Env := [(0, Ptr bd), (3, In .i64 W), (10, Ptr br), (11, Ptr bt), (12, Ptr bx)]

section
variable {L : List Int} {bd : Nat} {Sh : List Shd}

theorem task_c (hL : InR L) (hLn : L.length ≤ 400) (hSh : Sh.length ≤ 100) (nm : ByteArray) (W N : Int) (hW : 0 ≤ W ∧ W ≤ 1000000) (hN : 0 ≤ N ∧ N ≤ 14) :
    Con Tryd.prog 52 [Ptr bd, Str nm, .cell (.list (Sh.map ShRow)), In .i64 W, In .i64 N] [Dk bd L] (fun K => ∀ t : Tk, TaskG Sh nm W t → K (.row t.row) [Dk bd L]) := by
  refine con_intro Tryd.func52 rfl rfl (Nat.le_of_ble_eq_true rfl) (fun c hc => R_ (o_ r_ (bl_ rfl rfl (fun br => T_ (R_ (M_ r_ (M_ r_ (o_ r_ (bt_ [1] rfl rfl (Nx_c _ hL hLn g_) (fun k1 hk1 => o_ r_ (cz_ r_ r_ g_ (o_ r_ (bj_ r_ r_ g_ (M_ r_ (o_ r_ (bt_ [0] rfl rfl (Nx_c _ hL hLn g_) (fun k2 hk2 => o_ r_ (bj_ r_ r_ g_ (M_ r_ (o_ r_ (bt_ [0] rfl rfl (Nx_c _ hL hLn g_) (fun k3 hk3 => ?_))))))))))))))))))))))
  refine o_ r_ (cz_ r_ r_ g_ (o_ r_ (bu_ r_ r_ r_ r_ r_ (o_ r_ (bl_ rfl rfl (fun bt => S_ 0 r_ (T_ (am_ (jc_anyB 6 none rfl k_ k_ (yF_ r_ (yL_ 0 r_ (yM_ r_ (aa_ (fun c => ow_callA [1] r_ r_ (gNext_c L _ _ hL hLn g_)) (aa_ (fun c => ow_exarg 35 rfl (fun i => cz_ rfl rfl (by have := i.2; omega) ⟨rfl, .refl _⟩)) (aa_ (fun c => ow_exarg 36 rfl (fun i => cg_ rfl rfl (by have := i.2; omega) ⟨rfl, .refl _⟩)) ?_)))))))))))))))
  refine ae_ (afin_none (jl_slot 37 rfl (fun dl => F_ r_ (W_ 0 r_ (T_ (R_ (M_ r_ (M_ r_ (M_ r_ (o_ r_ (bu_ r_ r_ r_ r_ r_ (o_ r_ (ci_ r_ (fun bx => E_ r_ (T_ (am_ (R_ (E_ r_ ?_))))))))))))))))))
  refine T_ (jc_ownNil 9 1 g_ (jc_ownNil 120 3 g_ ?_))
  have hdl := dl.2
  generalize hper : 2000 + k1 * 500 = per
  generalize hdln : per - dl.1 * 100 = dln
  generalize hpri : 1 + k2 = pri
  generalize hjit : k3 * 10 = jit
  have hper2 : 2000 ≤ per ∧ per ≤ 6000 := by omega
  have hdln2 : per - 400 ≤ dln ∧ dln ≤ per := by omega
  have hpri2 : 1 ≤ pri ∧ pri ≤ 5 := by omega
  have hjit2 : 0 ≤ jit ∧ jit ≤ 30 := by omega
  clear hper hdln hpri hjit hdl hk1 hk2 hk3
  refine jc_cut (ι := (Value × List Inp) × (Value × List ByteArray)) [] (fun i => (c.Fresh i.1.1 ∧ c.Fresh i.2.1) ∧ ∃ n, n ≤ 2 ∧ InG n i.1.2 ∧ i.2.2 = XY.take n) (fun _ => Et bd W br bt bx)
    (fun i => [.blk bt 50 (Rw nm per dln pri jit (.val i.1.1) NilC NilC NilC NilC NilC), .blk bx 138 (M0 bd i.2.1 Sh N), .own i.1.1 120 3 (i.1.2.map InRow), .own i.2.1 9 1 (i.2.2.map Wrow), Dk bd L, .blk br 50 Zt]) ?_ ?_
  · refine au_ ?_
    refine jc_loopS (ι := Nat × (Value × List Inp) × (Value × List ByteArray)) [] (fun i => i.1 ≤ 2 ∧ (c.Fresh i.2.1.1 ∧ c.Fresh i.2.2.1) ∧ InG i.1 i.2.1.2 ∧ i.2.2.2 = XY.take i.1) (fun i => (13, In .i64 (i.1 : Int)) :: Et bd W br bt bx)
      (fun i => [.blk bt 50 (Rw nm per dln pri jit (.val i.2.1.1) NilC NilC NilC NilC NilC), .blk bx 138 (M0 bd i.2.2.1 Sh N), .own i.2.1.1 120 3 (i.2.1.2.map InRow), .own i.2.2.1 9 1 (i.2.2.2.map Wrow), Dk bd L, .blk br 50 Zt]) (fun i => 3 - i.1) (0, (.slice none 0 0, []), (.slice none 0 0, [])) ⟨by omega, ⟨fresh_nil, fresh_nil⟩, ⟨by simp, by simp⟩, by simp⟩ ?_ ?_ ?_
    · exact bc_ 3 r_ (bc_ 2 r_ (bc_ 0 r_ (bc_ 0 r_ (bc_ 0 r_ (bc_ 0 r_ sub_end)))))
    · (repeat (first | exact True.intro | refine ⟨rfl, ?_⟩))
    · rintro ⟨k, ⟨vI, lI⟩, vV, lV⟩ ⟨hk, ⟨hfI, hfV⟩, hokI, hlV⟩
      dsimp only at hk hfI hfV hokI hlV ⊢
      have hlI := hokI.len hk
      have hlV2 : lV.length ≤ 2 := by rw [hlV]; simp; omega
      refine am_ (R_ (M_ r_ (M_ r_ (o_ r_ (bt_ [4] rfl rfl (Nx_c _ hL hLn g_) (fun k4 hk4 => o_ r_ (bw_ r_ r_ (T_ (jc_condd rfl (fun hlt => ?_) (fun hge => ?_))))))))))
      · refine as_ (al_ (B_ (am_ (jc_cut (ι := ByteArray) [] (fun s => k ≤ 1 → XY[k]? = some s) (fun s => (14, Str s) :: ((13, In .i64 (k : Int)) :: Et bd W br bt bx)) (fun _ => [.blk bt 50 (Rw nm per dln pri jit (.val vI) NilC NilC NilC NilC NilC), .blk bx 138 (M0 bd vV Sh N), .own vI 120 3 (lI.map InRow), .own vV 9 1 (lV.map Wrow), Dk bd L, .blk br 50 Zt]) ?_ ?_))))
        · have hk3 : k = 0 ∨ k = 1 ∨ k = 2 := by omega
          rcases hk3 with rfl | rfl | rfl
          · refine an_ (o_ r_ (bq_ r_ r_ b_ r_ r_ b_ (M_ r_ (o_ r_ (ow_rem64 r_ r_ g_ g_ (o_ r_ (ow_indexAddr r_ r_ g_ r_ r_ b_ (o_ r_ (cb_ r_ r_ (E_ r_ (ak_ (jq_cutS (⟨#[120]⟩ : ByteArray) (fun _ => rfl) ?_ ?_))))))))))))
            · exact bc_ 1 r_ (bc_ 1 r_ (bc_ 1 r_ (bc_ 1 r_ (bc_ 0 r_ (bc_ 0 r_ sub_end)))))
            · (repeat (first | exact True.intro | refine ⟨rfl, ?_⟩))
          · refine an_ (o_ r_ (bq_ r_ r_ b_ r_ r_ b_ (M_ r_ (o_ r_ (ow_rem64 r_ r_ g_ g_ (o_ r_ (ow_indexAddr r_ r_ g_ r_ r_ b_ (o_ r_ (cb_ r_ r_ (E_ r_ (ak_ (jq_cutS (⟨#[121]⟩ : ByteArray) (fun _ => rfl) ?_ ?_))))))))))))
            · exact bc_ 1 r_ (bc_ 1 r_ (bc_ 1 r_ (bc_ 1 r_ (bc_ 0 r_ (bc_ 0 r_ sub_end)))))
            · (repeat (first | exact True.intro | refine ⟨rfl, ?_⟩))
          · refine an_ (o_ r_ (bq_ r_ r_ b_ r_ r_ b_ (M_ r_ (o_ r_ (ow_rem64 r_ r_ g_ g_ (o_ r_ (ow_indexAddr r_ r_ g_ r_ r_ b_ (o_ r_ (cb_ r_ r_ (E_ r_ (ak_ (jq_cutS (⟨#[120]⟩ : ByteArray) (fun h => by omega) ?_ ?_))))))))))))
            · exact bc_ 1 r_ (bc_ 1 r_ (bc_ 1 r_ (bc_ 1 r_ (bc_ 0 r_ (bc_ 0 r_ sub_end)))))
            · (repeat (first | exact True.intro | refine ⟨rfl, ?_⟩))
        intro s hsXY
        refine am_ (R_ (M_ r_ (o_ r_ (bz_ r_ r_ (T_ (jc_condd rfl (fun h1 => ?_) (fun h1 => ?_)))))))
        · refine av_ (ax_ (bb_ r_ (ax_ (ax_ (ba_ (jq_cutS ((vI, lI), (vV, lV)) ⟨⟨hfI, hfV⟩, k, hk, hokI, hlV⟩ ?_ ?_))))))
          · exact bc_ 0 r_ (bc_ 0 r_ (bc_ 0 r_ (bc_ 0 r_ (bc_ 0 r_ (bc_ 0 r_ sub_end)))))
          · (repeat (first | exact True.intro | refine ⟨rfl, ?_⟩))
        · refine as_ (al_ (R_ (M_ r_ (o_ r_ (bt_ [4] rfl rfl (Nx_c _ hL hLn g_) (fun k5 hk5 => o_ r_ (cg_ r_ r_ g_ (E_ r_ (T_ (am_ (jc_anyB 10 none rfl k_ k_ (yF_ r_ (yL_ 1 r_ (yM_ r_ (yM_ r_ (yM_ r_ (yM_ r_ ?_)))))))))))))))))
          refine aa_ (fun c => ow_callA [0] r_ r_ (gNext_c L _ _ hL hLn g_)) (aa_ (fun c => ow_exarg 66 rfl (fun i => bj_ rfl rfl (by have := i.2; omega) ⟨rfl, .refl _⟩)) (aa_ (fun c => ow_exarg 67 rfl (fun i => bu_ rfl rfl rfl rfl rfl ⟨rfl, .refl _⟩)) (aa_ (fun c => ow_exarg 68 rfl (fun i => bq_ rfl rfl b_ rfl rfl b_ ⟨rfl, .refl _⟩)) (ae_ (afin_none (jl_slot 69 rfl (fun n => ?_)))))))
          (first | refine jl_op (ow_append1F 3 ((s, k5 - 2, k5 - 2 + n.1)) rfl rfl rfl rfl rfl rfl rfl (fun _ => rfl) (by show (_ + _) * 32 ≤ _; first | omega | (simp only [List.length_append]; omega)) (by first | omega | (simp only [List.length_append]; omega)) (fun vI1 hvI1 fvI1 => ?_)) (nb rfl) | refine jl_op (ow_append1F 2 ((s, k5 - 2, k5 - 2 + n.1)) rfl rfl rfl rfl rfl rfl rfl (fun _ => rfl) (by show (_ + _) * 32 ≤ _; first | omega | (simp only [List.length_append]; omega)) (by first | omega | (simp only [List.length_append]; omega)) (fun vI1 hvI1 fvI1 => ?_)) (nb rfl) | refine jl_op (ow_append1F 4 ((s, k5 - 2, k5 - 2 + n.1)) rfl rfl rfl rfl rfl rfl rfl (fun _ => rfl) (by show (_ + _) * 32 ≤ _; first | omega | (simp only [List.length_append]; omega)) (by first | omega | (simp only [List.length_append]; omega)) (fun vI1 hvI1 fvI1 => ?_)) (nb rfl))
          refine F_ r_ (W_ 2 r_ (T_ (an_ (M_ r_ (M_ r_ (N_ r_ (F_ r_ (L_ 3 r_ (M_ r_ (o_ r_ (bq_ r_ r_ b_ r_ r_ b_ ?_)))))))))))
          (first | refine jl_op (ow_append1F 3 (s) rfl rfl rfl rfl rfl rfl rfl (fun _ => rfl) (by show (_ + _) * 16 ≤ _; first | omega | (simp only [List.length_append]; omega)) (by first | omega | (simp only [List.length_append]; omega)) (fun vV1 hvV1 fvV1 => ?_)) (nb rfl) | refine jl_op (ow_append1F 2 (s) rfl rfl rfl rfl rfl rfl rfl (fun _ => rfl) (by show (_ + _) * 16 ≤ _; first | omega | (simp only [List.length_append]; omega)) (by first | omega | (simp only [List.length_append]; omega)) (fun vV1 hvV1 fvV1 => ?_)) (nb rfl) | refine jl_op (ow_append1F 4 (s) rfl rfl rfl rfl rfl rfl rfl (fun _ => rfl) (by show (_ + _) * 16 ≤ _; first | omega | (simp only [List.length_append]; omega)) (by first | omega | (simp only [List.length_append]; omega)) (fun vV1 hvV1 fvV1 => ?_)) (nb rfl))
          refine N_ r_ (F_ r_ (W_ 4 r_ (ak_ (ay_ (al_ (an_ (M_ r_ (o_ r_ (bj_ r_ r_ g_ (E_ r_ (ak_ ?_)))))))))))
          have hk1 : k ≤ 1 := by omega
          refine jq_againS (i := (k, (vI, lI), (vV, lV))) (k + 1, (vI1, lI ++ [(s, k5 - 2, k5 - 2 + n.1)]), (vV1, lV ++ [s])) ⟨by dsimp only; omega, ⟨fvI1 hfI, fvV1 hfV⟩, hokI.snoc (hsXY hk1) (by have := n.2; omega), by
            obtain ⟨hlt, rfl⟩ := List.getElem?_eq_some_iff.1 (hsXY hk1)
            dsimp only
            rw [hlV, List.take_succ_eq_append_getElem hlt]⟩ (by dsimp only; omega) ?_ ?_
          · exact bc_ 2 r_ (bc_ 0 r_ (bc_ 1 r_ (bc_ 0 r_ (bc_ 0 r_ (bc_ 0 r_ sub_end)))))
          · (repeat (first | exact True.intro | refine ⟨rfl, ?_⟩))
      · refine av_ (ax_ (ax_ (ba_ (jq_cutS ((vI, lI), (vV, lV)) ⟨⟨hfI, hfV⟩, k, hk, hokI, hlV⟩ ?_ ?_))))
        · exact bc_ 1 r_ (bc_ 1 r_ (bc_ 1 r_ (bc_ 1 r_ (bc_ 0 r_ (bc_ 0 r_ sub_end)))))
        · (repeat (first | exact True.intro | refine ⟨rfl, ?_⟩))
  rintro ⟨⟨vI, lI⟩, vV, lV⟩ ⟨⟨hfI, hfV⟩, nI, hnI, hokI, hlV⟩
  dsimp only at hfI hfV hokI hlV ⊢
  have hlI := hokI.len hnI
  have hlV2 : lV.length ≤ 2 := by rw [hlV]; simp; omega
  have hlVI : lV = lI.map (·.1) := by rw [hlV, hokI.1]
  clear hlV
  refine jc_freezeB 2 0 5 rfl rfl hfI (R_ (o_ r_ (bq_ r_ r_ b_ r_ r_ b_ (F_ r_ (W_ 0 r_ (T_ (am_ (jc_anyF 7 none [0] rfl k_ k_ k_ rfl (yM_ r_ (yM_ r_ (yN_ r_ (yF_ r_ (yL_ 1 r_ (yF_ r_ (yL_ 0 r_ (ae_ ?_))))))))))))))))
  refine afin_none ?_
  (first | refine jl_op (ow_appendMF (f := Wrow) (l1 := lV) (l2 := [⟨#[105]⟩, ⟨#[107]⟩, ⟨#[110]⟩]) 2 rfl rfl rfl rfl rfl rfl rfl (fun _ => rfl) (by show (_ + 3) * 16 ≤ _; omega) (by simp; omega) (fun vV1 hvV1 fvV1 => ?_)) (nb rfl) | refine jl_op (ow_appendMF (f := Wrow) (l1 := lV) (l2 := [⟨#[105]⟩, ⟨#[107]⟩, ⟨#[110]⟩]) 3 rfl rfl rfl rfl rfl rfl rfl (fun _ => rfl) (by show (_ + 3) * 16 ≤ _; omega) (by simp; omega) (fun vV1 hvV1 fvV1 => ?_)) (nb rfl))
  refine jl_freezeF 91 0 rfl rfl (fvV1 hfV) ?_
  generalize hVe : lV ++ VS = V
  have hV0 : 0 < V.length := by rw [← hVe]; simp
  have hV : V.length ≤ 100 := by rw [← hVe]; simp; omega
  refine N_ r_ (F_ r_ (W_ 1 r_ (ak_ (jq_np (al_ (am_ ?_))))))
  have hMk : RowLe [.val (.pointer (some ⟨bd, 0, none⟩)), .list (V.map Wrow), NilC, NilC, .list (Sh.map ShRow), .val (.string ⟨#[]⟩), .val (.int .i64 0), .val (.int .i64 N), .val (.int .i64 0)] (MkRow bd V (.slice none 0 0) [] Sh ⟨#[]⟩ 0 N 0) :=
    .cons (.refl _) (.cons (.refl _) (.cons (.refl _) (.cons .nil (.refl _))))
  (first | refine jc_row 0 _ rfl hMk ?_ | refine jc_row 1 _ rfl hMk ?_ | refine jc_row 2 _ rfl hMk ?_)
  refine jc_cut (ι := List Arr) [] ArG (fun _ => Et bd W br bt bx) (fun ar => [.blk bt 50 (Rw nm per dln pri jit (.list (lI.map InRow)) (.list (VS.map Wrow)) (.list (ar.map ArRow)) NilC NilC NilC), Mk bx bd V (.slice none 0 0) (ar.map (·.1)) Sh ⟨#[]⟩ 0 N 0, Dk bd L, .blk br 50 Zt]) ?_ ?_
  · refine R_ (M_ r_ (o_ r_ (bt_ [2] rfl rfl (Nx_c _ hL hLn g_) (fun k6 hk6 => o_ r_ (bn_ r_ r_ (T_ (jc_condd rfl (fun h1 => ?_) (fun h1 => ?_))))))))
    · refine R_ (M_ r_ (o_ r_ (bt_ [0] rfl rfl (Nx_c _ hL hLn g_) (fun k7 hk7 => ?_))))
      have h5 := pow_bd k7 (by omega)
      refine o_ r_ (ow_convU64 r_ r_ r_ g_ (o_ r_ (ow_shl64 r_ r_ g_ g_ (o_ r_ (bu_ r_ r_ r_ r_ r_ (o_ r_ (bq_ r_ r_ b_ r_ r_ b_ (F_ r_ (W_ 2 r_ (T_ (an_ (M_ r_ (o_ r_ (bq_ r_ r_ b_ r_ r_ b_ (N_ r_ (F_ r_ (W_ 2 r_ (ak_ ?_))))))))))))))))))
      (first | refine jq_row 0 (MkRow bd V (.slice none 0 0) [⟨#[97]⟩] Sh ⟨#[]⟩ 0 N 0) rfl (.refl _) ?_ | refine jq_row 1 (MkRow bd V (.slice none 0 0) [⟨#[97]⟩] Sh ⟨#[]⟩ 0 N 0) rfl (.refl _) ?_ | refine jq_row 2 (MkRow bd V (.slice none 0 0) [⟨#[97]⟩] Sh ⟨#[]⟩ 0 N 0) rfl (.refl _) ?_ | refine jq_row 3 (MkRow bd V (.slice none 0 0) [⟨#[97]⟩] Sh ⟨#[]⟩ 0 N 0) rfl (.refl _) ?_)
      refine jq_cutS ([(⟨#[97]⟩, 1 * 2 ^ k7.toNat)] : List Arr) (.inr ⟨k7.toNat, by omega, by rw [Int.one_mul]⟩) ?_ ?_
      · exact bc_ 1 r_ (bc_ 0 r_ (bc_ 0 r_ (bc_ 0 r_ sub_end)))
      · (repeat (first | exact True.intro | refine ⟨rfl, ?_⟩))
    · refine as_ ?_
      (first | refine jq_row 0 (Rw nm per dln pri jit (.list (lI.map InRow)) (.list (VS.map Wrow)) (.list (([] : List Arr).map ArRow)) NilC NilC NilC) rfl (.cons (.refl _) (.cons (.refl _) (.cons (.refl _) (.cons (.refl _) (.cons (.refl _) (.cons (.refl _) (.cons (.refl _) (.cons .nil (.refl _))))))))) ?_ | refine jq_row 1 (Rw nm per dln pri jit (.list (lI.map InRow)) (.list (VS.map Wrow)) (.list (([] : List Arr).map ArRow)) NilC NilC NilC) rfl (.cons (.refl _) (.cons (.refl _) (.cons (.refl _) (.cons (.refl _) (.cons (.refl _) (.cons (.refl _) (.cons (.refl _) (.cons .nil (.refl _))))))))) ?_ | refine jq_row 2 (Rw nm per dln pri jit (.list (lI.map InRow)) (.list (VS.map Wrow)) (.list (([] : List Arr).map ArRow)) NilC NilC NilC) rfl (.cons (.refl _) (.cons (.refl _) (.cons (.refl _) (.cons (.refl _) (.cons (.refl _) (.cons (.refl _) (.cons (.refl _) (.cons .nil (.refl _))))))))) ?_ | refine jq_row 3 (Rw nm per dln pri jit (.list (lI.map InRow)) (.list (VS.map Wrow)) (.list (([] : List Arr).map ArRow)) NilC NilC NilC) rfl (.cons (.refl _) (.cons (.refl _) (.cons (.refl _) (.cons (.refl _) (.cons (.refl _) (.cons (.refl _) (.cons (.refl _) (.cons .nil (.refl _))))))))) ?_)
      refine jq_cutS ([] : List Arr) (.inl rfl) ?_ ?_
      · exact bc_ 0 r_ (bc_ 1 r_ (bc_ 0 r_ (bc_ 0 r_ sub_end)))
      · (repeat (first | exact True.intro | refine ⟨rfl, ?_⟩))
  intro ar har
  refine am_ (jc_cut (ι := List Md) [] (MdG lI) (fun _ => Et bd W br bt bx) (fun md => [.blk bt 50 (Rw nm per dln pri jit (.list (lI.map InRow)) (.list (VS.map Wrow)) (.list (ar.map ArRow)) (.list (md.map MdRow)) NilC NilC), Mk bx bd V (.slice none 0 0) (ar.map (·.1)) Sh ⟨#[]⟩ 0 N 0, Dk bd L, .blk br 50 Zt]) ?_ ?_)
  · refine am_ (jc_cut (ι := Bool) [] (fun b => b = true → 0 < lI.length) (fun b => (116, Bl b) :: Et bd W br bt bx) (fun _ => [.blk bt 50 (Rw nm per dln pri jit (.list (lI.map InRow)) (.list (VS.map Wrow)) (.list (ar.map ArRow)) NilC NilC NilC), Mk bx bd V (.slice none 0 0) (ar.map (·.1)) Sh ⟨#[]⟩ 0 N 0, Dk bd L, .blk br 50 Zt]) ?_ ?_)
    · by_cases hl : (0 : Int) < ((lI.map InRow).length : Int)
      · refine an_ (F_ r_ (L_ 0 r_ (o_ r_ (br_ r_ (fun hlen => o_ r_ (bz_ r_ r_ (M_ r_ (ah_ r_ u_ b_ (bd_ r_ (ah_ rfl (by (first | assumption | exact decide_eq_true rfl | exact decide_eq_true (by first | assumption | omega) | exact decide_eq_false (by first | assumption | omega) | with_reducible rfl | exact (rfl : false = !true) | exact (rfl : true = !false))) b_ (bt_ [2] rfl rfl (Nx_c _ hL hLn g_) (fun k8 hk8 => ?_))))))))))))
        refine ah_ r_ u_ b_ (bn_ r_ r_ (o_ r_ (bp_ r_ u_ r_ (ak_ (jq_cutS (decide (k8 = 1)) (fun _ => by simp at hl; omega) ?_ ?_)))))
        · exact bc_ 1 r_ (bc_ 1 r_ (bc_ 0 r_ (bc_ 0 r_ sub_end)))
        · (repeat (first | exact True.intro | refine ⟨rfl, ?_⟩))
      · refine an_ (F_ r_ (L_ 0 r_ (o_ r_ (br_ r_ (fun hlen => o_ r_ (bz_ r_ r_ (M_ r_ (ai_ r_ w_ b_ (ai_ r_ w_ b_ (ai_ r_ w_ b_ (o_ r_ (bv_ r_ w_ r_ (ak_ (jq_cutS false (by simp) ?_ ?_))))))))))))))
        · exact bc_ 0 r_ (bc_ 0 r_ (bc_ 0 r_ (bc_ 0 r_ sub_end)))
        · (repeat (first | exact True.intro | refine ⟨rfl, ?_⟩))
    intro b hb
    refine jc_cond rfl (fun hbt => ?_) (fun hbt => ?_)
    · have hl0 := hb hbt
      have hx := hokI.2 lI[0] (List.getElem_mem _)
      refine R_ (F_ r_ (L_ 0 r_ (o_ r_ (cc_ (k := 0) r_ r_ hl0 r_ r_ b_ (o_ r_ (cr_ r_ r_ r_ (o_ r_ (bl_ r_ r_ (fun bl => S_ 0 r_ (T_ (am_ (ao_ r_ r_ k_ k_ (yF_ r_ (yL_ 0 r_ (yM_ r_ (yF_ r_ (yL_ 0 r_ (yF_ r_ ?_))))))))))))))))))
      refine yL_ 0 r_ (aa_ (fun c => cg_ r_ r_ g_ p_) (aa_ (fun c => bj_ r_ r_ g_ p_) (aa_ (fun c => ow_callA [3] r_ r_ (gNext_c L _ (lI[0].2.2 - lI[0].2.1 + 1) hL hLn g_)) (aa_ (fun c => ow_exarg 130 rfl (fun i => bj_ rfl rfl (by have := i.2; omega) ⟨rfl, .refl _⟩)) (aa_ (fun c => ow_exarg 131 rfl (fun i => be_ rfl ⟨rfl, .refl _⟩)) (ae_ (jq_slot 17 rfl (fun lo => ?_))))))))
      have hlo := lo.2
      refine al_ (jc_anyB 14 none rfl k_ k_ (yF_ r_ (yL_ 0 r_ (yM_ r_ (yM_ r_ (yM_ r_ (yF_ r_ (yL_ 0 r_ (yM_ r_ (aa_ (fun c => cg_ r_ r_ g_ p_) (aa_ (fun c => bj_ r_ r_ g_ p_) (aa_ (fun c => ow_callA [3] r_ r_ (gNext_c L _ (lI[0].2.2 - (lI[0].2.1 + lo.1) + 1) hL hLn g_)) (aa_ (fun c => ow_exarg 142 rfl (fun i => bj_ rfl rfl (by have := i.2; omega) ⟨rfl, .refl _⟩)) ?_)))))))))))))
      refine aa_ (fun c => ow_exarg 143 rfl (fun i => bu_ rfl rfl rfl rfl rfl ⟨rfl, .refl _⟩)) (aa_ (fun c => ow_exarg 144 rfl (fun i => bq_ rfl rfl b_ rfl rfl b_ ⟨rfl, .refl _⟩)) (ae_ (afin_none (jl_slot 145 rfl (fun n => F_ r_ (W_ 1 r_ (ak_ (jq_cutS ([(⟨#[102, 101, 119]⟩, lI[0].1, lI[0].2.1 + lo.1, lI[0].2.1 + lo.1 + n.1)] : List Md) (.inr ⟨lI[0], _, _, by simp, by have := n.2; omega, rfl⟩) ?_ ?_))))))))
      · exact bc_ 0 r_ (bc_ 1 r_ (bc_ 1 r_ (bc_ 1 r_ sub_end)))
      · (repeat (first | exact True.intro | refine ⟨rfl, ?_⟩))
    · refine as_ ?_
      (first | refine jq_row 0 (Rw nm per dln pri jit (.list (lI.map InRow)) (.list (VS.map Wrow)) (.list (ar.map ArRow)) (.list (([] : List Md).map MdRow)) NilC NilC) rfl (.cons (.refl _) (.cons (.refl _) (.cons (.refl _) (.cons (.refl _) (.cons (.refl _) (.cons (.refl _) (.cons (.refl _) (.cons (.refl _) (.cons .nil (.refl _)))))))))) ?_ | refine jq_row 1 (Rw nm per dln pri jit (.list (lI.map InRow)) (.list (VS.map Wrow)) (.list (ar.map ArRow)) (.list (([] : List Md).map MdRow)) NilC NilC) rfl (.cons (.refl _) (.cons (.refl _) (.cons (.refl _) (.cons (.refl _) (.cons (.refl _) (.cons (.refl _) (.cons (.refl _) (.cons (.refl _) (.cons .nil (.refl _)))))))))) ?_ | refine jq_row 2 (Rw nm per dln pri jit (.list (lI.map InRow)) (.list (VS.map Wrow)) (.list (ar.map ArRow)) (.list (([] : List Md).map MdRow)) NilC NilC) rfl (.cons (.refl _) (.cons (.refl _) (.cons (.refl _) (.cons (.refl _) (.cons (.refl _) (.cons (.refl _) (.cons (.refl _) (.cons (.refl _) (.cons .nil (.refl _)))))))))) ?_ | refine jq_row 3 (Rw nm per dln pri jit (.list (lI.map InRow)) (.list (VS.map Wrow)) (.list (ar.map ArRow)) (.list (([] : List Md).map MdRow)) NilC NilC) rfl (.cons (.refl _) (.cons (.refl _) (.cons (.refl _) (.cons (.refl _) (.cons (.refl _) (.cons (.refl _) (.cons (.refl _) (.cons (.refl _) (.cons .nil (.refl _)))))))))) ?_)
      refine jq_cutS ([] : List Md) (.inl rfl) ?_ ?_
      · exact bc_ 0 r_ (bc_ 0 r_ (bc_ 0 r_ (bc_ 0 r_ sub_end)))
      · (repeat (first | exact True.intro | refine ⟨rfl, ?_⟩))
  intro md hmd
  have harl : ar.length ≤ 1 := by rcases har with rfl | ⟨k, _, rfl⟩ <;> simp
  have gv : Gv L V (ar.map (·.1)) Sh := ⟨hL, hLn, hV0, hV, by rw [List.length_map]; omega, hSh⟩
  have hblk := (maker_c (bm := bx) (bd := bd) gv 3 (by omega)).2.1
  refine jc_ownNil 9 1 g_ (R_ (M_ r_ ?_))
  have con := hblk ⟨.slice none 0 0, 0, N⟩ ⟨#[]⟩ 0 [] 3 5 ⟨⟨by dsimp only; omega, by dsimp only; omega⟩, hN.1, hN.2⟩ (by omega) (by omega) (by simp) rfl (by omega) (by omega)
  dsimp only at con
  refine o_ r_ (ow_callNP [2, 2, 0] rfl rfl (con) (fun r n hn hr => ?_))
  obtain ⟨⟨lv2, lab2, st2⟩, v2, l2⟩ := r
  obtain ⟨hok2, hf2, hl2, hsh2⟩ := hr
  dsimp only at hl2 hsh2 hf2 ⊢
  refine jl_freezeF 148 0 rfl rfl (hf2.mono hn) ?_
  have hsz := body_szs hsh2
  have hifs := ifs_le l2
  refine F_ r_ (W_ 3 r_ (T_ (R_ (F_ r_ (L_ 0 r_ (o_ r_ (bm_ r_ (Ifs_c _ g_) (E_ r_ (T_ (am_ ?_))))))))))
  refine jc_cut (ι := List Clm) [] (ClG (ifsOf l2)) (fun _ => ((18, .cell (.list ((ifsOf l2).map Irow))) :: Et3 bd W br bt)) (fun cl => [.blk bt 50 (Rw nm per dln pri jit (.list (lI.map InRow)) (.list (VS.map Wrow)) (.list (ar.map ArRow)) (.list (md.map MdRow)) (.list (cl.map ClRow)) (.list (l2.map Sm.row))), Dk bd L, .blk br 50 Zt]) ?_ ?_
  · refine am_ (jc_cut (ι := Bool) [] (fun b => b = true → 1 < (ifsOf l2).length) (fun b => (160, Bl b) :: ((18, .cell (.list ((ifsOf l2).map Irow))) :: Et3 bd W br bt)) (fun _ => [.blk bt 50 (Rw nm per dln pri jit (.list (lI.map InRow)) (.list (VS.map Wrow)) (.list (ar.map ArRow)) (.list (md.map MdRow)) NilC (.list (l2.map Sm.row))), Dk bd L, .blk br 50 Zt]) ?_ ?_)
    · by_cases hl : (1 : Int) < (((ifsOf l2).map Irow).length : Int)
      · refine an_ (M_ r_ (o_ r_ (br_ r_ (fun hlen => o_ r_ (bz_ r_ r_ (M_ r_ (ah_ r_ u_ b_ (bd_ r_ (ah_ rfl (by (first | assumption | exact decide_eq_true rfl | exact decide_eq_true (by first | assumption | omega) | exact decide_eq_false (by first | assumption | omega) | with_reducible rfl | exact (rfl : false = !true) | exact (rfl : true = !false))) b_ (bt_ [2] rfl rfl (Nx_c _ hL hLn g_) (fun k9 hk9 => ?_)))))))))))
        refine ah_ r_ u_ b_ (bn_ r_ r_ (o_ r_ (bp_ r_ u_ r_ (ak_ (jq_cutS (decide (k9 = 1)) (fun _ => by simp at hl; omega) ?_ ?_)))))
        · exact bc_ 1 r_ (bc_ 0 r_ (bc_ 2 r_ sub_end))
        · (repeat (first | exact True.intro | refine ⟨rfl, ?_⟩))
      · refine an_ (M_ r_ (o_ r_ (br_ r_ (fun hlen => o_ r_ (bz_ r_ r_ (M_ r_ (ai_ r_ w_ b_ (ai_ r_ w_ b_ (ai_ r_ w_ b_ (o_ r_ (bv_ r_ w_ r_ (ak_ (jq_cutS false (by simp) ?_ ?_)))))))))))))
        · exact bc_ 0 r_ (bc_ 1 r_ (bc_ 2 r_ sub_end))
        · (repeat (first | exact True.intro | refine ⟨rfl, ?_⟩))
    intro b hb
    refine jc_cond rfl (fun hbt => ?_) (fun hbt => ?_)
    · have hl1 := hb hbt
      have eI : ((ifsOf l2).map Irow).length = (ifsOf l2).length := List.length_map _
      refine R_ (M_ r_ (M_ r_ (o_ r_ (br_ r_ (fun hlen => o_ r_ (bt_ [1] rfl rfl (Nx_c _ hL hLn g_) (fun k10 hk10 => E_ r_ (T_ (jc_anyB 20 none rfl k_ k_ (yM_ r_ (yM_ r_ (aa_ (fun c => cv_ r_ r_ g_ g_ r_ r_ b_ p_) (aa_ (fun c => cb_ r_ r_ p_) (yM_ r_ (yM_ r_ (aa_ (fun c => bj_ r_ r_ g_ p_) (yM_ r_ ?_)))))))))))))))))
      refine yM_ r_ (aa_ (fun c => br_ r_ (fun hlen => p_)) (aa_ (fun c => cg_ r_ r_ g_ p_) (aa_ (fun c => ow_callA [0] r_ r_ (gNext_c L _ _ hL hLn g_)) (aa_ (fun c => ow_exarg 176 rfl (fun i => bj_ rfl rfl (by have := i.2; omega) ⟨rfl, .refl _⟩)) (yM_ r_ (aa_ (fun c => br_ r_ (fun hlen => p_)) (aa_ (fun c => ow_exarg 177 rfl (fun i => ow_rem64 rfl rfl (by have := i.2; omega) g_ ⟨rfl, .refl _⟩)) ?_)))))))
      have hrem : ∀ i : {i : Int // 0 ≤ i ∧ (i < (((ifsOf l2).map Irow).length : Int) - 1 ∨ i = 0)}, 0 ≤ (k10 + 1 + i.1) % (((ifsOf l2).map Irow).length : Int) ∧ ((k10 + 1 + i.1) % (((ifsOf l2).map Irow).length : Int)).toNat < (ifsOf l2).length := by
        intro i
        have h1 := Int.emod_nonneg (k10 + 1 + i.1) (show (((ifsOf l2).map Irow).length : Int) ≠ 0 by omega)
        have h2 := Int.emod_lt_of_pos (k10 + 1 + i.1) (show (0 : Int) < (((ifsOf l2).map Irow).length : Int) by omega)
        omega
      have hne : ∀ i : {i : Int // 0 ≤ i ∧ (i < (((ifsOf l2).map Irow).length : Int) - 1 ∨ i = 0)}, k10.toNat ≠ ((k10 + 1 + i.1) % (((ifsOf l2).map Irow).length : Int)).toNat := by
        intro i h
        have hi := i.2
        have h1 := hrem i
        have h2 : (k10 + 1 + i.1) % (((ifsOf l2).map Irow).length : Int) = k10 := by omega
        have h3 := Int.emod_emod_of_dvd (k10 + 1 + i.1) (Int.dvd_refl (((ifsOf l2).map Irow).length : Int))
        have h4 : (1 + i.1) % (((ifsOf l2).map Irow).length : Int) = 0 := by
          have h5 := Int.sub_emod (k10 + 1 + i.1) k10 (((ifsOf l2).map Irow).length : Int)
          rw [h2, show k10 % (((ifsOf l2).map Irow).length : Int) = k10 from Int.emod_eq_of_lt (by omega) (by omega), Int.sub_self, Int.zero_emod, show k10 + 1 + i.1 - k10 = 1 + i.1 by omega] at h5
          exact h5
        rw [Int.emod_eq_of_lt (by omega) (by omega)] at h4
        omega
      refine aa_ (fun c => ow_exarg 180 rfl (fun i => cv_ rfl rfl (hrem i).1 (hrem i).2 rfl rfl b_ ⟨rfl, .refl _⟩)) (aa_ (fun c => ow_exarg 181 rfl (fun i => cb_ rfl rfl ⟨rfl, .refl _⟩)) (aa_ (fun c => ow_exarg 182 rfl (fun i => bu_ rfl rfl rfl rfl rfl ⟨rfl, .refl _⟩)) (aa_ (fun c => ow_exarg 183 rfl (fun i => bq_ rfl rfl b_ rfl rfl b_ ⟨rfl, .refl _⟩)) (ae_ (afin_none (jl_slot 184 rfl (fun i => F_ r_ (W_ 1 r_ (ak_ ?_)))))))))
      refine jq_cutS ([((ifsOf l2)[k10.toNat]'g_, (ifsOf l2)[((k10 + 1 + i.1) % (((ifsOf l2).map Irow).length : Int)).toNat]'(hrem i).2)] : List Clm) (.inr ⟨_, _, by omega, (hrem i).2, hne i, rfl⟩) ?_ ?_
      · exact bc_ 0 r_ (bc_ 0 r_ (bc_ 0 r_ sub_end))
      · (repeat (first | exact True.intro | refine ⟨rfl, ?_⟩))
    · refine as_ ?_
      (first | refine jq_row 0 (Rw nm per dln pri jit (.list (lI.map InRow)) (.list (VS.map Wrow)) (.list (ar.map ArRow)) (.list (md.map MdRow)) (.list (([] : List Clm).map ClRow)) (.list (l2.map Sm.row))) rfl (.cons (.refl _) (.cons (.refl _) (.cons (.refl _) (.cons (.refl _) (.cons (.refl _) (.cons (.refl _) (.cons (.refl _) (.cons (.refl _) (.cons (.refl _) (.cons .nil (.refl _))))))))))) ?_ | refine jq_row 1 (Rw nm per dln pri jit (.list (lI.map InRow)) (.list (VS.map Wrow)) (.list (ar.map ArRow)) (.list (md.map MdRow)) (.list (([] : List Clm).map ClRow)) (.list (l2.map Sm.row))) rfl (.cons (.refl _) (.cons (.refl _) (.cons (.refl _) (.cons (.refl _) (.cons (.refl _) (.cons (.refl _) (.cons (.refl _) (.cons (.refl _) (.cons (.refl _) (.cons .nil (.refl _))))))))))) ?_ | refine jq_row 2 (Rw nm per dln pri jit (.list (lI.map InRow)) (.list (VS.map Wrow)) (.list (ar.map ArRow)) (.list (md.map MdRow)) (.list (([] : List Clm).map ClRow)) (.list (l2.map Sm.row))) rfl (.cons (.refl _) (.cons (.refl _) (.cons (.refl _) (.cons (.refl _) (.cons (.refl _) (.cons (.refl _) (.cons (.refl _) (.cons (.refl _) (.cons (.refl _) (.cons .nil (.refl _))))))))))) ?_ | refine jq_row 3 (Rw nm per dln pri jit (.list (lI.map InRow)) (.list (VS.map Wrow)) (.list (ar.map ArRow)) (.list (md.map MdRow)) (.list (([] : List Clm).map ClRow)) (.list (l2.map Sm.row))) rfl (.cons (.refl _) (.cons (.refl _) (.cons (.refl _) (.cons (.refl _) (.cons (.refl _) (.cons (.refl _) (.cons (.refl _) (.cons (.refl _) (.cons (.refl _) (.cons .nil (.refl _))))))))))) ?_)
      refine jq_cutS ([] : List Clm) (.inl rfl) ?_ ?_
      · exact bc_ 0 r_ (bc_ 0 r_ (bc_ 0 r_ sub_end))
      · (repeat (first | exact True.intro | refine ⟨rfl, ?_⟩))
  intro cl hcl
  refine am_ (jc_cut (ι := List Sm × List Clm) [] (fun i => (∃ n, i.1 = l2.take n) ∧ ClG (ifsOf i.1) i.2 ∧ wAll 20 i.1 0 ≤ W) (fun _ => ((18, .cell (.list ((ifsOf l2).map Irow))) :: Et3 bd W br bt)) (fun i => [.blk bt 50 (Rw nm per dln pri jit (.list (lI.map InRow)) (.list (VS.map Wrow)) (.list (ar.map ArRow)) (.list (md.map MdRow)) (.list (i.2.map ClRow)) (.list (i.1.map Sm.row))), Dk bd L, .blk br 50 Zt]) ?_ ?_)
  · refine au_ ?_
    refine jc_loopS (ι := List Sm × List Clm) [] (fun i => (∃ n, i.1 = l2.take n) ∧ ClG (ifsOf i.1) i.2) (fun _ => ((18, .cell (.list ((ifsOf l2).map Irow))) :: Et3 bd W br bt)) (fun i => [.blk bt 50 (Rw nm per dln pri jit (.list (lI.map InRow)) (.list (VS.map Wrow)) (.list (ar.map ArRow)) (.list (md.map MdRow)) (.list (i.2.map ClRow)) (.list (i.1.map Sm.row))), Dk bd L, .blk br 50 Zt]) (fun i => i.1.length) (l2, cl) ⟨⟨l2.length, by simp⟩, hcl⟩ ?_ ?_ ?_
    · exact bc_ 0 r_ (bc_ 0 r_ (bc_ 0 r_ sub_end))
    · (repeat (first | exact True.intro | refine ⟨rfl, ?_⟩))
    · rintro ⟨l, cl⟩ ⟨⟨nT, hl10⟩, hsh⟩
      dsimp only at hl10 hsh ⊢
      have hll : l.length ≤ l2.length := by rw [hl10, List.length_take]; omega
      have eL : (l.map Sm.row).length = l.length := List.length_map _
      by_cases hl : (0 : Int) < ((l.map Sm.row).length : Int)
      · refine am_ (R_ (F_ r_ (L_ 0 r_ (o_ r_ (br_ r_ (fun hlen => o_ r_ (bz_ r_ r_ (M_ r_ (ah_ r_ u_ b_ (bf_ r_ r_ r_ b_ (ah_ r_ u_ b_ (bg_ 0 r_ r_ r_ r_ (ah_ r_ u_ b_ (bm_ r_ (rWeight_c _) (ah_ r_ u_ b_ (bd_ r_ (ah_ r_ u_ b_ (bz_ r_ r_ (o_ r_ (bp_ r_ u_ r_ (T_ (jc_condd rfl (fun hw => ?_) (fun hw => ?_)))))))))))))))))))))))
        · refine as_ (al_ (au_ (an_ (F_ r_ (L_ 0 r_ (F_ r_ (L_ 0 r_ (o_ r_ (br_ r_ (fun hlen => o_ r_ (cg_ r_ r_ g_ (o_ r_ (ow_prefix r_ r_ g_ g_ (F_ r_ (W_ 0 r_ (F_ r_ (W_ 0 r_ (ak_ ?_))))))))))))))))))
          refine ay_ ?_
          rw [show List.take ((((l.map Sm.row).length : Nat) : Int) - 1).toNat (l.map Sm.row) = (l.take (l.length - 1)).map Sm.row by
            rw [List.map_take, eL]; congr 1; omega]
          skip
          (first | refine jq_row 0 (Rw nm per dln pri jit (.list (lI.map InRow)) (.list (VS.map Wrow)) (.list (ar.map ArRow)) (.list (md.map MdRow)) (.list (([] : List Clm).map ClRow)) (.list ((l.take (l.length - 1)).map Sm.row))) rfl (.cons (.refl _) (.cons (.refl _) (.cons (.refl _) (.cons (.refl _) (.cons (.refl _) (.cons (.refl _) (.cons (.refl _) (.cons (.refl _) (.cons (.refl _) (.cons .nil (.refl _))))))))))) ?_ | refine jq_row 1 (Rw nm per dln pri jit (.list (lI.map InRow)) (.list (VS.map Wrow)) (.list (ar.map ArRow)) (.list (md.map MdRow)) (.list (([] : List Clm).map ClRow)) (.list ((l.take (l.length - 1)).map Sm.row))) rfl (.cons (.refl _) (.cons (.refl _) (.cons (.refl _) (.cons (.refl _) (.cons (.refl _) (.cons (.refl _) (.cons (.refl _) (.cons (.refl _) (.cons (.refl _) (.cons .nil (.refl _))))))))))) ?_ | refine jq_row 2 (Rw nm per dln pri jit (.list (lI.map InRow)) (.list (VS.map Wrow)) (.list (ar.map ArRow)) (.list (md.map MdRow)) (.list (([] : List Clm).map ClRow)) (.list ((l.take (l.length - 1)).map Sm.row))) rfl (.cons (.refl _) (.cons (.refl _) (.cons (.refl _) (.cons (.refl _) (.cons (.refl _) (.cons (.refl _) (.cons (.refl _) (.cons (.refl _) (.cons (.refl _) (.cons .nil (.refl _))))))))))) ?_ | refine jq_row 3 (Rw nm per dln pri jit (.list (lI.map InRow)) (.list (VS.map Wrow)) (.list (ar.map ArRow)) (.list (md.map MdRow)) (.list (([] : List Clm).map ClRow)) (.list ((l.take (l.length - 1)).map Sm.row))) rfl (.cons (.refl _) (.cons (.refl _) (.cons (.refl _) (.cons (.refl _) (.cons (.refl _) (.cons (.refl _) (.cons (.refl _) (.cons (.refl _) (.cons (.refl _) (.cons .nil (.refl _))))))))))) ?_)
          refine jq_againS (i := (l, cl)) (l.take (l.length - 1), []) ⟨⟨min (l.length - 1) nT, by dsimp only; rw [hl10, List.take_take]⟩, .inl rfl⟩ (by simp; omega) ?_ ?_
          · exact bc_ 0 r_ (bc_ 0 r_ (bc_ 0 r_ sub_end))
          · (repeat (first | exact True.intro | refine ⟨rfl, ?_⟩))
        · refine av_ (ax_ (ax_ (ba_ (jq_cutS (l, cl) ⟨⟨nT, hl10⟩, hsh, by dsimp only; omega⟩ ?_ ?_))))
          · exact bc_ 0 r_ (bc_ 0 r_ (bc_ 0 r_ sub_end))
          · (repeat (first | exact True.intro | refine ⟨rfl, ?_⟩))
      · have hl0 : l = [] := List.eq_nil_of_length_eq_zero (by omega)
        subst hl0
        refine am_ (R_ (F_ r_ (L_ 0 r_ (o_ r_ (br_ r_ (fun hlen => o_ r_ (bz_ r_ r_ (M_ r_ (ai_ r_ r_ b_ (ai_ r_ r_ b_ (ai_ r_ r_ b_ (ai_ r_ r_ b_ (ai_ r_ r_ b_ (o_ r_ (bv_ r_ r_ r_ (T_ (jc_cond rfl (fun h => by cases h) (fun _ => av_ ?_))))))))))))))))))
        refine ax_ (ax_ (ba_ (jq_cutS ([], cl) ⟨⟨nT, hl10⟩, hsh, by simp only [wAll]; omega⟩ ?_ ?_)))
        · exact bc_ 0 r_ (bc_ 0 r_ (bc_ 0 r_ sub_end))
        · (repeat (first | exact True.intro | refine ⟨rfl, ?_⟩))
  rintro ⟨l, cl⟩ ⟨⟨nT, hl10⟩, hsh, hwt⟩
  dsimp only at hl10 hsh hwt ⊢
  have hsz2 : Sm.szs l ≤ 635 := by rw [hl10]; exact Nat.le_trans (Sm.szs_take _ _) hsz
  have hifs2 := ifs_le l
  refine am_ (jc_cut (ι := List Clm) [] (ClG (ifsOf l)) (fun _ => Et3 bd W br bt) (fun cl => [.blk bt 50 (Rw nm per dln pri jit (.list (lI.map InRow)) (.list (VS.map Wrow)) (.list (ar.map ArRow)) (.list (md.map MdRow)) (.list (cl.map ClRow)) (.list (l.map Sm.row))), Dk bd L, .blk br 50 Zt]) ?_ ?_)
  · by_cases hl : (0 : Int) < ((cl.map ClRow).length : Int)
    · refine R_ (F_ r_ (L_ 0 r_ (o_ r_ (br_ r_ (fun hlen => o_ r_ (bz_ r_ r_ (M_ r_ (ah_ r_ u_ b_ (bf_ r_ r_ r_ b_ (ah_ r_ u_ b_ (bg_ 0 r_ r_ r_ r_ (ah_ r_ u_ b_ (bm_ r_ (Ifs_c _ g_) (ah_ r_ u_ b_ (br_ r_ (fun hlen => ah_ r_ u_ b_ (bd_ r_ (ah_ r_ u_ b_ (br_ r_ (fun hlen => ah_ r_ u_ b_ (bx_ r_ r_ (o_ r_ (bp_ r_ u_ r_ (T_ (jc_cond rfl (fun _ => ?_) (fun _ => ?_))))))))))))))))))))))))))
      · refine an_ (F_ r_ (W_ 0 r_ (ak_ ?_)))
        (first | refine jq_row 0 (Rw nm per dln pri jit (.list (lI.map InRow)) (.list (VS.map Wrow)) (.list (ar.map ArRow)) (.list (md.map MdRow)) (.list (([] : List Clm).map ClRow)) (.list (l.map Sm.row))) rfl (.cons (.refl _) (.cons (.refl _) (.cons (.refl _) (.cons (.refl _) (.cons (.refl _) (.cons (.refl _) (.cons (.refl _) (.cons (.refl _) (.cons (.refl _) (.cons .nil (.refl _))))))))))) ?_ | refine jq_row 1 (Rw nm per dln pri jit (.list (lI.map InRow)) (.list (VS.map Wrow)) (.list (ar.map ArRow)) (.list (md.map MdRow)) (.list (([] : List Clm).map ClRow)) (.list (l.map Sm.row))) rfl (.cons (.refl _) (.cons (.refl _) (.cons (.refl _) (.cons (.refl _) (.cons (.refl _) (.cons (.refl _) (.cons (.refl _) (.cons (.refl _) (.cons (.refl _) (.cons .nil (.refl _))))))))))) ?_ | refine jq_row 2 (Rw nm per dln pri jit (.list (lI.map InRow)) (.list (VS.map Wrow)) (.list (ar.map ArRow)) (.list (md.map MdRow)) (.list (([] : List Clm).map ClRow)) (.list (l.map Sm.row))) rfl (.cons (.refl _) (.cons (.refl _) (.cons (.refl _) (.cons (.refl _) (.cons (.refl _) (.cons (.refl _) (.cons (.refl _) (.cons (.refl _) (.cons (.refl _) (.cons .nil (.refl _))))))))))) ?_ | refine jq_row 3 (Rw nm per dln pri jit (.list (lI.map InRow)) (.list (VS.map Wrow)) (.list (ar.map ArRow)) (.list (md.map MdRow)) (.list (([] : List Clm).map ClRow)) (.list (l.map Sm.row))) rfl (.cons (.refl _) (.cons (.refl _) (.cons (.refl _) (.cons (.refl _) (.cons (.refl _) (.cons (.refl _) (.cons (.refl _) (.cons (.refl _) (.cons (.refl _) (.cons .nil (.refl _))))))))))) ?_)
        refine jq_cutS ([] : List Clm) (.inl rfl) ?_ ?_
        · exact bc_ 0 r_ (bc_ 0 r_ (bc_ 0 r_ sub_end))
        · (repeat (first | exact True.intro | refine ⟨rfl, ?_⟩))
      · refine as_ (jq_cutS cl hsh ?_ ?_)
        · exact bc_ 0 r_ (bc_ 0 r_ (bc_ 0 r_ sub_end))
        · (repeat (first | exact True.intro | refine ⟨rfl, ?_⟩))
    · refine R_ (F_ r_ (L_ 0 r_ (o_ r_ (br_ r_ (fun hlen => o_ r_ (bz_ r_ r_ (M_ r_ (ai_ r_ w_ b_ (ai_ r_ w_ b_ (ai_ r_ w_ b_ (ai_ r_ w_ b_ (ai_ r_ w_ b_ (ai_ r_ w_ b_ (ai_ r_ w_ b_ (o_ r_ (bv_ r_ w_ r_ (T_ (jc_cond rfl (fun h => by cases h) (fun _ => ?_)))))))))))))))))))
      refine as_ (jq_cutS cl hsh ?_ ?_)
      · exact bc_ 0 r_ (bc_ 0 r_ (bc_ 0 r_ sub_end))
      · (repeat (first | exact True.intro | refine ⟨rfl, ?_⟩))
  clear hsh
  intro cl hcl2
  refine R_ (A_ 0 r_ (S_ 2 r_ (T_ (ar_ ?_))))
  have fin : TaskG Sh nm W ⟨nm, per, dln, pri, jit, lI, VS, ar, md, cl, l⟩ := ⟨rfl, hper2, hdln2, hpri2, hjit2, ⟨by dsimp only; omega, by dsimp only; rw [hlI]; exact hokI⟩, rfl, har, hmd, hcl2, ⟨lab2, l2, nT, by dsimp only; rw [← hlVI, hVe]; exact hsh2, hl10⟩, hwt⟩
  (first | refine jq_retRowS rfl rfl rfl rfl 0 rfl (fun K h => h _ fin) ?_ | refine jq_retRowS rfl rfl rfl rfl 1 rfl (fun K h => h _ fin) ?_ | refine jq_retRowS rfl rfl rfl rfl 2 rfl (fun K h => h _ fin) ?_)
  exact bc_ 2 r_ sub_end
end
end Go.Proofs.YtamajcgdfjeehaaDoor
end

section
namespace Go.Proofs.YtamajcgdfjeehaaDoor
open Go.Vc
set_option maxHeartbeats 8000000
attribute [local irreducible] JL JC JQ OpWp Con ConN

abbrev Nr : ByteArray := ⟨#[114]⟩
abbrev Ns : ByteArray := ⟨#[115]⟩
def RSl : Nat → List ByteArray
  | 0 => []
  | 1 => [Ns]
  | _ => [Nr, Ns]
def ShG (R : List ByteArray) (l : List Shd) : Prop := l = [] ∨ ∃ (r : ByteArray) (k : Nat), R[0]? = some r ∧ k ≤ 3 ∧ l = [(⟨#[98, 117, 102]⟩, 2 ^ k, r)]
def nmT (i : Nat) : ByteArray := ⟨#[116]⟩ ++ bytesOf [97 + (i : Int)]
structure PgG (T : Nat) (W : Int) (p : Pg) : Prop where
  res : ∃ n, n ≤ 2 ∧ p.res = RSl n
  shared : ShG p.res p.shared
  len : p.tasks.length = T
  tasks : ∀ (i : Nat) (h : i < p.tasks.length), TaskG p.shared (nmT i) W p.tasks[i]
section
variable {L : List Int} {bd : Nat}

theorem programs_c (hL : InR L) (hLn : L.length ≤ 400) (T W N : Int) (hT : 0 ≤ T ∧ T ≤ 6) (hW : 0 ≤ W ∧ W ≤ 1000000) (hN : 0 ≤ N ∧ N ≤ 14) :
    Con Tryd.prog 31 [Ptr bd, In .i64 T, In .i64 W, In .i64 N] [Dk bd L] (fun K => ∀ p : Pg, PgG T.toNat W p → K (.row p.row) [Dk bd L]) := by
  refine con_intro Tryd.func31 rfl rfl (Nat.le_of_ble_eq_true rfl) (fun c hc => R_ (o_ r_ (bl_ rfl rfl (fun b8 => T_ (R_ (o_ r_ (bl_ rfl rfl (fun b9 => T_ (am_ (R_ (M_ r_ (o_ r_ (bt_ [2] rfl rfl (Nx_c _ hL hLn g_) (fun k1 hk1 => E_ r_ (T_ (jc_ownNil 9 1 g_ ?_))))))))))))))))
  obtain ⟨n1, hn1⟩ : ∃ n : Nat, k1 = (n : Int) := ⟨k1.toNat, by omega⟩
  subst hn1
  have hn12 : n1 ≤ 2 := by omega
  refine jc_cut (ι := Value × List ByteArray) [] (fun i => c.Fresh i.1 ∧ i.2 = RSl n1) (fun _ => [(0, Ptr bd), (1, In .i64 T), (2, In .i64 W), (3, In .i64 N), (8, Ptr b8), (9, Ptr b9)])
    (fun i => [.blk b9 40 [.val i.1, NilC, NilC], .own i.1 9 1 (i.2.map Wrow), Dk bd L, .blk b8 40 [NilC, NilC, NilC]]) ?_ ?_
  · refine au_ ?_
    refine jc_loopS (ι := Nat × Value × List ByteArray) [] (fun i => i.1 ≤ n1 ∧ c.Fresh i.2.1 ∧ i.2.2 = (RSl n1).take (n1 - i.1)) (fun i => (10, In .i64 (i.1 : Int)) :: [(0, Ptr bd), (1, In .i64 T), (2, In .i64 W), (3, In .i64 N), (8, Ptr b8), (9, Ptr b9)])
      (fun i => [.blk b9 40 [.val i.2.1, NilC, NilC], .own i.2.1 9 1 (i.2.2.map Wrow), Dk bd L, .blk b8 40 [NilC, NilC, NilC]]) (fun i => i.1) (n1, .slice none 0 0, []) ⟨Nat.le_refl _, fresh_nil, by simp⟩ ?_ ?_ ?_
    · exact bc_ 2 r_ (bc_ 0 r_ (bc_ 0 r_ (bc_ 0 r_ sub_end)))
    · (repeat (first | exact True.intro | refine ⟨rfl, ?_⟩))
    · rintro ⟨k, vR, lR⟩ ⟨hk, hfR, hlR⟩
      dsimp only at hk hfR hlR ⊢
      by_cases hk0 : k = 0
      · subst hk0
        refine am_ (R_ (M_ r_ (o_ r_ (bz_ r_ r_ (T_ (jc_cond rfl (fun h => by cases h) (fun _ => av_ (ax_ (ax_ (ba_ (jq_cutS (vR, lR) ⟨hfR, by dsimp only; rw [hlR, List.take_of_length_le]; rcases n1 with _ | _ | _ | n <;> simp [RSl]⟩ ?_ ?_)))))))))))
        · exact bc_ 0 r_ (bc_ 0 r_ (bc_ 0 r_ (bc_ 0 r_ sub_end)))
        · (repeat (first | exact True.intro | refine ⟨rfl, ?_⟩))
      have hlR2 : lR.length ≤ 2 := by rw [hlR, List.length_take]; omega
      have hcase : (n1 = 1 ∧ k = 1) ∨ (n1 = 2 ∧ k = 1) ∨ (n1 = 2 ∧ k = 2) := by omega
      rcases hcase with ⟨rfl, rfl⟩ | ⟨rfl, rfl⟩ | ⟨rfl, rfl⟩
      · refine am_ (R_ (M_ r_ (o_ r_ (bz_ r_ r_ (T_ (jc_condd rfl (fun _ => as_ (al_ (B_ (jc_anyB 8 none rfl k_ k_ (yF_ r_ (yL_ 0 r_ (aa_ (fun c => bq_ r_ r_ b_ r_ r_ b_ p_) (yM_ r_ (aa_ (fun c => ow_rem64 r_ r_ g_ g_ p_) (aa_ (fun c => ow_indexAddr r_ r_ g_ r_ r_ b_ p_) ?_)))))))))) (fun h => by omega)))))))
        refine aa_ (fun c => cb_ r_ r_ p_) (aa_ (fun c => bq_ r_ r_ b_ r_ r_ b_ p_) (ae_ (afin_none ?_)))
        (first | refine jl_op (ow_append1F 1 (⟨#[115]⟩) rfl rfl rfl rfl rfl rfl rfl (fun _ => rfl) (by show (_ + _) * 16 ≤ _; first | omega | (simp only [List.length_append]; omega)) (by first | omega | (simp only [List.length_append]; omega)) (fun vR1 hvR1 fvR1 => ?_)) (nb rfl) | refine jl_op (ow_append1F 2 (⟨#[115]⟩) rfl rfl rfl rfl rfl rfl rfl (fun _ => rfl) (by show (_ + _) * 16 ≤ _; first | omega | (simp only [List.length_append]; omega)) (by first | omega | (simp only [List.length_append]; omega)) (fun vR1 hvR1 fvR1 => ?_)) (nb rfl) | refine jl_op (ow_append1F 0 (⟨#[115]⟩) rfl rfl rfl rfl rfl rfl rfl (fun _ => rfl) (by show (_ + _) * 16 ≤ _; first | omega | (simp only [List.length_append]; omega)) (by first | omega | (simp only [List.length_append]; omega)) (fun vR1 hvR1 fvR1 => ?_)) (nb rfl))
        refine F_ r_ (W_ 1 r_ (ak_ (ay_ (al_ (an_ (M_ r_ (o_ r_ (cg_ r_ r_ g_ (E_ r_ (ak_ (jq_againS (i := (1, vR, lR)) (0, vR1, lR ++ [⟨#[115]⟩]) ⟨by dsimp only; omega, fvR1 hfR, by dsimp only; rw [hlR]; rfl⟩ (by dsimp only; omega) ?_ ?_)))))))))))
        · exact bc_ 0 r_ (bc_ 0 r_ (bc_ 0 r_ (bc_ 0 r_ sub_end)))
        · (repeat (first | exact True.intro | refine ⟨rfl, ?_⟩))
      · refine am_ (R_ (M_ r_ (o_ r_ (bz_ r_ r_ (T_ (jc_condd rfl (fun _ => as_ (al_ (B_ (jc_anyB 8 none rfl k_ k_ (yF_ r_ (yL_ 0 r_ (aa_ (fun c => bq_ r_ r_ b_ r_ r_ b_ p_) (yM_ r_ (aa_ (fun c => ow_rem64 r_ r_ g_ g_ p_) (aa_ (fun c => ow_indexAddr r_ r_ g_ r_ r_ b_ p_) ?_)))))))))) (fun h => by omega)))))))
        refine aa_ (fun c => cb_ r_ r_ p_) (aa_ (fun c => bq_ r_ r_ b_ r_ r_ b_ p_) (ae_ (afin_none ?_)))
        (first | refine jl_op (ow_append1F 1 (⟨#[115]⟩) rfl rfl rfl rfl rfl rfl rfl (fun _ => rfl) (by show (_ + _) * 16 ≤ _; first | omega | (simp only [List.length_append]; omega)) (by first | omega | (simp only [List.length_append]; omega)) (fun vR1 hvR1 fvR1 => ?_)) (nb rfl) | refine jl_op (ow_append1F 2 (⟨#[115]⟩) rfl rfl rfl rfl rfl rfl rfl (fun _ => rfl) (by show (_ + _) * 16 ≤ _; first | omega | (simp only [List.length_append]; omega)) (by first | omega | (simp only [List.length_append]; omega)) (fun vR1 hvR1 fvR1 => ?_)) (nb rfl) | refine jl_op (ow_append1F 0 (⟨#[115]⟩) rfl rfl rfl rfl rfl rfl rfl (fun _ => rfl) (by show (_ + _) * 16 ≤ _; first | omega | (simp only [List.length_append]; omega)) (by first | omega | (simp only [List.length_append]; omega)) (fun vR1 hvR1 fvR1 => ?_)) (nb rfl))
        refine F_ r_ (W_ 1 r_ (ak_ (ay_ (al_ (an_ (M_ r_ (o_ r_ (cg_ r_ r_ g_ (E_ r_ (ak_ (jq_againS (i := (1, vR, lR)) (0, vR1, lR ++ [⟨#[115]⟩]) ⟨by dsimp only; omega, fvR1 hfR, by dsimp only; rw [hlR]; rfl⟩ (by dsimp only; omega) ?_ ?_)))))))))))
        · exact bc_ 0 r_ (bc_ 0 r_ (bc_ 0 r_ (bc_ 0 r_ sub_end)))
        · (repeat (first | exact True.intro | refine ⟨rfl, ?_⟩))
      · refine am_ (R_ (M_ r_ (o_ r_ (bz_ r_ r_ (T_ (jc_condd rfl (fun _ => as_ (al_ (B_ (jc_anyB 8 none rfl k_ k_ (yF_ r_ (yL_ 0 r_ (aa_ (fun c => bq_ r_ r_ b_ r_ r_ b_ p_) (yM_ r_ (aa_ (fun c => ow_rem64 r_ r_ g_ g_ p_) (aa_ (fun c => ow_indexAddr r_ r_ g_ r_ r_ b_ p_) ?_)))))))))) (fun h => by omega)))))))
        refine aa_ (fun c => cb_ r_ r_ p_) (aa_ (fun c => bq_ r_ r_ b_ r_ r_ b_ p_) (ae_ (afin_none ?_)))
        (first | refine jl_op (ow_append1F 1 (⟨#[114]⟩) rfl rfl rfl rfl rfl rfl rfl (fun _ => rfl) (by show (_ + _) * 16 ≤ _; first | omega | (simp only [List.length_append]; omega)) (by first | omega | (simp only [List.length_append]; omega)) (fun vR1 hvR1 fvR1 => ?_)) (nb rfl) | refine jl_op (ow_append1F 2 (⟨#[114]⟩) rfl rfl rfl rfl rfl rfl rfl (fun _ => rfl) (by show (_ + _) * 16 ≤ _; first | omega | (simp only [List.length_append]; omega)) (by first | omega | (simp only [List.length_append]; omega)) (fun vR1 hvR1 fvR1 => ?_)) (nb rfl) | refine jl_op (ow_append1F 0 (⟨#[114]⟩) rfl rfl rfl rfl rfl rfl rfl (fun _ => rfl) (by show (_ + _) * 16 ≤ _; first | omega | (simp only [List.length_append]; omega)) (by first | omega | (simp only [List.length_append]; omega)) (fun vR1 hvR1 fvR1 => ?_)) (nb rfl))
        refine F_ r_ (W_ 1 r_ (ak_ (ay_ (al_ (an_ (M_ r_ (o_ r_ (cg_ r_ r_ g_ (E_ r_ (ak_ (jq_againS (i := (2, vR, lR)) (1, vR1, lR ++ [⟨#[114]⟩]) ⟨by dsimp only; omega, fvR1 hfR, by dsimp only; rw [hlR]; rfl⟩ (by dsimp only; omega) ?_ ?_)))))))))))
        · exact bc_ 0 r_ (bc_ 0 r_ (bc_ 0 r_ (bc_ 0 r_ sub_end)))
        · (repeat (first | exact True.intro | refine ⟨rfl, ?_⟩))
  rintro ⟨vR, lR⟩ ⟨hfR, hlR⟩
  dsimp only at hfR hlR ⊢
  have hlR2 : lR.length ≤ 2 := by rw [hlR]; rcases n1 with _ | _ | _ | n <;> simp [RSl]
  refine jc_freezeB 1 0 0 rfl rfl hfR (am_ (jc_cut (ι := List Shd) [] (ShG lR) (fun _ => [(0, Ptr bd), (1, In .i64 T), (2, In .i64 W), (3, In .i64 N), (8, Ptr b8), (9, Ptr b9)]) (fun Sh => [.blk b9 40 [.list (lR.map Wrow), .list (Sh.map ShRow), NilC], Dk bd L, .blk b8 40 [NilC, NilC, NilC]]) ?_ ?_))
  · refine am_ (jc_cut (ι := Bool) [] (fun b => b = true → 0 < lR.length) (fun b => (36, Bl b) :: [(0, Ptr bd), (1, In .i64 T), (2, In .i64 W), (3, In .i64 N), (8, Ptr b8), (9, Ptr b9)]) (fun _ => [.blk b9 40 [.list (lR.map Wrow), NilC, NilC], Dk bd L, .blk b8 40 [NilC, NilC, NilC]]) ?_ ?_)
    · by_cases hl : (0 : Int) < ((lR.map Wrow).length : Int)
      · refine an_ (F_ r_ (L_ 0 r_ (o_ r_ (br_ r_ (fun hlen => o_ r_ (bz_ r_ r_ (M_ r_ (ah_ r_ u_ b_ (bd_ r_ (ah_ rfl (by (first | assumption | exact decide_eq_true rfl | exact decide_eq_true (by first | assumption | omega) | exact decide_eq_false (by first | assumption | omega) | with_reducible rfl | exact (rfl : false = !true) | exact (rfl : true = !false))) b_ (bt_ [1] rfl rfl (Nx_c _ hL hLn g_) (fun k9 hk9 => ?_))))))))))))
        refine ah_ r_ u_ b_ (bn_ r_ r_ (o_ r_ (bp_ r_ u_ r_ (ak_ (jq_cutS (decide (k9 = 1)) (fun _ => by simp at hl; omega) ?_ ?_)))))
        · exact bc_ 1 r_ (bc_ 0 r_ (bc_ 0 r_ sub_end))
        · (repeat (first | exact True.intro | refine ⟨rfl, ?_⟩))
      · refine an_ (F_ r_ (L_ 0 r_ (o_ r_ (br_ r_ (fun hlen => o_ r_ (bz_ r_ r_ (M_ r_ (ai_ r_ w_ b_ (ai_ r_ w_ b_ (ai_ r_ w_ b_ (o_ r_ (bv_ r_ w_ r_ (ak_ (jq_cutS false (by simp) ?_ ?_))))))))))))))
        · exact bc_ 0 r_ (bc_ 0 r_ (bc_ 0 r_ sub_end))
        · (repeat (first | exact True.intro | refine ⟨rfl, ?_⟩))
    intro b hb
    refine jc_cond rfl (fun hbt => ?_) (fun hbt => ?_)
    · have hl0 := hb hbt
      refine jc_ownNil 110 3 g_ ?_
      skip
      refine jc_anyB 13 none rfl k_ k_ (yF_ r_ (yL_ 1 r_ (yM_ r_ (aa_ (fun c => ow_callA [2] r_ r_ (gNext_c L _ _ hL hLn g_)) (aa_ (fun c => ow_exarg 40 rfl (fun i => ow_convU64 rfl rfl rfl (by have := i.2; omega) ⟨rfl, .refl _⟩)) ?_)))))
      refine aa_ (fun c => ow_exarg 41 rfl (fun i : {i : Int // 0 ≤ i ∧ (i < 4 ∨ i = 0)} => ow_shl64 (n := i.1) rfl rfl (by have := i.2; omega) (by have := i.2; have := pow_bd i.1 g_; omega) ⟨rfl, .refl _⟩)) (aa_ (fun c => ow_exarg 42 rfl (fun i => bu_ rfl rfl rfl rfl rfl ⟨rfl, .refl _⟩)) (yF_ r_ (yL_ 1 r_ (aa_ (fun c => cc_ (k := 0) r_ r_ hl0 r_ r_ b_ ⟨rfl, .refl _⟩) (aa_ (fun c => cb_ r_ r_ p_) ?_)))))
      refine aa_ (fun c => ow_exarg 43 rfl (fun i => bu_ rfl rfl rfl rfl rfl ⟨rfl, .refl _⟩)) (aa_ (fun c => ow_exarg 48 rfl (fun i => bq_ rfl rfl b_ rfl rfl b_ ⟨rfl, .refl _⟩)) (ae_ (afin_none (jl_slot 49 rfl (fun n => o_ r_ (ow_append1F (f := ShRow) (l1 := []) 0 (⟨#[98, 117, 102]⟩, 1 * 2 ^ n.1.toNat, lR[0]) rfl rfl rfl rfl rfl rfl rfl (fun _ => rfl) (by show (0 + 1) * 40 ≤ _; omega) (by simp) (fun vS hvS fvS => ?_)))))))
      refine jl_freezeF 50 0 rfl rfl (fvS fresh_nil) (F_ r_ (W_ 0 r_ (ak_ ?_)))
      (first | refine jq_row 0 [.list (lR.map Wrow), .list ([((⟨#[98, 117, 102]⟩ : ByteArray), (1 : Int) * 2 ^ n.1.toNat, lR[0])].map ShRow), NilC] rfl (.cons (.refl _) (.refl _)) ?_ | refine jq_row 1 [.list (lR.map Wrow), .list ([((⟨#[98, 117, 102]⟩ : ByteArray), (1 : Int) * 2 ^ n.1.toNat, lR[0])].map ShRow), NilC] rfl (.cons (.refl _) (.refl _)) ?_)
      refine jq_cutS [((⟨#[98, 117, 102]⟩ : ByteArray), (1 : Int) * 2 ^ n.1.toNat, lR[0])] (.inr ⟨lR[0], n.1.toNat, by simp, by have := n.2; omega, by rw [Int.one_mul]⟩) ?_ ?_
      · exact bc_ 0 r_ (bc_ 0 r_ (bc_ 0 r_ sub_end))
      · (repeat (first | exact True.intro | refine ⟨rfl, ?_⟩))
    · refine as_ ?_
      (first | refine jq_row 0 [.list (lR.map Wrow), .list (([] : List Shd).map ShRow), NilC] rfl (.cons (.refl _) (.cons .nil (.refl _))) ?_ | refine jq_row 1 [.list (lR.map Wrow), .list (([] : List Shd).map ShRow), NilC] rfl (.cons (.refl _) (.cons .nil (.refl _))) ?_)
      refine jq_cutS ([] : List Shd) (.inl rfl) ?_ ?_
      · exact bc_ 0 r_ (bc_ 0 r_ (bc_ 0 r_ sub_end))
      · (repeat (first | exact True.intro | refine ⟨rfl, ?_⟩))
  intro Sh hSh
  have hShl : Sh.length ≤ 1 := by rcases hSh with rfl | ⟨r, k, _, _, rfl⟩ <;> simp
  have tk := fun nm => con_toEx (task_c (Sh := Sh) (bd := bd) hL hLn (by omega) nm W N hW hN)
  refine jc_ownNil 50 11 g_ (am_ (R_ (E_ r_ (T_ ?_))))
  refine jc_cut (ι := Value × List Tk) [] (fun i => c.Fresh i.1 ∧ i.2.length = T.toNat ∧ ∀ (j : Nat) (h : j < i.2.length), TaskG Sh (nmT j) W i.2[j]) (fun _ => [(0, Ptr bd), (1, In .i64 T), (2, In .i64 W), (3, In .i64 N), (8, Ptr b8), (9, Ptr b9)])
    (fun i => [.blk b9 40 [.list (lR.map Wrow), .list (Sh.map ShRow), .val i.1], .own i.1 50 11 (i.2.map Tk.row), Dk bd L, .blk b8 40 [NilC, NilC, NilC]]) ?_ ?_
  · refine au_ ?_
    refine jc_loopS (ι := Nat × Value × List Tk) [] (fun i => i.1 ≤ T.toNat ∧ c.Fresh i.2.1 ∧ i.2.2.length = i.1 ∧ ∀ (j : Nat) (h : j < i.2.2.length), TaskG Sh (nmT j) W i.2.2[j]) (fun i => (11, In .i64 (i.1 : Int)) :: [(0, Ptr bd), (1, In .i64 T), (2, In .i64 W), (3, In .i64 N), (8, Ptr b8), (9, Ptr b9)])
      (fun i => [.blk b9 40 [.list (lR.map Wrow), .list (Sh.map ShRow), .val i.2.1], .own i.2.1 50 11 (i.2.2.map Tk.row), Dk bd L, .blk b8 40 [NilC, NilC, NilC]]) (fun i => T.toNat - i.1) (0, .slice none 0 0, []) ⟨Nat.zero_le _, fresh_nil, rfl, by simp⟩ ?_ ?_ ?_
    · exact bc_ 1 r_ (bc_ 0 r_ (bc_ 0 r_ (bc_ 0 r_ sub_end)))
    · (repeat (first | exact True.intro | refine ⟨rfl, ?_⟩))
    · rintro ⟨k, vT, ls⟩ ⟨hk, hfT, hls, hg⟩
      dsimp only at hk hfT hls hg ⊢
      refine am_ (R_ (M_ r_ (M_ r_ (o_ r_ (bw_ r_ r_ (T_ (jc_condd rfl (fun hlt => ?_) (fun hge => ?_))))))))
      · refine as_ (al_ (B_ (jc_anyB 15 none rfl k_ k_ (yF_ r_ (yL_ 0 r_ (yM_ r_ (yM_ r_ (aa_ (fun c => bj_ r_ r_ g_ p_) (aa_ (fun c => ow_convU8 r_ r_ r_ g_ p_) (aa_ (fun c => bq_ r_ r_ b_ r_ r_ b_ p_) (aa_ (fun c => ow_bytesToString (l := [_]) r_ r_ r_ p_) (aa_ (fun c => ow_strcat rfl rfl (by show 1 + 1 ≤ 9223372036854775807; omega) ⟨rfl, .refl _⟩) (yF_ r_ (yL_ 0 r_ (yM_ r_ ?_)))))))))))))))
        refine yM_ r_ (aa_ (fun c => ow_callA [2] r_ r_ (tk _)) (aa_ (fun c => ow_exarg 70 rfl (fun i => bq_ rfl rfl b_ rfl rfl b_ ⟨rfl, .refl _⟩)) (ae_ (afin_none (jl_slot 71 rfl (fun l => ?_))))))
        (first | refine jl_op (ow_append1F 1 (l.1) rfl rfl rfl rfl rfl rfl rfl (fun _ => rfl) (by show (_ + _) * 192 ≤ _; first | omega | (simp only [List.length_append]; omega)) (by first | omega | (simp only [List.length_append]; omega)) (fun vT1 hvT1 fvT1 => ?_)) (nb rfl) | refine jl_op (ow_append1F 2 (l.1) rfl rfl rfl rfl rfl rfl rfl (fun _ => rfl) (by show (_ + _) * 192 ≤ _; first | omega | (simp only [List.length_append]; omega)) (by first | omega | (simp only [List.length_append]; omega)) (fun vT1 hvT1 fvT1 => ?_)) (nb rfl))
        refine F_ r_ (W_ 1 r_ (ak_ (ay_ (al_ (an_ (M_ r_ (o_ r_ (bj_ r_ r_ g_ (E_ r_ (ak_ (jq_againS (i := (k, vT, ls)) (k + 1, vT1, ls ++ [l.1]) ⟨by dsimp only; omega, fvT1 hfT, by simp [hls], ?_⟩ (by dsimp only; omega) ?_ ?_)))))))))))
        · intro j hj
          simp only [List.length_append, List.length_cons, List.length_nil] at hj
          dsimp only
          by_cases hjl : j < ls.length
          · rw [List.getElem_append_left hjl]
            exact hg j hjl
          · have hjk : j = k := by omega
            subst hjk
            rw [List.getElem_append_right (by omega)]
            simp only [List.getElem_singleton]
            exact l.2
        · exact bc_ 0 r_ (bc_ 0 r_ (bc_ 0 r_ (bc_ 0 r_ sub_end)))
        · (repeat (first | exact True.intro | refine ⟨rfl, ?_⟩))
      · refine av_ (ax_ (ax_ (ba_ (jq_cutS (vT, ls) ⟨hfT, by dsimp only; omega, hg⟩ ?_ ?_))))
        · exact bc_ 0 r_ (bc_ 0 r_ (bc_ 0 r_ (bc_ 0 r_ sub_end)))
        · (repeat (first | exact True.intro | refine ⟨rfl, ?_⟩))
  rintro ⟨vT, ls⟩ ⟨hfT, hls, hg⟩
  dsimp only at hfT hls hg ⊢
  refine jc_freezeB 1 0 2 rfl rfl hfT (R_ (A_ 0 r_ (S_ 2 r_ (T_ (ar_ ?_)))))
  (first | refine jq_retRowS rfl rfl rfl rfl 0 rfl (fun K h => h ⟨lR, Sh, ls⟩ ⟨⟨n1, hn12, hlR⟩, hSh, hls, hg⟩) ?_ | refine jq_retRowS rfl rfl rfl rfl 1 rfl (fun K h => h ⟨lR, Sh, ls⟩ ⟨⟨n1, hn12, hlR⟩, hSh, hls, hg⟩) ?_ | refine jq_retRowS rfl rfl rfl rfl 2 rfl (fun K h => h ⟨lR, Sh, ls⟩ ⟨⟨n1, hn12, hlR⟩, hSh, hls, hg⟩) ?_)
  exact bc_ 2 r_ sub_end

theorem gProgram_c (hL : InR L) (hLn : L.length ≤ 400) (T : Int) :
    Con Tryd.prog 15 [Ptr bd, In .i64 T] [Dk bd L] (fun K => ∀ p : Pg, PgG (max 1 (min T 6)).toNat 300 p → K (.row p.row) [Dk bd L]) := by
  refine con_intro Tryd.func15 rfl rfl (Nat.le_of_ble_eq_true rfl) (fun c hc => R_ (o_ r_ (bl_ rfl rfl (fun b4 => T_ (R_ (M_ r_ (M_ r_ (o_ r_ (cl_ r_ r_ (o_ r_ (ck_ r_ r_ (o_ r_ (bt_ [1] rfl rfl (programs_c hL hLn _ _ _ g_ g_ g_) (fun p hp => S_ 1 r_ (T_ (ar_ ?_))))))))))))))))
  (first | refine jq_retRowS rfl rfl rfl rfl 0 rfl (fun K h => h p hp) ?_ | refine jq_retRowS rfl rfl rfl rfl 1 rfl (fun K h => h p hp) ?_)
  exact bc_ 1 r_ sub_end
end
end Go.Proofs.YtamajcgdfjeehaaDoor
end

section
namespace Go.Proofs.YtamajcgdfjeehaaDoor
open Go.Vc
theorem con_conseq {P : Program} [Gl P] {f : FuncId} {ss : List S} {Hin : List Ch} {post post' : (S → List Ch → Prop) → Prop} (hp : ∀ K, post' K → post K) (h : Con P f ss Hin post) : Con P f ss Hin post' := by
  intro vs w A h1 h2 h3 h4 h5 h6
  refine (h vs w A h1 h2 h3 h4 h5 h6).mono ?_
  rintro e w' ⟨v, s, Ho, he, hK, hs, hrest⟩
  exact ⟨v, s, Ho, he, fun K h => hK K (hp K h), hs, hrest⟩
attribute [local irreducible] JL JC JQ OpWp Con ConN
theorem gNewT_c (L : List Int) : Con Tryd.prog 16 [.cell (.list (L.map Irow))] [] (fun K => ∀ b : Nat, True → K (Ptr b) [Dk b L]) := con_conseq (fun _ h b => h b trivial) (gNew_c L)
end Go.Proofs.YtamajcgdfjeehaaDoor
end

section
namespace Go.Proofs.YtamajcgdfjeehaaDoor
open Go.Vc
attribute [local irreducible] JL JC JQ OpWp Con ConN

def isL (n : Int) : Bool := decide (97 ≤ n) && decide (n ≤ 122)
def isD (n : Int) : Bool := decide (48 ≤ n) && decide (n ≤ 57)
def isLD (n : Int) : Bool := isL n || isD n

/-- How many bytes a name has at the beginning. -/
def nameLen (s : ByteArray) : Nat := if 0 < s.size ∧ isL (byteAt s 0) = true then runLen isLD s else 0
/-- The number that digits say; 2^31 if it is that or more. -/
def numVal (l : List Int) : Int := l.foldl (fun n c => min (10 * n + (c - 48)) 2147483648) 0
theorem numVal_snoc (l : List Int) (c : Int) : numVal (l ++ [c]) = min (10 * numVal l + (c - 48)) 2147483648 := by simp [numVal]
theorem numVal_bdF : ∀ (l : List Int) (n : Int), (∀ c ∈ l, isD c = true) → 0 ≤ n ∧ n ≤ 2147483648 →
    0 ≤ l.foldl (fun n c => min (10 * n + (c - 48)) 2147483648) n ∧ l.foldl (fun n c => min (10 * n + (c - 48)) 2147483648) n ≤ 2147483648 := by
  intro l
  induction l with
  | nil => intro n _ h; exact h
  | cons c l ih =>
    intro n hd hn
    have h2 : isD c = true := hd c (by simp)
    simp only [isD, Bool.and_eq_true, decide_eq_true_eq] at h2
    rw [List.foldl_cons]
    exact ih _ (fun x hx => hd x (by simp [hx])) g_
theorem numVal_bd (l : List Int) (h : ∀ c ∈ l, isD c = true) : 0 ≤ numVal l ∧ numVal l ≤ 2147483648 :=
  numVal_bdF l 0 h (by omega)
/-- All signs. -/
def SG : List ByteArray := [⟨#[43]⟩, ⟨#[45]⟩, ⟨#[42]⟩, ⟨#[47]⟩, ⟨#[37]⟩, ⟨#[38]⟩, ⟨#[124]⟩, ⟨#[94]⟩, ⟨#[60, 60]⟩, ⟨#[62, 62]⟩, ⟨#[60]⟩, ⟨#[60, 61]⟩, ⟨#[61, 61]⟩, ⟨#[33, 61]⟩, ⟨#[61]⟩, ⟨#[40]⟩, ⟨#[41]⟩, ⟨#[91]⟩, ⟨#[93]⟩, ⟨#[123]⟩, ⟨#[125]⟩]
/-- How many bytes a sign has at the beginning. -/
def signLen (s : ByteArray) : Nat := if 2 ≤ s.size ∧ hasS SG (s.extract 0 2) = true then 2 else if 1 ≤ s.size ∧ hasS SG (s.extract 0 1) = true then 1 else 0
end Go.Proofs.YtamajcgdfjeehaaDoor
end

section
namespace Go.Proofs.YtamajcgdfjeehaaDoor
open Go.Vc
attribute [local irreducible] JL JC JQ OpWp Con ConN

/-- A token's row. -/
def tokC (k v l : Int) (t : ByteArray) : List C := [.val (.int .i64 k), .val (.int .i64 v), .val (.int .i64 l), .val (.string t)]
/-- The token at the beginning (kind, number, text) and its length. -/
def nextT (s : ByteArray) : (Int × Int × ByteArray) × Nat :=
  if 0 < nameLen s then (if 12 < nameLen s then ((0, 0, ⟨#[]⟩), 0) else ((1, 0, s.extract 0 (nameLen s)), nameLen s))
  else if 0 < runLen isD s then (if 2147483647 < numVal (bytesI (s.extract 0 (runLen isD s))) then ((0, 0, ⟨#[]⟩), 0) else ((2, numVal (bytesI (s.extract 0 (runLen isD s))), ⟨#[]⟩), runLen isD s))
  else ((3, 0, s.extract 0 (signLen s)), signLen s)
theorem take_takeWhile {α : Type} {p : α → Bool} : ∀ l : List α, ∀ x ∈ l.take (l.takeWhile p).length, p x = true
  | [], x, h => by simp at h
  | a :: l, x, h => by
    cases hp : p a with
    | false => simp [hp] at h
    | true =>
      rw [List.takeWhile_cons, if_pos hp, List.length_cons, List.take_succ_cons] at h
      rcases List.mem_cons.1 h with rfl | h
      · exact hp
      · exact take_takeWhile l x h
theorem run_dig (s : ByteArray) : ∀ c ∈ bytesI (s.extract 0 (runLen isD s)), isD c = true := by
  rw [extract_bytes]
  exact take_takeWhile (bytesI s)
theorem nameLen_le (s : ByteArray) : nameLen s ≤ s.size := by
  unfold nameLen
  split
  · exact runLen_le _ _
  · exact Nat.zero_le _
theorem signLen_le (s : ByteArray) : signLen s ≤ s.size := by
  unfold signLen
  split
  · omega
  · split
    · omega
    · omega
end Go.Proofs.YtamajcgdfjeehaaDoor
end

section
namespace Go.Proofs.YtamajcgdfjeehaaDoor
open Go.Vc
attribute [local irreducible] JL JC JQ OpWp Con ConN

/-- A token: kind, number, line, text. -/
structure Tok where
  kind : Int
  num : Int
  line : Int
  text : ByteArray
def Tok.row (t : Tok) : List C := tokC t.kind t.num t.line t.text
/-- The rest of a scan. -/
def scanGo (s : ByteArray) (at_ : Nat) (line : Int) (out : List Tok) : List Tok × Int × Int :=
  if h : at_ < s.size then
    if byteAt s at_ = 10 then scanGo s (at_ + 1) (line + 1) out
    else if byteAt s at_ = 32 ∨ byteAt s at_ = 9 then scanGo s (at_ + 1) line out
    else if hn : (nextT (s.extract at_ s.size)).2 = 0 then ([], line, 1)
    else scanGo s (at_ + (nextT (s.extract at_ s.size)).2) line (out ++ [⟨(nextT (s.extract at_ s.size)).1.1, (nextT (s.extract at_ s.size)).1.2.1, line, (nextT (s.extract at_ s.size)).1.2.2⟩])
  else (out, 0, 0)
termination_by s.size - at_
decreasing_by all_goals omega
def scan (s : ByteArray) : List Tok × Int × Int := if 8192 < s.size then ([], 0, 4) else scanGo s 0 1 []
theorem nextT_le (s : ByteArray) : (nextT s).2 ≤ s.size := by
  have h1 := nameLen_le s
  have h2 := runLen_le isD s
  have h3 := signLen_le s
  unfold nextT
  split
  · split
    · exact Nat.zero_le _
    · exact h1
  · split
    · split
      · exact Nat.zero_le _
      · exact h2
    · exact h3

attribute [local irreducible] nextT scan byteAt
end Go.Proofs.YtamajcgdfjeehaaDoor
end

section
namespace Go.Proofs.YtamajcgdfjeehaaDoor
open Go.Vc
attribute [local irreducible] JL JC JQ OpWp Con ConN

/-- Whether a text is a name. -/
def isName (s : ByteArray) : Bool := decide (0 < s.size) && decide (s.size ≤ 12) && decide (nameLen s = s.size)
theorem empty_iff (s : ByteArray) : s = ⟨#[]⟩ ↔ s.size = 0 := by
  constructor
  · rintro rfl; rfl
  · intro h; cases s; rename_i d; have : d = #[] := Array.eq_empty_of_size_eq_zero h; rw [this]
theorem rletter_c (n : Int) : Con Tryd.prog 33 [In .u8 n] [] (fun K => K (Bl (isL n)) []) := by
  by_cases h : (97 : Int) ≤ n
  · refine con_intro Tryd.func33 rfl rfl (Nat.le_of_ble_eq_true rfl) (fun c hc => R_ (E_ r_ (T_ (R_ (M_ r_ (o_ r_ (cn_ r_ r_ (M_ r_ (ah_ r_ u_ b_ (bd_ r_ (ah_ r_ u_ b_ (cu_ r_ r_ (o_ r_ (bp_ r_ u_ r_ (E_ r_ (T_ (ar_ (jq_ret1 rfl rfl [] rfl (fun K h' => by rw [show isL n = decide (n ≤ 122) by simp [isL, h]] at h'; exact h')))))))))))))))))))
  · refine con_intro Tryd.func33 rfl rfl (Nat.le_of_ble_eq_true rfl) (fun c hc => R_ (E_ r_ (T_ (R_ (M_ r_ (o_ r_ (cn_ r_ r_ (M_ r_ (ai_ r_ w_ b_ (ai_ r_ w_ b_ (o_ r_ (bv_ r_ w_ r_ (E_ r_ (T_ (ar_ (jq_ret1 rfl rfl [] rfl (fun K h' => by rw [show isL n = false by simp [isL, h]] at h'; exact h')))))))))))))))))
theorem rdigit_c (n : Int) : Con Tryd.prog 34 [In .u8 n] [] (fun K => K (Bl (isD n)) []) := by
  by_cases h : (48 : Int) ≤ n
  · refine con_intro Tryd.func34 rfl rfl (Nat.le_of_ble_eq_true rfl) (fun c hc => R_ (E_ r_ (T_ (R_ (M_ r_ (o_ r_ (cn_ r_ r_ (M_ r_ (ah_ r_ u_ b_ (bd_ r_ (ah_ r_ u_ b_ (cu_ r_ r_ (o_ r_ (bp_ r_ u_ r_ (E_ r_ (T_ (ar_ (jq_ret1 rfl rfl [] rfl (fun K h' => by rw [show isD n = decide (n ≤ 57) by simp [isD, h]] at h'; exact h')))))))))))))))))))
  · refine con_intro Tryd.func34 rfl rfl (Nat.le_of_ble_eq_true rfl) (fun c hc => R_ (E_ r_ (T_ (R_ (M_ r_ (o_ r_ (cn_ r_ r_ (M_ r_ (ai_ r_ w_ b_ (ai_ r_ w_ b_ (o_ r_ (bv_ r_ w_ r_ (E_ r_ (T_ (ar_ (jq_ret1 rfl rfl [] rfl (fun K h' => by rw [show isD n = false by simp [isD, h]] at h'; exact h')))))))))))))))))
theorem numVal_bigF : ∀ (l : List Int) (n : Int), (∀ c ∈ l, isD c = true) → 2147483648 ≤ n → 2147483648 ≤ l.foldl (fun n c => min (10 * n + (c - 48)) 2147483648) n := by
  intro l
  induction l with
  | nil => intro n _ h; exact h
  | cons c l ih =>
    intro n hd hn
    have h2 : isD c = true := hd c (by simp)
    simp only [isD, Bool.and_eq_true, decide_eq_true_eq] at h2
    rw [List.foldl_cons]
    exact ih _ (fun x hx => hd x (by simp [hx])) g_
theorem numVal_big {l : List Int} (hd : ∀ c ∈ l, isD c = true) (k : Nat) (h : 2147483648 ≤ numVal (l.take (k + 1))) : 2147483648 ≤ numVal l := by
  have e : numVal l = (l.drop (k + 1)).foldl (fun n c => min (10 * n + (c - 48)) 2147483648) (numVal (l.take (k + 1))) := by
    unfold numVal
    rw [← List.foldl_append, List.take_append_drop]
  rw [e]
  exact numVal_bigF _ _ (fun c hc => hd c (List.mem_of_mem_drop hc)) h
theorem value_c (s : ByteArray) (hs : s.size ≤ 1000000) (hd : ∀ c ∈ bytesI s, isD c = true) : Con Tryd.prog 35 [Str s] [] (fun K => K (In .i64 (if 2147483648 ≤ numVal (bytesI s) then -1 else numVal (bytesI s))) []) := by
  refine con_intro Tryd.func35 rfl rfl (Nat.le_of_ble_eq_true rfl) (fun c hc => R_ (E_ r_ (T_ (R_ (E_ r_ (T_ (am_ (R_ (E_ r_ (T_ (au_ (jc_loopS [] (fun k : Nat => k ≤ s.size ∧ numVal ((bytesI s).take k) < 2147483648) (fun k => [(0, Str s), (3, In .i64 (numVal ((bytesI s).take k))), (4, In .i64 (k : Int))]) (fun _ => []) (fun k => s.size - k) 0 ⟨Nat.zero_le _, by simp [numVal]⟩ ?_ ?_ ?_))))))))))))
  · exact sub_end
  · (repeat (first | exact True.intro | refine ⟨rfl, ?_⟩))
  · rintro k ⟨hk, hv⟩
    refine am_ (R_ (M_ r_ (M_ r_ (o_ r_ (co_ r_ r_ (o_ r_ (bw_ r_ r_ (T_ (jc_condd rfl (fun hlt => ?_) (fun hge => ?_))))))))))
    · have hlt' : k < (bytesI s).length := by rw [bytesI_len]; omega
      have h1 := hd (bytesI s)[k] (List.getElem_mem hlt')
      have h3 : (bytesI s)[k] = byteAt s k := bytesI_get s k (by omega)
      simp only [isD, Bool.and_eq_true, decide_eq_true_eq] at h1
      have h2 := numVal_bd ((bytesI s).take k) (fun c hc => hd c (List.mem_of_mem_take hc))
      have e : numVal ((bytesI s).take (k + 1)) = min (10 * numVal ((bytesI s).take k) + ((bytesI s)[k] - 48)) 2147483648 := by rw [List.take_succ_eq_append_getElem hlt', numVal_snoc]
      have h4 : byteAt s (k : Int).toNat = byteAt s k := rfl
      rw [h3] at h1 e
      refine as_ (al_ (B_ (R_ (M_ r_ (o_ r_ (cz_ r_ r_ g_ (M_ r_ (M_ r_ (o_ r_ (ow_indexStr r_ r_ r_ g_ g_ (o_ r_ (ow_subU8 r_ r_ g_ (o_ r_ (ow_convI64 r_ r_ r_ g_ (o_ r_ (bj_ r_ r_ g_ (E_ r_ (T_ (R_ (M_ r_ ?_))))))))))))))))))))
      refine o_ r_ (cn_ r_ r_ (T_ (jc_condd rfl (fun hg => ?_) (fun hg => ?_))))
      · have e2 : (2147483648 : Int) ≤ numVal (bytesI s) := numVal_big hd k (by rw [e]; omega)
        refine R_ (E_ r_ (T_ (ar_ (az_ (aw_ (aw_ (az_ (aw_ (jq_ret1 rfl rfl [] rfl (fun K h => by rw [if_pos e2] at h; exact h))))))))))
      · refine as_ (ay_ (al_ (an_ (M_ r_ (o_ r_ (bj_ r_ r_ g_ (E_ r_ (ak_ ?_))))))))
        have e3 : numVal ((bytesI s).take (k + 1)) = numVal ((bytesI s).take k) * 10 + (byteAt s (k : Int).toNat - 48) := by omega
        refine jq_againS (k + 1) ⟨by omega, by omega⟩ g_ ?_ ?_
        · exact sub_end
        · rw [e3]
          (repeat (first | exact True.intro | refine ⟨rfl, ?_⟩))
    · have e2 : (bytesI s).take k = bytesI s := List.take_of_length_le (by rw [bytesI_len]; omega)
      rw [e2] at hv
      refine av_ (ax_ (ax_ (ba_ (al_ (R_ (M_ r_ (E_ r_ (T_ (ar_ (jq_ret1 rfl rfl [] rfl (fun K h => by rw [if_neg g_] at h; rw [e2]; exact h)))))))))))
end Go.Proofs.YtamajcgdfjeehaaDoor
end

section
namespace Go.Proofs.YtamajcgdfjeehaaDoor
open Go.Vc
attribute [local irreducible] JL JC JQ OpWp Con ConN

/-- A text's row. -/
def Trow (s : ByteArray) : List C := [.val (.string s)]
/-- All signs, longer ones first. -/
def SL2 : List ByteArray := [⟨#[60, 60]⟩, ⟨#[62, 62]⟩, ⟨#[60, 61]⟩, ⟨#[61, 61]⟩, ⟨#[33, 61]⟩]
def SL1 : List ByteArray := [⟨#[43]⟩, ⟨#[45]⟩, ⟨#[42]⟩, ⟨#[47]⟩, ⟨#[37]⟩, ⟨#[38]⟩, ⟨#[124]⟩, ⟨#[94]⟩, ⟨#[60]⟩, ⟨#[61]⟩, ⟨#[40]⟩, ⟨#[41]⟩, ⟨#[91]⟩, ⟨#[93]⟩, ⟨#[123]⟩, ⟨#[125]⟩]
theorem Signs_c : Con Tryd.prog 56 [] [] (fun K => K (.cell (.list ((SL2 ++ SL1).map Trow))) []) := by
  refine con_intro Tryd.func56 rfl rfl (Nat.le_of_ble_eq_true rfl) (fun c hc => R_ (E_ r_ (T_ (R_ (o_ r_ (bq_ r_ r_ b_ r_ r_ b_ (E_ r_ (T_ (ar_ (jq_ret1 rfl rfl [] rfl (fun K h => h)))))))))))
/-- Whether a text begins with another. -/
def begins (s t : ByteArray) : Bool := decide (t.size ≤ s.size) && decide (s.extract 0 t.size = t)
def rsign (s : ByteArray) : ByteArray := ((SL2 ++ SL1).find? (begins s)).getD ⟨#[]⟩
theorem rsign_c (s : ByteArray) (hs : s.size ≤ 1000000) : Con Tryd.prog 36 [Str s] [] (fun K => K (Str (rsign s)) []) := by
  refine con_intro Tryd.func36 rfl rfl (Nat.le_of_ble_eq_true rfl) (fun c hc => ?_)
  have hS := Signs_c
  have hr : rsign s = ((SL2 ++ SL1).find? (begins s)).getD ⟨#[]⟩ := rfl
  have hlen : (SL2 ++ SL1).length = 21 := rfl
  have hall : ∀ t ∈ SL2 ++ SL1, t.size ≤ 2 := by
    intro t ht
    rcases List.mem_append.1 ht with h | h <;> simp only [SL2, SL1, List.mem_cons, List.not_mem_nil, or_false] at h
    · rcases h with rfl | rfl | rfl | rfl | rfl <;> decide
    · rcases h with rfl | rfl | rfl | rfl | rfl | rfl | rfl | rfl | rfl | rfl | rfl | rfl | rfl | rfl | rfl | rfl <;> decide
  revert hS hr hlen hall
  generalize SL2 ++ SL1 = L
  intro hS hr hlen hall
  have eL : (L.map Trow).length = L.length := List.length_map _
  refine R_ (E_ r_ (T_ (R_ (o_ r_ (bm_ r_ (hS) (E_ r_ (T_ (am_ (R_ (E_ r_ (T_ (au_ (jc_loopS [] (fun k : Nat => k ≤ L.length ∧ ∀ j (h : j < L.length), j < k → begins s L[j] = false) (fun k => [(0, Str s), (3, .cell (.list (L.map Trow))), (4, In .i64 (k : Int))]) (fun _ => []) (fun k => L.length - k) 0 ⟨Nat.zero_le _, fun j _ h => by omega⟩ ?_ ?_ ?_)))))))))))))
  · exact sub_end
  · (repeat (first | exact True.intro | refine ⟨rfl, ?_⟩))
  · rintro k ⟨hk, hno⟩
    refine jc_reset [(0, Str s), (3, .cell (.list (L.map Trow))), (4, In .i64 (k : Int))] [] ?_ ⟨[], [], rfl⟩ ?_
    · (repeat (first | exact True.intro | refine ⟨rfl, ?_⟩))
    refine am_ (R_ (M_ r_ (M_ r_ (o_ r_ (br_ r_ (fun hlen => o_ r_ (bw_ r_ r_ (T_ (jc_condd rfl (fun hlt => ?_) (fun hge => ?_))))))))))
    · have hlt' : k < L.length := by omega
      have h2 := hall L[k] (List.getElem_mem hlt')
      by_cases hsz : (L[k].size : Int) ≤ (s.size : Int)
      · refine as_ (al_ (B_ (am_ (ao_ r_ r_ k_ k_ (yM_ r_ (aa_ (fun c => co_ r_ r_ p_) (yM_ r_ (yM_ r_ (aa_ (fun c => cc_ r_ r_ g_ r_ r_ b_ p_) (aa_ (fun c => cb_ r_ r_ p_) (aa_ (fun c => co_ r_ r_ p_) (aa_ (fun c => cn_ r_ r_ p_) (yM_ r_ (ab_ r_ u_ (fun c => bd_ r_ p_) (ab_ r_ u_ (fun c => bd_ r_ p_) ?_)))))))))))))))
        refine ab_ r_ u_ (fun c => bd_ r_ p_) (ab_ r_ u_ (fun c => cc_ r_ r_ g_ r_ r_ b_ p_) (ab_ r_ u_ (fun c => cb_ r_ r_ p_) (ab_ r_ u_ (fun c => co_ r_ r_ p_) (ab_ r_ u_ (fun c => ow_substrHi r_ r_ r_ g_ g_ p_) (ab_ r_ u_ (fun c => bd_ r_ p_) (ab_ r_ u_ (fun c => bd_ r_ p_) (ab_ r_ u_ (fun c => cc_ r_ r_ g_ r_ r_ b_ p_) (ab_ r_ u_ (fun c => cb_ r_ r_ p_) (ab_ r_ u_ (fun c => cs_ r_ r_ p_) ?_)))))))))
        refine aa_ (fun c => bp_ r_ u_ r_ p_) (ae_ (al_ (jc_condd rfl (fun hb => ?_) (fun hb => ?_))))
        · have hb' : begins s L[k] = true := by
            unfold begins
            rw [decide_eq_true (show L[k].size ≤ s.size by omega), decide_eq_true (show s.extract 0 L[k].size = L[k] from hb)]
            rfl
          have e : rsign s = L[k] := by
            rw [hr, (List.find?_eq_some_iff_getElem).2 ⟨hb', k, hlt', rfl, fun j hj => by rw [hno j (by omega) hj]; rfl⟩]
            rfl
          refine R_ (M_ r_ (M_ r_ (o_ r_ (cc_ r_ r_ g_ r_ r_ b_ (o_ r_ (cb_ r_ r_ (E_ r_ (T_ (ar_ (az_ (aw_ (aw_ (az_ (aw_ (jq_ret1 rfl rfl [] rfl (fun K h => by rw [e] at h; exact h))))))))))))))))
        · have hf : begins s L[k] = false := by
            unfold begins
            rw [decide_eq_false (show ¬ s.extract 0 L[k].size = L[k] from hb), Bool.and_false]
          refine as_ (ay_ (al_ (an_ (M_ r_ (o_ r_ (bj_ r_ r_ g_ (E_ r_ (ak_ ?_))))))))
          refine jq_againS (k + 1) ⟨by omega, fun j hj hjk => by
            by_cases e : j < k
            · exact hno j hj e
            · obtain rfl : j = k := by omega
              exact hf⟩ (by omega) ?_ ?_
          · exact sub_end
          · (repeat (first | exact True.intro | refine ⟨rfl, ?_⟩))
      · have hf : begins s L[k] = false := by
          unfold begins
          rw [decide_eq_false (show ¬ L[k].size ≤ s.size by omega), Bool.false_and]
        refine as_ (al_ (B_ (am_ (ao_ r_ r_ k_ k_ (yM_ r_ (aa_ (fun c => co_ r_ r_ p_) (yM_ r_ (yM_ r_ (aa_ (fun c => cc_ r_ r_ g_ r_ r_ b_ p_) (aa_ (fun c => cb_ r_ r_ p_) (aa_ (fun c => co_ r_ r_ p_) (aa_ (fun c => cn_ r_ r_ p_) (yM_ r_ (ac_ r_ w_ (ac_ r_ w_ ?_)))))))))))))))
        refine ac_ r_ w_ (ac_ r_ w_ (ac_ r_ w_ (ac_ r_ w_ (ac_ r_ w_ (ac_ r_ w_ (ac_ r_ w_ (ac_ r_ w_ (ac_ r_ w_ (ac_ r_ w_ (aa_ (fun c => bv_ r_ w_ r_ p_) (ae_ (al_ (jc_cond rfl (fun h => by cases h) (fun _ => as_ (ay_ ?_)))))))))))))))
        refine al_ (an_ (M_ r_ (o_ r_ (bj_ r_ r_ g_ (E_ r_ (ak_ ?_))))))
        refine jq_againS (k + 1) ⟨by omega, fun j hj hjk => by
          by_cases e : j < k
          · exact hno j hj e
          · obtain rfl : j = k := by omega
            exact hf⟩ (by omega) ?_ ?_
        · exact sub_end
        · (repeat (first | exact True.intro | refine ⟨rfl, ?_⟩))
    · have e : rsign s = ⟨#[]⟩ := by
        rw [hr, List.find?_eq_none.2 (fun x hx => by obtain ⟨j, hj, rfl⟩ := List.mem_iff_getElem.1 hx; rw [hno j hj (by omega)]; simp)]
        rfl
      refine av_ (ax_ (ax_ (ba_ (al_ (R_ (E_ r_ (T_ (ar_ (jq_ret1 rfl rfl [] rfl (fun K h => by rw [e] at h; exact h))))))))))
end Go.Proofs.YtamajcgdfjeehaaDoor
end

section
namespace Go.Proofs.YtamajcgdfjeehaaDoor
open Go.Vc
attribute [local irreducible] JL JC JQ OpWp Con ConN

theorem byteAt_getD (s : ByteArray) (n : Nat) : byteAt s n = (bytesI s).getD n 0 := by
  by_cases h : n < s.size
  · rw [← bytesI_get s n h, List.getD_eq_getElem?_getD, List.getElem?_eq_getElem (by simpa using h)]
    rfl
  · unfold byteAt
    rw [List.getD_eq_getElem?_getD, List.getD_eq_getElem?_getD, List.getElem?_eq_none (by simpa using h), List.getElem?_eq_none (by simpa using h)]
    rfl
theorem byteAt_extract (s : ByteArray) (a j : Nat) : byteAt (s.extract a s.size) j = byteAt s (a + j) := by
  rw [byteAt_getD, byteAt_getD, extract_bytes, List.take_of_length_le (by simp), List.getD_eq_getElem?_getD, List.getD_eq_getElem?_getD, List.getElem?_drop]
theorem extract_extract (s : ByteArray) (a n : Nat) (h : a + n ≤ s.size) : (s.extract a s.size).extract 0 n = s.extract a (a + n) := by
  apply bytesI_inj
  rw [extract_bytes, extract_bytes, extract_bytes, List.drop_zero, List.take_take]
  congr 1
  omega
theorem begins_iff {s t : ByteArray} : begins s t = true ↔ t.size ≤ s.size ∧ s.extract 0 t.size = t := by simp [begins]
theorem SL2_size : ∀ t ∈ SL2, t.size = 2 := by decide
theorem SL1_size : ∀ t ∈ SL1, t.size = 1 := by decide
theorem SG_iff1 : ∀ t ∈ SG, (hasS SL2 t || hasS SL1 t) = true := by decide
theorem SG_iff2 : ∀ t ∈ SL2, hasS SG t = true := by decide
theorem SG_iff3 : ∀ t ∈ SL1, hasS SG t = true := by decide
theorem SG_iff (t : ByteArray) : t ∈ SG ↔ t ∈ SL2 ∨ t ∈ SL1 := by
  constructor
  · intro h
    rcases Bool.or_eq_true_iff.1 (SG_iff1 t h) with h | h
    · exact .inl (hasS_iff.1 h)
    · exact .inr (hasS_iff.1 h)
  · rintro (h | h)
    · exact hasS_iff.1 (SG_iff2 t h)
    · exact hasS_iff.1 (SG_iff3 t h)
theorem rsign_eq (s : ByteArray) : rsign s = s.extract 0 (signLen s) := by
  unfold rsign signLen
  rw [List.find?_append]
  cases h2 : SL2.find? (begins s) with
  | some t =>
    have ht := List.mem_of_find?_eq_some h2
    have hb := begins_iff.1 (List.find?_some h2)
    rw [SL2_size t ht] at hb
    rw [if_pos ⟨hb.1, hasS_iff.2 ((SG_iff _).2 (.inl (by rw [hb.2]; exact ht)))⟩]
    exact hb.2.symm
  | none =>
    have hn2 : ¬ (2 ≤ s.size ∧ hasS SG (s.extract 0 2) = true) := by
      rintro ⟨a, b⟩
      rcases (SG_iff _).1 (hasS_iff.1 b) with h | h
      · have := List.find?_eq_none.1 h2 _ h
        exact this (begins_iff.2 ⟨by rw [SL2_size _ h]; exact a, by rw [SL2_size _ h]⟩)
      · have := SL1_size _ h
        rw [extract_size _ _ _ a] at this
        omega
    rw [if_neg hn2]
    cases h1 : SL1.find? (begins s) with
    | some t =>
      have ht := List.mem_of_find?_eq_some h1
      have hb := begins_iff.1 (List.find?_some h1)
      rw [SL1_size t ht] at hb
      rw [if_pos ⟨hb.1, hasS_iff.2 ((SG_iff _).2 (.inr (by rw [hb.2]; exact ht)))⟩]
      exact hb.2.symm
    | none =>
      have hn1 : ¬ (1 ≤ s.size ∧ hasS SG (s.extract 0 1) = true) := by
        rintro ⟨a, b⟩
        rcases (SG_iff _).1 (hasS_iff.1 b) with h | h
        · have := SL2_size _ h
          rw [extract_size _ _ _ a] at this
          omega
        · have := List.find?_eq_none.1 h1 _ h
          exact this (begins_iff.2 ⟨by rw [SL1_size _ h]; exact a, by rw [SL1_size _ h]⟩)
      rw [if_neg hn1]
      show (⟨#[]⟩ : ByteArray) = s.extract 0 0
      exact ((empty_iff _).2 (by rw [extract_size _ _ _ (Nat.zero_le _)])).symm
end Go.Proofs.YtamajcgdfjeehaaDoor
end

section
namespace Go.Proofs.YtamajcgdfjeehaaDoor
open Go.Vc
attribute [local irreducible] JL JC JQ OpWp Con ConN
attribute [local irreducible] nextT scan byteAt rsign runLen nameLen signLen numVal

theorem rScan_c (s : ByteArray) : Con Tryd.prog 18 [Str s] [] (fun K => K (.tup [.cell (.list ((scan s).1.map Tok.row)), In .i64 (scan s).2.1, In .i64 (scan s).2.2]) []) := by
  refine con_intro Tryd.func18 rfl rfl (Nat.le_of_ble_eq_true rfl) (fun c hc => R_ (E_ r_ (E_ r_ (E_ r_ (T_ (am_ (R_ (M_ r_ (o_ r_ (co_ r_ r_ (o_ r_ (bz_ r_ r_ (T_ (jc_condd rfl (fun hn => ?_) (fun hn => ?_)))))))))))))))
  · refine R_ (E_ r_ (E_ r_ (E_ r_ (T_ (ar_ (aw_ ?_))))))
    have e : scan s = ([], 0, 4) := by unfold scan; rw [if_pos (by omega)]
    exact jq_ownNil 76 4 g_ (jq_freeze 2 0 rfl rfl (by rw [hc]; simp [hb]) (jq_ret3 rfl rfl rfl rfl (fun K h => by rw [e] at h; exact h) sub_end))
  · have hsz : s.size ≤ 8192 := by omega
    refine as_ (al_ (R_ (E_ r_ (T_ (R_ (E_ r_ (T_ (am_ (R_ (E_ r_ (T_ (au_ (jc_ownNil 76 4 g_ ?_)))))))))))))
    refine jc_loopS (ι := Nat × Int × Value × List Tok) [] (fun i => scanGo s i.1 i.2.1 i.2.2.2 = scan s ∧ i.1 ≤ s.size ∧ 1 ≤ i.2.1 ∧ i.2.1 ≤ 1 + i.1 ∧ i.2.2.2.length ≤ i.1) (fun i => [(0, Str s), (2, S.cell (C.val (.slice none 0 0))), (5, .cell (.val i.2.2.1)), (6, In .i64 i.2.1), (7, In .i64 (i.1 : Int))]) (fun i => [.own i.2.2.1 76 4 (i.2.2.2.map Tok.row)]) (fun i => s.size - i.1) (0, 1, .slice none 0 0, []) ⟨by unfold scan; rw [if_neg g_], by omega, by dsimp only; omega, by dsimp only; omega, by simp⟩ ?_ ?_ ?_
    · exact bc_ 0 r_ sub_end
    · (repeat (first | exact True.intro | refine ⟨rfl, ?_⟩))
    · rintro ⟨k, line, v, out⟩ ⟨hsc, hk, hl1, hl2, hlen⟩
      dsimp only at hsc hk hl1 hl2 hlen ⊢
      refine jc_reset [(0, Str s), (2, S.cell (C.val (.slice none 0 0))), (5, .cell (.val v)), (6, In .i64 line), (7, In .i64 (k : Int))] [.own v 76 4 (out.map Tok.row)] ?_ ⟨[0], [], rfl⟩ ?_
      · (repeat (first | exact True.intro | refine ⟨rfl, ?_⟩))
      refine am_ (R_ (M_ r_ (M_ r_ (o_ r_ (co_ r_ r_ (o_ r_ (bw_ r_ r_ (T_ (jc_condd rfl (fun hlt => ?_) (fun hge => ?_))))))))))
      · have hlt' : k < s.size := by omega
        rw [scanGo, dif_pos hlt'] at hsc
        have hx : (s.extract k s.size).size = s.size - k := by rw [extract_size _ _ _ (Nat.le_refl _)]
        have hnl := nextT_le (s.extract k s.size)
        refine as_ (al_ (au_ (R_ (M_ r_ (M_ r_ (o_ r_ (ow_indexStr r_ r_ r_ g_ g_ (E_ r_ (T_ (R_ (M_ r_ (E_ r_ (T_ (B_ (R_ (M_ r_ ?_))))))))))))))))
        refine o_ r_ (bn_ r_ r_ (E_ r_ (T_ (jc_condd rfl (fun h10 => ?_) (fun h10 => ?_)))))
        · rw [if_pos (show byteAt s k = 10 from h10)] at hsc
          refine R_ (M_ r_ (o_ r_ (bj_ r_ r_ g_ (E_ r_ (T_ (R_ (M_ r_ (o_ r_ (bj_ r_ r_ g_ (E_ r_ (T_ (av_ (bb_ r_ (ax_ (ba_ (jq_againS (i := (k, line, v, out)) (k + 1, line + 1, v, out) ⟨hsc, by dsimp only; omega, by dsimp only; omega, by dsimp only; omega, by dsimp only; omega⟩ (by dsimp only; omega) ?_ ?_))))))))))))))))
          · exact bc_ 0 r_ sub_end
          · (repeat (first | exact True.intro | refine ⟨rfl, ?_⟩))
        · rw [if_neg (show ¬ byteAt s k = 10 from h10)] at hsc
          by_cases hw : byteAt s k = 32 ∨ byteAt s k = 9
          · rw [if_pos hw] at hsc
            have hw' : (decide (byteAt s (k : Int).toNat = 32) || decide (byteAt s (k : Int).toNat = 9)) = true := by simpa using hw
            by_cases h32 : byteAt s (k : Int).toNat = 32
            · refine R_ (M_ r_ (o_ r_ (bn_ r_ r_ (M_ r_ (ai_ r_ u_ b_ (ai_ r_ u_ b_ (o_ r_ (bp_ r_ u_ r_ (E_ r_ (T_ (jc_cond rfl (fun _ => R_ (M_ r_ (o_ r_ (bj_ r_ r_ g_ (E_ r_ (T_ (av_ ?_))))))) (fun h => by cases h))))))))))))
              refine bb_ r_ (ax_ (ba_ (jq_againS (i := (k, line, v, out)) (k + 1, line, v, out) ⟨hsc, by dsimp only; omega, by dsimp only; omega, by dsimp only; omega, by dsimp only; omega⟩ (by dsimp only; omega) ?_ ?_)))
              · exact bc_ 0 r_ sub_end
              · (repeat (first | exact True.intro | refine ⟨rfl, ?_⟩))
            · have h9 : byteAt s (k : Int).toNat = 9 := hw.resolve_left h32
              refine R_ (M_ r_ (o_ r_ (bn_ r_ r_ (M_ r_ (ah_ r_ w_ b_ (bd_ r_ (ah_ r_ w_ b_ (bn_ r_ r_ (o_ r_ (bv_ r_ w_ r_ (E_ r_ (T_ (jc_condd rfl (fun _ => R_ (M_ r_ (o_ r_ (bj_ r_ r_ g_ (E_ r_ (T_ (av_ ?_))))))) (fun h => absurd h9 h))))))))))))))
              refine bb_ r_ (ax_ (ba_ (jq_againS (i := (k, line, v, out)) (k + 1, line, v, out) ⟨hsc, by dsimp only; omega, by dsimp only; omega, by dsimp only; omega, by dsimp only; omega⟩ (by dsimp only; omega) ?_ ?_)))
              · exact bc_ 0 r_ sub_end
              · (repeat (first | exact True.intro | refine ⟨rfl, ?_⟩))
          · rw [if_neg hw] at hsc
            have h32 : ¬ byteAt s (k : Int).toNat = 32 := fun h => hw (.inl h)
            have h9 : ¬ byteAt s (k : Int).toNat = 9 := fun h => hw (.inr h)
            refine R_ (M_ r_ (o_ r_ (bn_ r_ r_ (M_ r_ (ah_ r_ w_ b_ (bd_ r_ (ah_ r_ w_ b_ (bn_ r_ r_ (o_ r_ (bv_ r_ w_ r_ (E_ r_ (T_ (jc_condd rfl (fun h => absurd h h9) (fun _ => jc_reset [(0, Str s), (2, S.cell (C.val (.slice none 0 0))), (5, .cell (.val v)), (6, In .i64 line), (7, In .i64 (k : Int)), (8, In .u8 (byteAt s k)), (9, In .i64 (k : Int))] [.own v 76 4 (out.map Tok.row)] ?_ ⟨[0], [], rfl⟩ ?_))))))))))))))
            · (repeat (first | exact True.intro | refine ⟨rfl, ?_⟩))
            refine R_ (M_ r_ (o_ r_ (bm_ r_ (rletter_c _) (E_ r_ (T_ (jc_cond rfl (fun hL => ?_) (fun hL => ?_)))))))
            · refine B_ (jc_loopS [] (fun j : Nat => k + j ≤ s.size ∧ ∀ i, i < j → isLD (byteAt s (k + i)) = true) (fun j => [(0, Str s), (2, S.cell (C.val (.slice none 0 0))), (5, .cell (.val v)), (6, In .i64 line), (7, In .i64 (k : Int)), (9, In .i64 ((k + j : Nat) : Int))]) (fun _ => [.own v 76 4 (out.map Tok.row)]) (fun j => s.size - (k + j)) 0 ⟨by omega, fun j h => by omega⟩ ?_ ?_ ?_)
              · exact bc_ 0 r_ sub_end
              · (repeat (first | exact True.intro | refine ⟨rfl, ?_⟩))
              · rintro j ⟨hkj, hall⟩
                refine jc_reset [(0, Str s), (2, S.cell (C.val (.slice none 0 0))), (5, .cell (.val v)), (6, In .i64 line), (7, In .i64 (k : Int)), (9, In .i64 ((k + j : Nat) : Int))] [.own v 76 4 (out.map Tok.row)] ?_ ⟨[0], [], rfl⟩ ?_
                · (repeat (first | exact True.intro | refine ⟨rfl, ?_⟩))
                by_cases hlt2 : ((k + j : Nat) : Int) < (s.size : Int)
                · cases hl0 : isL (byteAt s ((k + j : Nat) : Int).toNat) with
                  | true =>
                    refine am_ (R_ (M_ r_ (M_ r_ (o_ r_ (co_ r_ r_ (o_ r_ (bw_ r_ r_ (M_ r_ (ah_ r_ u_ b_ (bd_ r_ (ah_ r_ u_ b_ (bd_ r_ (ah_ r_ u_ b_ (ow_indexStr r_ r_ r_ g_ g_ (ah_ r_ u_ b_ (bm_ r_ (rletter_c _) (ah_ r_ u_ b_ (bd_ r_ (ai_ r_ h_ b_ (ai_ r_ h_ b_ (ai_ r_ h_ b_ (ai_ r_ h_ b_ ?_))))))))))))))))))))))
                    refine ah_ r_ u_ b_ (bp_ r_ h_ r_ (o_ r_ (bp_ r_ u_ r_ (T_ (jc_cond rfl (fun _ => as_ (al_ (au_ (an_ (M_ r_ (o_ r_ (bj_ r_ r_ g_ (E_ r_ (ak_ (ay_ (jq_againS (j + 1) ⟨by omega, fun i hi => ?_⟩ g_ ?_ ?_))))))))))) (fun h => by cases h))))))
                    · by_cases hij : i < j
                      · exact hall i hij
                      · obtain rfl : i = j := by omega
                        unfold isLD
                        rw [show isL (byteAt s (k + i)) = true from hl0]; rfl
                    · exact bc_ 0 r_ sub_end
                    · (repeat (first | exact True.intro | refine ⟨rfl, ?_⟩))
                  | false =>
                    refine am_ (R_ (M_ r_ (M_ r_ (o_ r_ (co_ r_ r_ (o_ r_ (bw_ r_ r_ (M_ r_ (ah_ r_ u_ b_ (bd_ r_ (ah_ r_ u_ b_ (bd_ r_ (ah_ r_ u_ b_ (ow_indexStr r_ r_ r_ g_ g_ (ah_ r_ u_ b_ (bm_ r_ (rletter_c _) (ah_ r_ u_ b_ (bd_ r_ (ah_ r_ h_ b_ (bd_ r_ (ah_ r_ h_ b_ (bd_ r_ (ah_ r_ h_ b_ (ow_indexStr r_ r_ r_ g_ g_ (ah_ r_ h_ b_ (bm_ r_ (rdigit_c _) ?_))))))))))))))))))))))))))
                    refine ah_ r_ u_ b_ (bv_ r_ h_ r_ (o_ r_ (bp_ r_ u_ r_ (T_ (jc_cond rfl (fun hb => ?_) (fun hb => ?_))))))
                    · refine as_ (al_ (au_ (an_ (M_ r_ (o_ r_ (bj_ r_ r_ g_ (E_ r_ (ak_ (ay_ (jq_againS (j + 1) ⟨by omega, fun i hi => ?_⟩ g_ ?_ ?_))))))))))
                      · by_cases hij : i < j
                        · exact hall i hij
                        · obtain rfl : i = j := by omega
                          unfold isLD
                          rw [show isD (byteAt s (k + i)) = true from hb, Bool.or_true]
                      · exact bc_ 0 r_ sub_end
                      · (repeat (first | exact True.intro | refine ⟨rfl, ?_⟩))
                    · have hf : isLD (byteAt s (k + j)) = false := by
                        unfold isLD
                        rw [show isL (byteAt s (k + j)) = false from hl0, show isD (byteAt s (k + j)) = false from hb]
                        rfl
                      have hjp : 0 < j := by
                        rcases Nat.eq_zero_or_pos j with h | h
                        · subst h
                          exact absurd (show isL (byteAt s k) = true from hL) (by rw [show isL (byteAt s k) = false from hl0]; simp)
                        · exact h
                      have hj : runLen isLD (s.extract k s.size) = j := runLen_eq (fun i hi => by rw [byteAt_extract]; exact hall i hi) (by omega) (fun _ => by rw [byteAt_extract]; exact hf)
                      have hnl0 : nameLen (s.extract k s.size) = j := by
                        unfold nameLen
                        rw [if_pos ⟨by omega, by rw [byteAt_extract, Nat.add_zero]; exact hL⟩]
                        exact hj
                      have hnx : nextT (s.extract k s.size) = if 12 < j then ((0, 0, ⟨#[]⟩), 0) else ((1, 0, s.extract k (k + j)), j) := by
                        unfold nextT
                        rw [hnl0, if_pos (by omega), extract_extract s k j (by omega)]
                      have hsub : ((k + j : Nat) : Int) - (k : Int) = (j : Int) := by omega
                      refine av_ (ax_ (ax_ (ba_ (al_ (am_ (R_ (M_ r_ (M_ r_ (o_ r_ (cg_ r_ r_ g_ (o_ r_ (bz_ r_ r_ (T_ (jc_condd rfl (fun h12 => ?_) (fun h12 => ?_)))))))))))))))
                      · rw [if_pos (by omega)] at hnx
                        rw [hnx] at hsc
                        refine R_ (M_ r_ (E_ r_ (E_ r_ (E_ r_ (T_ (ar_ (aw_ (az_ (aw_ (az_ (aw_ (az_ (aw_ ?_)))))))))))))
                        have e : scan s = ([], line, 1) := by rw [← hsc, dif_pos rfl]
                        exact jq_ownNil 76 4 g_ (jq_freeze 2 0 rfl rfl (by rw [hc]; simp [Go.Vc.hb]) (jq_ret3 rfl rfl rfl rfl (fun K h => by rw [e] at h; exact h) sub_end))
                      · rw [if_neg (by omega)] at hnx
                        rw [hnx] at hsc
                        dsimp only at hsc
                        rw [dif_neg (by omega)] at hsc
                        refine as_ (al_ (an_ (M_ r_ (M_ r_ (M_ r_ (M_ r_ (M_ r_ (o_ r_ (ow_substr r_ r_ r_ r_ g_ g_ g_ (o_ r_ (bu_ r_ r_ r_ r_ r_ (o_ r_ (bq_ r_ r_ b_ r_ r_ b_ ?_)))))))))))))
                        refine o_ r_ (ow_append1 0 ((⟨1, 0, line, s.extract k (k + j)⟩ : Tok)) rfl rfl rfl rfl rfl rfl rfl (fun _ => rfl) (by show (_ + _) * 40 ≤ _; first | omega | (simp only [List.length_append]; omega)) (by first | omega | (simp only [List.length_append]; omega)) (fun v1 hv1 => E_ r_ (ak_ (ay_ (al_ (an_ (M_ r_ (E_ r_ (ak_ (ay_ ?_))))))))))
                        refine jq_againS (i := (k, line, v, out)) (k + j, line, v1, out ++ [(⟨1, 0, line, s.extract k (k + j)⟩ : Tok)]) ⟨hsc, by dsimp only; omega, hl1, by dsimp only; omega, by dsimp only; rw [List.length_append, List.length_singleton]; omega⟩ (by dsimp only; omega) ?_ ?_
                        · exact bc_ 0 r_ sub_end
                        · (repeat (first | exact True.intro | refine ⟨rfl, ?_⟩))
                · refine am_ (R_ (M_ r_ (M_ r_ (o_ r_ (co_ r_ r_ (o_ r_ (bw_ r_ r_ (M_ r_ (ai_ r_ w_ b_ (ai_ r_ w_ b_ (ai_ r_ w_ b_ (ai_ r_ w_ b_ (ai_ r_ w_ b_ (aj_ r_ b_ (aj_ r_ b_ (aj_ r_ b_ (aj_ r_ b_ ?_)))))))))))))))))
                  refine ai_ r_ w_ b_ (o_ r_ (bv_ r_ w_ r_ (T_ (jc_cond rfl (fun h => by cases h) (fun _ => ?_)))))
                  have hjp : 0 < j := by omega
                  have hj : runLen isLD (s.extract k s.size) = j := runLen_eq (fun i hi => by rw [byteAt_extract]; exact hall i hi) (by omega) (fun h => by omega)
                  have hnl0 : nameLen (s.extract k s.size) = j := by
                    unfold nameLen
                    rw [if_pos ⟨by omega, by rw [byteAt_extract, Nat.add_zero]; exact hL⟩]
                    exact hj
                  have hnx : nextT (s.extract k s.size) = if 12 < j then ((0, 0, ⟨#[]⟩), 0) else ((1, 0, s.extract k (k + j)), j) := by
                    unfold nextT
                    rw [hnl0, if_pos (by omega), extract_extract s k j (by omega)]
                  have hsub : ((k + j : Nat) : Int) - (k : Int) = (j : Int) := by omega
                  refine av_ (ax_ (ax_ (ba_ (al_ (am_ (R_ (M_ r_ (M_ r_ (o_ r_ (cg_ r_ r_ g_ (o_ r_ (bz_ r_ r_ (T_ (jc_condd rfl (fun h12 => ?_) (fun h12 => ?_)))))))))))))))
                  · rw [if_pos (by omega)] at hnx
                    rw [hnx] at hsc
                    refine R_ (M_ r_ (E_ r_ (E_ r_ (E_ r_ (T_ (ar_ (aw_ (az_ (aw_ (az_ (aw_ (az_ (aw_ ?_)))))))))))))
                    have e : scan s = ([], line, 1) := by rw [← hsc, dif_pos rfl]
                    exact jq_ownNil 76 4 g_ (jq_freeze 2 0 rfl rfl (by rw [hc]; simp [Go.Vc.hb]) (jq_ret3 rfl rfl rfl rfl (fun K h => by rw [e] at h; exact h) sub_end))
                  · rw [if_neg (by omega)] at hnx
                    rw [hnx] at hsc
                    dsimp only at hsc
                    rw [dif_neg (by omega)] at hsc
                    refine as_ (al_ (an_ (M_ r_ (M_ r_ (M_ r_ (M_ r_ (M_ r_ (o_ r_ (ow_substr r_ r_ r_ r_ g_ g_ g_ (o_ r_ (bu_ r_ r_ r_ r_ r_ (o_ r_ (bq_ r_ r_ b_ r_ r_ b_ ?_)))))))))))))
                    refine o_ r_ (ow_append1 0 ((⟨1, 0, line, s.extract k (k + j)⟩ : Tok)) rfl rfl rfl rfl rfl rfl rfl (fun _ => rfl) (by show (_ + _) * 40 ≤ _; first | omega | (simp only [List.length_append]; omega)) (by first | omega | (simp only [List.length_append]; omega)) (fun v1 hv1 => E_ r_ (ak_ (ay_ (al_ (an_ (M_ r_ (E_ r_ (ak_ (ay_ ?_))))))))))
                    refine jq_againS (i := (k, line, v, out)) (k + j, line, v1, out ++ [(⟨1, 0, line, s.extract k (k + j)⟩ : Tok)]) ⟨hsc, by dsimp only; omega, hl1, by dsimp only; omega, by dsimp only; rw [List.length_append, List.length_singleton]; omega⟩ (by dsimp only; omega) ?_ ?_
                    · exact bc_ 0 r_ sub_end
                    · (repeat (first | exact True.intro | refine ⟨rfl, ?_⟩))
            · refine R_ (M_ r_ (o_ r_ (bm_ r_ (rdigit_c _) (E_ r_ (T_ (jc_cond rfl (fun hD => ?_) (fun hD => ?_)))))))
              · have hn0 : nameLen (s.extract k s.size) = 0 := by
                  unfold nameLen
                  rw [if_neg]
                  rintro ⟨_, h⟩
                  rw [byteAt_extract, Nat.add_zero, hL] at h
                  cases h
                refine B_ (jc_loopS [] (fun j : Nat => k + j ≤ s.size ∧ ∀ i, i < j → isD (byteAt s (k + i)) = true) (fun j => [(0, Str s), (2, S.cell (C.val (.slice none 0 0))), (5, .cell (.val v)), (6, In .i64 line), (7, In .i64 (k : Int)), (9, In .i64 ((k + j : Nat) : Int))]) (fun _ => [.own v 76 4 (out.map Tok.row)]) (fun j => s.size - (k + j)) 0 ⟨by omega, fun j h => by omega⟩ ?_ ?_ ?_)
                · exact bc_ 0 r_ sub_end
                · (repeat (first | exact True.intro | refine ⟨rfl, ?_⟩))
                · rintro j ⟨hkj, hall⟩
                  refine jc_reset [(0, Str s), (2, S.cell (C.val (.slice none 0 0))), (5, .cell (.val v)), (6, In .i64 line), (7, In .i64 (k : Int)), (9, In .i64 ((k + j : Nat) : Int))] [.own v 76 4 (out.map Tok.row)] ?_ ⟨[0], [], rfl⟩ ?_
                  · (repeat (first | exact True.intro | refine ⟨rfl, ?_⟩))
                  by_cases hlt2 : ((k + j : Nat) : Int) < (s.size : Int)
                  · refine am_ (R_ (M_ r_ (M_ r_ (o_ r_ (co_ r_ r_ (o_ r_ (bw_ r_ r_ (M_ r_ (ah_ r_ u_ b_ (bd_ r_ (ah_ r_ u_ b_ (bd_ r_ (ah_ r_ u_ b_ (ow_indexStr r_ r_ r_ g_ g_ (ah_ r_ u_ b_ (bm_ r_ (rdigit_c _) (o_ r_ (bp_ r_ u_ r_ (T_ (jc_cond rfl (fun hb => ?_) (fun hb => ?_)))))))))))))))))))))
                    · refine as_ (al_ (au_ (an_ (M_ r_ (o_ r_ (bj_ r_ r_ g_ (E_ r_ (ak_ (ay_ (jq_againS (j + 1) ⟨by omega, fun i hi => ?_⟩ g_ ?_ ?_))))))))))
                      · by_cases hij : i < j
                        · exact hall i hij
                        · obtain rfl : i = j := by omega
                          exact hb
                      · exact bc_ 0 r_ sub_end
                      · (repeat (first | exact True.intro | refine ⟨rfl, ?_⟩))
                    · have hjp : 0 < j := by
                        rcases Nat.eq_zero_or_pos j with h | h
                        · subst h
                          exact absurd (show isD (byteAt s k) = true from hD) (by rw [show isD (byteAt s k) = false from hb]; simp)
                        · exact h
                      have hj : runLen isD (s.extract k s.size) = j := runLen_eq (fun i hi => by rw [byteAt_extract]; exact hall i hi) (by omega) (fun _ => by rw [byteAt_extract]; exact hb)
                      have hdig := run_dig (s.extract k s.size)
                      rw [hj, extract_extract s k j (by omega)] at hdig
                      have hzz : (s.extract k (k + j)).size ≤ 1000000 := by rw [extract_size _ _ _ (by omega)]; omega
                      have hv := value_c (s.extract k (k + j)) hzz hdig
                      have hvb := numVal_bd _ hdig
                      have hnx : nextT (s.extract k s.size) = if 2147483647 < numVal (bytesI (s.extract k (k + j))) then ((0, 0, ⟨#[]⟩), 0) else ((2, numVal (bytesI (s.extract k (k + j))), ⟨#[]⟩), j) := by
                        unfold nextT
                        rw [if_neg (by omega), if_pos (by omega), hj, extract_extract s k j (by omega)]
                      by_cases hbig : 2147483648 ≤ numVal (bytesI (s.extract k (k + j)))
                      · rw [if_pos hbig] at hv
                        rw [if_pos (by omega)] at hnx
                        rw [hnx] at hsc
                        refine av_ (ax_ (ax_ (ba_ (al_ (R_ (M_ r_ (M_ r_ (M_ r_ (o_ r_ (ow_substr r_ r_ r_ r_ g_ g_ g_ (o_ r_ (bm_ r_ (hv) (E_ r_ (T_ (am_ (R_ (M_ r_ ?_)))))))))))))))))
                        refine o_ r_ (bw_ r_ r_ (T_ (jc_condd rfl (fun _ => R_ (M_ r_ (E_ r_ (E_ r_ (E_ r_ (T_ (ar_ (aw_ (az_ (aw_ (az_ (aw_ (az_ ?_))))))))))))) (fun h => absurd (by decide) h))))
                        refine aw_ ?_
                        have e : scan s = ([], line, 1) := by rw [← hsc, dif_pos rfl]
                        exact jq_ownNil 76 4 g_ (jq_freeze 2 0 rfl rfl (by rw [hc]; simp [Go.Vc.hb]) (jq_ret3 rfl rfl rfl rfl (fun K h => by rw [e] at h; exact h) sub_end))
                      · rw [if_neg hbig] at hv
                        rw [if_neg (by omega)] at hnx
                        rw [hnx] at hsc
                        dsimp only at hsc
                        rw [dif_neg (by omega)] at hsc
                        refine av_ (ax_ (ax_ (ba_ (al_ (R_ (M_ r_ (M_ r_ (M_ r_ (o_ r_ (ow_substr r_ r_ r_ r_ g_ g_ g_ (o_ r_ (bm_ r_ (hv) (E_ r_ (T_ (am_ (R_ (M_ r_ ?_)))))))))))))))))
                        refine o_ r_ (bw_ r_ r_ (T_ (jc_condd rfl (fun h => absurd h g_) (fun _ => as_ (al_ (an_ (M_ r_ (M_ r_ (M_ r_ (o_ r_ (bu_ r_ r_ r_ r_ r_ (o_ r_ (bq_ r_ r_ b_ r_ r_ b_ ?_)))))))))))))
                        refine o_ r_ (ow_append1 0 ((⟨2, numVal (bytesI (s.extract k (k + j))), line, ⟨#[]⟩⟩ : Tok)) rfl rfl rfl rfl rfl rfl rfl (fun _ => rfl) (by show (_ + _) * 40 ≤ _; first | omega | (simp only [List.length_append]; omega)) (by first | omega | (simp only [List.length_append]; omega)) (fun v1 hv1 => E_ r_ (ak_ (ay_ (al_ (an_ (M_ r_ (E_ r_ (ak_ (ay_ ?_))))))))))
                        refine jq_againS (i := (k, line, v, out)) (k + j, line, v1, out ++ [(⟨2, numVal (bytesI (s.extract k (k + j))), line, ⟨#[]⟩⟩ : Tok)]) ⟨hsc, by dsimp only; omega, hl1, by dsimp only; omega, by dsimp only; rw [List.length_append, List.length_singleton]; omega⟩ (by dsimp only; omega) ?_ ?_
                        · exact bc_ 0 r_ sub_end
                        · (repeat (first | exact True.intro | refine ⟨rfl, ?_⟩))
                  · refine am_ (R_ (M_ r_ (M_ r_ (o_ r_ (co_ r_ r_ (o_ r_ (bw_ r_ r_ (M_ r_ (ai_ r_ w_ b_ (ai_ r_ w_ b_ (ai_ r_ w_ b_ (ai_ r_ w_ b_ (o_ r_ (bv_ r_ w_ r_ (T_ (jc_cond rfl (fun h => by cases h) (fun _ => ?_)))))))))))))))))
                    have hjp : 0 < j := by omega
                    have hj : runLen isD (s.extract k s.size) = j := runLen_eq (fun i hi => by rw [byteAt_extract]; exact hall i hi) (by omega) (fun h => by omega)
                    have hdig := run_dig (s.extract k s.size)
                    rw [hj, extract_extract s k j (by omega)] at hdig
                    have hzz : (s.extract k (k + j)).size ≤ 1000000 := by rw [extract_size _ _ _ (by omega)]; omega
                    have hv := value_c (s.extract k (k + j)) hzz hdig
                    have hvb := numVal_bd _ hdig
                    have hnx : nextT (s.extract k s.size) = if 2147483647 < numVal (bytesI (s.extract k (k + j))) then ((0, 0, ⟨#[]⟩), 0) else ((2, numVal (bytesI (s.extract k (k + j))), ⟨#[]⟩), j) := by
                      unfold nextT
                      rw [if_neg (by omega), if_pos (by omega), hj, extract_extract s k j (by omega)]
                    by_cases hbig : 2147483648 ≤ numVal (bytesI (s.extract k (k + j)))
                    · rw [if_pos hbig] at hv
                      rw [if_pos (by omega)] at hnx
                      rw [hnx] at hsc
                      refine av_ (ax_ (ax_ (ba_ (al_ (R_ (M_ r_ (M_ r_ (M_ r_ (o_ r_ (ow_substr r_ r_ r_ r_ g_ g_ g_ (o_ r_ (bm_ r_ (hv) (E_ r_ (T_ (am_ (R_ (M_ r_ ?_)))))))))))))))))
                      refine o_ r_ (bw_ r_ r_ (T_ (jc_condd rfl (fun _ => R_ (M_ r_ (E_ r_ (E_ r_ (E_ r_ (T_ (ar_ (aw_ (az_ (aw_ (az_ (aw_ (az_ ?_))))))))))))) (fun h => absurd (by decide) h))))
                      refine aw_ ?_
                      have e : scan s = ([], line, 1) := by rw [← hsc, dif_pos rfl]
                      exact jq_ownNil 76 4 g_ (jq_freeze 2 0 rfl rfl (by rw [hc]; simp [Go.Vc.hb]) (jq_ret3 rfl rfl rfl rfl (fun K h => by rw [e] at h; exact h) sub_end))
                    · rw [if_neg hbig] at hv
                      rw [if_neg (by omega)] at hnx
                      rw [hnx] at hsc
                      dsimp only at hsc
                      rw [dif_neg (by omega)] at hsc
                      refine av_ (ax_ (ax_ (ba_ (al_ (R_ (M_ r_ (M_ r_ (M_ r_ (o_ r_ (ow_substr r_ r_ r_ r_ g_ g_ g_ (o_ r_ (bm_ r_ (hv) (E_ r_ (T_ (am_ (R_ (M_ r_ ?_)))))))))))))))))
                      refine o_ r_ (bw_ r_ r_ (T_ (jc_condd rfl (fun h => absurd h g_) (fun _ => as_ (al_ (an_ (M_ r_ (M_ r_ (M_ r_ (o_ r_ (bu_ r_ r_ r_ r_ r_ (o_ r_ (bq_ r_ r_ b_ r_ r_ b_ ?_)))))))))))))
                      refine o_ r_ (ow_append1 0 ((⟨2, numVal (bytesI (s.extract k (k + j))), line, ⟨#[]⟩⟩ : Tok)) rfl rfl rfl rfl rfl rfl rfl (fun _ => rfl) (by show (_ + _) * 40 ≤ _; first | omega | (simp only [List.length_append]; omega)) (by first | omega | (simp only [List.length_append]; omega)) (fun v1 hv1 => E_ r_ (ak_ (ay_ (al_ (an_ (M_ r_ (E_ r_ (ak_ (ay_ ?_))))))))))
                      refine jq_againS (i := (k, line, v, out)) (k + j, line, v1, out ++ [(⟨2, numVal (bytesI (s.extract k (k + j))), line, ⟨#[]⟩⟩ : Tok)]) ⟨hsc, by dsimp only; omega, hl1, by dsimp only; omega, by dsimp only; rw [List.length_append, List.length_singleton]; omega⟩ (by dsimp only; omega) ?_ ?_
                      · exact bc_ 0 r_ sub_end
                      · (repeat (first | exact True.intro | refine ⟨rfl, ?_⟩))
              · have hn0 : nameLen (s.extract k s.size) = 0 := by
                  unfold nameLen
                  rw [if_neg]
                  rintro ⟨_, h⟩
                  rw [byteAt_extract, Nat.add_zero, hL] at h
                  cases h
                have hr0 : runLen isD (s.extract k s.size) = 0 := runLen_eq (fun j hj => by omega) (Nat.zero_le _) (fun _ => by rw [byteAt_extract, Nat.add_zero]; exact hD)
                have hnx : nextT (s.extract k s.size) = ((3, 0, (s.extract k s.size).extract 0 (signLen (s.extract k s.size))), signLen (s.extract k s.size)) := by
                  unfold nextT
                  rw [if_neg (by omega), if_neg (by omega)]
                have hxs : (s.extract k s.size).size ≤ 1000000 := by omega
                refine R_ (M_ r_ (M_ r_ (o_ r_ (ow_substrLo r_ r_ r_ g_ g_ (o_ r_ (bm_ r_ (rsign_c _ hxs) (E_ r_ (T_ (am_ (R_ (M_ r_ (o_ r_ (cs_ r_ r_ (T_ ?_))))))))))))))
                have hsl := signLen_le (s.extract k s.size)
                have hrs := rsign_eq (s.extract k s.size)
                have hrz : (rsign (s.extract k s.size)).size = signLen (s.extract k s.size) := by rw [hrs, extract_size _ _ _ hsl]; omega
                have e1 : rsign (s.extract (k : Int).toNat s.size) = rsign (s.extract k s.size) := rfl
                rw [hnx] at hsc
                dsimp only at hsc
                rw [e1]
                refine jc_condd rfl (fun h0 => ?_) (fun h0 => ?_)
                · refine R_ (M_ r_ (E_ r_ (E_ r_ (E_ r_ (T_ (ar_ (aw_ (az_ (aw_ (az_ (aw_ (az_ (aw_ ?_)))))))))))))
                  have e : scan s = ([], line, 1) := by rw [← hsc, dif_pos (by rw [← hrz]; exact (empty_iff _).1 h0)]
                  exact jq_ownNil 76 4 g_ (jq_freeze 2 0 rfl rfl (by rw [hc]; simp [hb]) (jq_ret3 rfl rfl rfl rfl (fun K h => by rw [e] at h; exact h) sub_end))
                · have hz : ¬ signLen (s.extract k s.size) = 0 := by rw [← hrz]; exact fun h => h0 ((empty_iff _).2 h)
                  rw [dif_neg hz] at hsc
                  refine as_ (al_ (R_ (M_ r_ (M_ r_ (o_ r_ (co_ r_ r_ (o_ r_ (bj_ r_ r_ g_ (E_ r_ (T_ (an_ (M_ r_ (M_ r_ (M_ r_ (o_ r_ (bu_ r_ r_ r_ r_ r_ (o_ r_ (bq_ r_ r_ b_ r_ r_ b_ ?_))))))))))))))))))
                  refine o_ r_ (ow_append1 0 ((⟨3, 0, line, rsign (s.extract k s.size)⟩ : Tok)) rfl rfl rfl rfl rfl rfl rfl (fun _ => rfl) (by show (_ + _) * 40 ≤ _; first | omega | (simp only [List.length_append]; omega)) (by first | omega | (simp only [List.length_append]; omega)) (fun v1 hv1 => E_ r_ (ak_ (ay_ (al_ (an_ (M_ r_ (E_ r_ (ak_ (ay_ ?_))))))))))
                  rw [← hrs] at hsc
                  refine jq_againS (i := (k, line, v, out)) (k + signLen (s.extract k s.size), line, v1, out ++ [(⟨3, 0, line, rsign (s.extract k s.size)⟩ : Tok)]) ⟨hsc, by dsimp only; omega, hl1, by dsimp only; omega, by dsimp only; rw [List.length_append, List.length_singleton]; omega⟩ (by dsimp only; omega) ?_ ?_
                  · exact bc_ 0 r_ sub_end
                  · rw [show ((k + signLen (s.extract k s.size) : Nat) : Int) = (k : Int) + ((rsign (s.extract k s.size)).size : Int) by omega]
                    (repeat (first | exact True.intro | refine ⟨rfl, ?_⟩))
      · refine av_ (ax_ (ax_ (ba_ (al_ (R_ (M_ r_ (E_ r_ (E_ r_ (E_ r_ (T_ (ar_ ?_)))))))))))
        have e : scan s = (out, 0, 0) := by rw [← hsc, scanGo, dif_neg (by omega)]
        exact jq_freeze 2 0 rfl rfl (by rw [hc]; simp [hb]) (jq_ret3 rfl rfl rfl rfl (fun K h => by rw [e] at h; exact h) sub_end)
end Go.Proofs.YtamajcgdfjeehaaDoor
end

section
namespace Go.Proofs.YtamajcgdfjeehaaDoor
open Go.Vc
attribute [local irreducible] JL JC JQ OpWp Con ConN
set_option maxHeartbeats 4000000

end Go.Proofs.YtamajcgdfjeehaaDoor
end

section
namespace Go.Proofs.YtamajcgdfjeehaaDoor
open Go.Vc
attribute [local irreducible] JL JC JQ OpWp Con ConN

end Go.Proofs.YtamajcgdfjeehaaDoor
end

section
namespace Go.Proofs.YtamajcgdfjeehaaDoor
open Go.Vc
attribute [local irreducible] JL JC JQ OpWp Con ConN
attribute [local irreducible] nextT scan byteAt rsign runLen signLen numVal isL isD

theorem isName_eq {s : ByteArray} (h0 : 0 < s.size) (h12 : s.size ≤ 12) (hl : isL (byteAt s 0) = true) : isName s = decide (runLen isLD s = s.size) := by
  unfold isName nameLen
  rw [decide_eq_true h0, decide_eq_true h12, if_pos ⟨h0, hl⟩]
  rfl
theorem rName_c (s : ByteArray) : Con Tryd.prog 117 [Str s] [] (fun K => K (Bl (isName s)) []) := by
  refine con_intro Tryd.func117 rfl rfl (Nat.le_of_ble_eq_true rfl) (fun c hc => ?_)
  by_cases h1 : (s.size : Int) < 1
  · have e : isName s = false := by unfold isName; rw [decide_eq_false (by omega)]; rfl
    refine R_ (E_ r_ (T_ (am_ (R_ (M_ r_ (o_ r_ (co_ r_ r_ (o_ r_ (bw_ r_ r_ (M_ r_ (ai_ r_ u_ b_ (ai_ r_ u_ b_ (ai_ r_ u_ b_ (o_ r_ (bp_ r_ u_ r_ (M_ r_ (ai_ r_ r_ b_ (ai_ r_ r_ b_ ?_))))))))))))))))))
    refine ai_ r_ r_ b_ (ai_ r_ r_ b_ (o_ r_ (bp_ r_ r_ r_ (T_ (jc_cond rfl (fun _ => R_ (E_ r_ (T_ (ar_ (aw_ (jq_ret1 rfl rfl [] rfl (fun K h => by rw [e] at h; exact h))))))) (fun h => by cases h))))))
  · by_cases h2 : (12 : Int) < (s.size : Int)
    · have e : isName s = false := by unfold isName; rw [decide_eq_false (show ¬ s.size ≤ 12 by omega), Bool.and_false]; rfl
      refine R_ (E_ r_ (T_ (am_ (R_ (M_ r_ (o_ r_ (co_ r_ r_ (o_ r_ (bw_ r_ r_ (M_ r_ (ah_ r_ w_ b_ (bd_ r_ (ah_ r_ w_ b_ (co_ r_ r_ (ah_ r_ w_ b_ (bz_ r_ r_ (o_ r_ (bv_ r_ w_ r_ (M_ r_ (ai_ r_ u_ b_ (ai_ r_ u_ b_ ?_)))))))))))))))))))))
      refine ai_ r_ u_ b_ (ai_ r_ u_ b_ (o_ r_ (bp_ r_ u_ r_ (T_ (jc_cond rfl (fun _ => R_ (E_ r_ (T_ (ar_ (aw_ (jq_ret1 rfl rfl [] rfl (fun K h => by rw [e] at h; exact h))))))) (fun h => by cases h))))))
    · refine R_ (E_ r_ (T_ (am_ (R_ (M_ r_ (o_ r_ (co_ r_ r_ (o_ r_ (bw_ r_ r_ (M_ r_ (ah_ r_ w_ b_ (bd_ r_ (ah_ r_ w_ b_ (co_ r_ r_ (ah_ r_ w_ b_ (bz_ r_ r_ (o_ r_ (bv_ r_ w_ r_ (M_ r_ (ah_ r_ w_ b_ (bd_ r_ (ah_ r_ w_ b_ (ow_indexStr r_ r_ r_ g_ g_ ?_)))))))))))))))))))))))
      refine ah_ r_ w_ b_ (bm_ r_ (rletter_c _) (ah_ r_ w_ b_ (cd_ r_ (o_ r_ (bv_ r_ w_ r_ (T_ (jc_cond rfl (fun hb => ?_) (fun hb => ?_))))))))
      · have hl : isL (byteAt s 0) = false := by simpa using hb
        have e : isName s = false := by
          unfold isName nameLen
          rw [if_neg (fun h => by rw [hl] at h; cases h.2), decide_eq_false (show ¬ 0 = s.size by omega), Bool.and_false]
        refine R_ (E_ r_ (T_ (ar_ (aw_ (jq_ret1 rfl rfl [] rfl (fun K h => by rw [e] at h; exact h))))))
      · have hl : isL (byteAt s 0) = true := by simpa using hb
        have e := isName_eq (s := s) (by omega) (by omega) hl
        refine as_ (al_ (am_ (R_ (E_ r_ (T_ (au_ (jc_loopS [] (fun k : Nat => k ≤ s.size ∧ ∀ j, j < k → isLD (byteAt s j) = true) (fun k => [(0, Str s), (3, In .i64 (k : Int))]) (fun _ => []) (fun k => s.size - k) 0 ⟨Nat.zero_le _, fun j h => by omega⟩ ?_ ?_ ?_)))))))
        · exact sub_end
        · (repeat (first | exact True.intro | refine ⟨rfl, ?_⟩))
        · rintro k ⟨hk, hall⟩
          refine am_ (R_ (M_ r_ (M_ r_ (o_ r_ (co_ r_ r_ (o_ r_ (bw_ r_ r_ (T_ (jc_condd rfl (fun hlt => ?_) (fun hge => ?_))))))))))
          · have hlt' : k < s.size := by omega
            cases hl0 : isL (byteAt s (k : Int).toNat) with
            | true =>
              have hn0 : (!isL (byteAt s (k : Int).toNat)) = false := by rw [hl0]; rfl
              refine as_ (al_ (B_ (R_ (M_ r_ (M_ r_ (o_ r_ (ow_indexStr r_ r_ r_ g_ g_ (o_ r_ (bm_ r_ (rletter_c _) (o_ r_ (cd_ r_ (M_ r_ (ai_ r_ h_ b_ (ai_ r_ h_ b_ (ai_ r_ h_ b_ (ai_ r_ h_ b_ (ai_ r_ h_ b_ (o_ r_ (bv_ r_ h_ r_ ?_)))))))))))))))))))
              refine T_ (jc_cond rfl (fun h => by cases h) (fun _ => as_ (ay_ (al_ (an_ (M_ r_ (o_ r_ (bj_ r_ r_ g_ (E_ r_ (ak_ (jq_againS (k + 1) ⟨by omega, fun i hi => ?_⟩ g_ ?_ ?_)))))))))))
              · by_cases hik : i < k
                · exact hall i hik
                · obtain rfl : i = k := by omega
                  unfold isLD
                  rw [show isL (byteAt s i) = true from hl0]; rfl
              · exact sub_end
              · (repeat (first | exact True.intro | refine ⟨rfl, ?_⟩))
            | false =>
              have hn0 : (!isL (byteAt s (k : Int).toNat)) = true := by rw [hl0]; rfl
              refine as_ (al_ (B_ (R_ (M_ r_ (M_ r_ (o_ r_ (ow_indexStr r_ r_ r_ g_ g_ (o_ r_ (bm_ r_ (rletter_c _) (o_ r_ (cd_ r_ (M_ r_ (ah_ r_ h_ b_ (bd_ r_ (ah_ r_ h_ b_ (bd_ r_ (ah_ r_ h_ b_ (ow_indexStr r_ r_ r_ g_ g_ (ah_ r_ h_ b_ (bm_ r_ (rdigit_c _) (ah_ r_ h_ b_ (cd_ r_ (o_ r_ (bp_ r_ h_ r_ ?_))))))))))))))))))))))))
              refine T_ (jc_cond rfl (fun hd => ?_) (fun hd => ?_))
              · have hd' : isD (byteAt s k) = false := by simpa using hd
                have hf : isLD (byteAt s k) = false := by unfold isLD; rw [show isL (byteAt s k) = false from hl0, hd']; rfl
                have hr : runLen isLD s = k := runLen_eq hall hk (fun _ => hf)
                have e2 : isName s = false := by rw [e, hr]; exact decide_eq_false (by omega)
                refine R_ (E_ r_ (T_ (ar_ (az_ (aw_ (aw_ (az_ (aw_ (jq_ret1 rfl rfl [] rfl (fun K h => by rw [e2] at h; exact h))))))))))
              · have hd' : isD (byteAt s k) = true := by simpa using hd
                refine as_ (ay_ (al_ (an_ (M_ r_ (o_ r_ (bj_ r_ r_ g_ (E_ r_ (ak_ (jq_againS (k + 1) ⟨by omega, fun i hi => ?_⟩ g_ ?_ ?_)))))))))
                · by_cases hik : i < k
                  · exact hall i hik
                  · obtain rfl : i = k := by omega
                    unfold isLD
                    rw [hd', Bool.or_true]
                · exact sub_end
                · (repeat (first | exact True.intro | refine ⟨rfl, ?_⟩))
          · have hr : runLen isLD s = s.size := runLen_eq (fun j hj => hall j (by omega)) (Nat.le_refl _) (fun h => by omega)
            have e2 : isName s = true := by rw [e, hr]; exact decide_eq_true rfl
            refine av_ (ax_ (ax_ (ba_ (al_ (R_ (E_ r_ (T_ (ar_ (jq_ret1 rfl rfl [] rfl (fun K h => by rw [e2] at h; exact h))))))))))

/-- The decimal digits of a number, as a text. -/
def decS (u : Nat) : ByteArray := ⟨(Lib.decDigits u).toArray⟩
theorem nDigits_le : ∀ (k u : Nat), 1 ≤ k → u < 10 ^ k → Lib.nDigits u ≤ k
  | 0, _, h, _ => by omega
  | k + 1, u, _, h => by
    by_cases hu : u < 10
    · rw [Lib.nDigits_small hu]; omega
    · rw [Lib.nDigits_big hu]
      have hk : 1 ≤ k := by
        rcases Nat.eq_zero_or_pos k with rfl | h'
        · omega
        · exact h'
      have := nDigits_le k (u / 10) hk (by rw [Nat.pow_succ] at h; omega)
      omega
theorem decS_size (u : Nat) : (decS u).size = Lib.nDigits u := by
  rw [← Lib.decDigits_length]
  simp [decS, ByteArray.size]
theorem decS_le (u : Nat) (h : u ≤ 2147483647) : (decS u).size ≤ 10 := by
  rw [decS_size]
  exact nDigits_le 10 u g_ g_
theorem decS_small (u : Nat) (h : u < 10) : decS u = bytesOf [48 + (u : Int)] := by
  unfold decS
  rw [Lib.decDigits, dif_pos h]
  show _ = ByteArray.empty.push (UInt8.ofNat (48 + (u : Int)).toNat)
  rw [show (48 + (u : Int)).toNat = 48 + u by omega]
  rfl
theorem decS_big (u : Nat) (h : ¬ u < 10) : decS u = decS (u / 10) ++ bytesOf [48 + (u : Int) % 10] := by
  unfold decS
  rw [Lib.decDigits, dif_neg h]
  show _ = _ ++ ByteArray.empty.push (UInt8.ofNat (48 + (u : Int) % 10).toNat)
  rw [show (48 + (u : Int) % 10).toNat = 48 + u % 10 by omega]
  apply ByteArray.ext
  simp
attribute [local irreducible] decS

theorem Decimal_c (u : Nat) (hu : u ≤ 2147483647) : Con Tryd.prog 98 [In .i64 (u : Int)] [] (fun K => K (Str (decS u)) []) := by
  induction u using Nat.strongRecOn with
  | _ u ih =>
    refine con_intro Tryd.func98 rfl rfl (Nat.le_of_ble_eq_true rfl) (fun c hc => R_ (E_ r_ (T_ (am_ (R_ (M_ r_ (o_ r_ (bw_ r_ r_ (T_ (jc_condd rfl (fun hlt => ?_) (fun hge => ?_)))))))))))
    · have e := decS_small u (by omega)
      refine R_ (M_ r_ (o_ r_ (bj_ r_ r_ g_ (o_ r_ (ow_convU8 r_ r_ r_ g_ (o_ r_ (bq_ r_ r_ b_ r_ r_ b_ (o_ r_ (ow_bytesToString (l := [_]) r_ r_ r_ (E_ r_ (T_ (ar_ (aw_ (jq_ret1 rfl rfl [] rfl (fun K h => by rw [e] at h; exact h)))))))))))))))
    · have e := decS_big u (by omega)
      have h0 := ih (u / 10) (by omega) (by omega)
      rw [show ((u / 10 : Nat) : Int) = (u : Int) / 10 by omega] at h0
      have h1 := decS_le (u / 10) (by omega)
      have h2 : (bytesOf [48 + (u : Int) % 10]).size = 1 := rfl
      refine as_ (al_ (am_ (ao_ r_ r_ k_ k_ (yM_ r_ (aa_ (fun c => ow_quo64 r_ r_ g_ g_ p_) (aa_ (fun c => bm_ r_ (h0) p_) (yM_ r_ (aa_ (fun c => ow_rem64 r_ r_ g_ g_ p_) (aa_ (fun c => bj_ r_ r_ g_ p_) (aa_ (fun c => ow_convU8 r_ r_ r_ g_ p_) (aa_ (fun c => bq_ r_ r_ b_ r_ r_ b_ p_) (aa_ (fun c => ow_bytesToString (l := [_]) r_ r_ r_ p_) (aa_ (fun c => ow_strcat r_ r_ g_ p_) (yE_ r_ (ae_ ?_)))))))))))))))
      refine al_ (ar_ (jq_ret1 rfl rfl [] rfl (fun K h => by rw [e] at h; exact h)))
end Go.Proofs.YtamajcgdfjeehaaDoor
end

section
namespace Go.Proofs.YtamajcgdfjeehaaDoor
open Go.Vc
attribute [local irreducible] JL JC JQ OpWp Con ConN
set_option maxHeartbeats 4000000

theorem Rdepth_c : ∀ (F : Nat) (t : T), F ≤ 20 → Con Tryd.prog 88 [.row t.row', In .i64 (21 - (F : Int))] [] (fun K => K (In .i64 (rd F t : Int)) []) := by
  intro F
  induction F with
  | zero =>
    intro t _
    refine con_intro Tryd.func88 rfl rfl (Nat.le_of_ble_eq_true rfl) (fun c hc => R_ (o_ r_ (ci_ r_ (fun bx => E_ r_ (T_ (am_ (R_ (M_ r_ (o_ r_ (bz_ r_ r_ (T_ (jc_condd rfl (fun _ => R_ (E_ r_ (T_ (ar_ (aw_ ?_))))) (fun h => by omega)))))))))))))
    refine jq_ret1 rfl rfl [] rfl (fun K h => h)
  | succ F ih =>
    intro t hF
    have eA : (t.args.map T.row).length = t.args.length := List.length_map _
    refine con_intro Tryd.func88 rfl rfl (Nat.le_of_ble_eq_true rfl) (fun c hc => R_ (o_ r_ (ci_ r_ (fun bx => E_ r_ (T_ (am_ (R_ (M_ r_ (o_ r_ (bz_ r_ r_ (T_ (jc_condd rfl (fun h => by omega) (fun _ => as_ (al_ (R_ (M_ r_ (E_ r_ ?_)))))))))))))))))
    refine T_ (am_ (R_ (E_ r_ (T_ (au_ ?_)))))
    have e0 : (21 - ((F + 1 : Nat) : Int)) = ((max (20 - F) (mx (rd F) (t.args.take 0)) : Nat) : Int) := by rw [List.take_zero]; simp only [mx, List.foldl_nil]; omega
    refine jc_loopS (ι := Nat) [] (fun k => k ≤ t.args.length) (fun k => [(1, In .i64 (21 - ((F + 1 : Nat) : Int))), (2, .cell (.val (.pointer (some ⟨bx, 0, none⟩)))), (5, In .i64 ((max (20 - F) (mx (rd F) (t.args.take k)) : Nat) : Int)), (6, In .i64 (k : Int))]) (fun _ => [.blk bx 27 t.row']) (fun k => t.args.length - k) 0 (Nat.zero_le _) ?_ ?_ ?_
    · exact bc_ 0 r_ sub_end
    · rw [← e0]
      (repeat (first | exact True.intro | refine ⟨rfl, ?_⟩))
    · intro k hk
      refine jc_reset [(1, In .i64 (21 - ((F + 1 : Nat) : Int))), (2, .cell (.val (.pointer (some ⟨bx, 0, none⟩)))), (5, In .i64 ((max (20 - F) (mx (rd F) (t.args.take k)) : Nat) : Int)), (6, In .i64 (k : Int))] [.blk bx 27 t.row'] ?_ ⟨[0], [], rfl⟩ ?_
      · (repeat (first | exact True.intro | refine ⟨rfl, ?_⟩))
      refine am_ (R_ (M_ r_ (F_ r_ (L_ 0 r_ (o_ r_ (br_ r_ (fun hlen => o_ r_ (bw_ r_ r_ (T_ (jc_condd rfl (fun hlt => ?_) (fun hge => ?_)))))))))))
      · have hlt' : k < t.args.length := by omega
        have hI : Con Tryd.prog 88 [.row (t.args[k]).row', In .i64 (21 - ((F + 1 : Nat) : Int) + 1)] [] (fun K => K (In .i64 (rd F t.args[k] : Int)) []) := by
          rw [show (21 - ((F + 1 : Nat) : Int) + 1) = 21 - (F : Int) by omega]
          exact ih _ g_
        refine as_ (al_ (B_ (an_ (M_ r_ (F_ r_ (L_ 0 r_ (M_ r_ (o_ r_ (cc_ r_ r_ g_ (T.row_eq _) r_ b_ (o_ r_ (cr_ r_ r_ r_ (M_ r_ (o_ r_ (bj_ r_ r_ g_ (o_ r_ (bm_ r_ (hI) (o_ r_ (ck_ r_ r_ (E_ r_ (ak_ ?_))))))))))))))))))))
        refine ay_ (al_ (an_ (M_ r_ (o_ r_ (bj_ r_ r_ g_ (E_ r_ (ak_ (jq_againS (k + 1) g_ g_ ?_ ?_))))))))
        · exact bc_ 0 r_ sub_end
        · rw [List.take_succ_eq_append_getElem hlt', mx_snoc, show ((max (20 - F) (max (mx (rd F) (t.args.take k)) (rd F t.args[k])) : Nat) : Int) = max ((max (20 - F) (mx (rd F) (t.args.take k)) : Nat) : Int) (rd F t.args[k] : Int) by omega]
          (repeat (first | exact True.intro | refine ⟨rfl, ?_⟩))
      · obtain rfl : k = t.args.length := by omega
        rw [List.take_length]
        refine av_ (ax_ (ax_ (ba_ (al_ (R_ (M_ r_ (E_ r_ (T_ (ar_ (jq_ret1 rfl rfl [] rfl (fun K h => h)))))))))))
theorem RDepth_c (t : T) : Con Tryd.prog 53 [.row t.row'] [] (fun K => K (In .i64 (rd 20 t : Int)) []) := by
  have h := Rdepth_c 20 t (by omega)
  rw [show (21 - ((20 : Nat) : Int)) = 1 by omega] at h
  refine con_intro Tryd.func53 rfl rfl (Nat.le_of_ble_eq_true rfl) (fun c hc => R_ (o_ r_ (ci_ r_ (fun bx => E_ r_ (T_ (R_ (A_ 0 r_ (o_ r_ (bm_ r_ (h) (E_ r_ (T_ (ar_ (jq_ret1 rfl rfl [] rfl (fun K h => h))))))))))))))

def hasW (s : ByteArray) : Bool := words.any (fun w => decide (w = s))
def idxW (L : List ByteArray) (s : ByteArray) : Int := match L.findIdx? (fun w => decide (w = s)) with | some i => (i : Int) | none => -1
theorem Index_c (L : List ByteArray) (s : ByteArray) : Con Tryd.prog 112 [.cell (.list (L.map Wrow)), Str s] [] (fun K => K (In .i64 (idxW L s)) []) := by
  have eL : (L.map Wrow).length = L.length := List.length_map _
  refine con_intro Tryd.func112 rfl rfl (Nat.le_of_ble_eq_true rfl) (fun c hc => R_ (E_ r_ (T_ (am_ (R_ (M_ r_ (o_ r_ (br_ r_ (fun hlen => M_ r_ (T_ (au_ ?_)))))))))))
  refine jc_loopS [] (fun k : Nat => k ≤ L.length ∧ ∀ j (hj : j < L.length), j < k → decide (L[j] = s) = false) (fun k => [(0, .cell (.list (L.map Wrow))), (1, Str s), (7, In .i64 ((L.map Wrow).length : Int)), (8, In .i64 (k : Int))]) (fun _ => []) (fun k => L.length - k) 0 ⟨Nat.zero_le _, fun j _ h => by omega⟩ ?_ ?_ ?_
  · exact sub_end
  · (repeat (first | exact True.intro | refine ⟨rfl, ?_⟩))
  · rintro k ⟨hk, hno⟩
    refine jc_reset [(0, .cell (.list (L.map Wrow))), (1, Str s), (7, In .i64 ((L.map Wrow).length : Int)), (8, In .i64 (k : Int))] [] ?_ ⟨[], [], rfl⟩ ?_
    · (repeat (first | exact True.intro | refine ⟨rfl, ?_⟩))
    refine R_ (o_ r_ (bw_ r_ r_ (T_ (am_ (jc_condd rfl (fun hlt => ?_) (fun hge => ?_))))))
    · have hlt' : k < L.length := by omega
      refine as_ (al_ (B_ (R_ (M_ r_ (E_ r_ (T_ (R_ (M_ r_ (M_ r_ (M_ r_ (o_ r_ (cc_ r_ r_ g_ r_ r_ b_ (o_ r_ (cb_ r_ r_ (o_ r_ (cs_ r_ r_ (T_ (jc_condd rfl (fun hb => ?_) (fun hb => ?_)))))))))))))))))))
      · have e : idxW L s = (k : Int) := by
          unfold idxW
          rw [List.findIdx?_eq_some_iff_getElem.2 ⟨hlt', decide_eq_true hb.symm, fun j hj => by rw [hno j (by omega) hj]; simp⟩]
        refine R_ (M_ r_ (E_ r_ (T_ (ar_ (az_ (aw_ (aw_ (az_ (aw_ (jq_ret1 rfl rfl [] rfl (fun K h => by rw [e] at h; exact h)))))))))))
      · refine as_ (ay_ (al_ (an_ (o_ r_ (bj_ r_ r_ g_ (M_ r_ (ak_ (jq_againS (k + 1) ⟨by omega, fun j hj hjk => ?_⟩ g_ ?_ ?_))))))))
        · by_cases e : j < k
          · exact hno j hj e
          · obtain rfl : j = k := by omega
            exact decide_eq_false (fun e => hb e.symm)
        · exact sub_end
        · (repeat (first | exact True.intro | refine ⟨rfl, ?_⟩))
    · have e : idxW L s = -1 := by
        unfold idxW
        rw [List.findIdx?_eq_none_iff.2 (fun x hx => by
          obtain ⟨j, hj, rfl⟩ := List.mem_iff_getElem.1 hx
          exact hno j hj (by omega))]
      refine av_ (ax_ (ax_ (ba_ (al_ (R_ (E_ r_ (T_ (ar_ (jq_ret1 rfl rfl [] rfl (fun K h => by rw [e] at h; exact h))))))))))
theorem idxW_any (L : List ByteArray) (s : ByteArray) : decide (0 ≤ idxW L s) = L.any (fun w => decide (w = s)) := by
  unfold idxW
  cases h : L.findIdx? (fun w => decide (w = s)) with
  | none =>
    have := List.findIdx?_eq_none_iff.1 h
    rw [List.any_eq_false.2 (fun x hx => by rw [this x hx]; decide)]
    rfl
  | some i =>
    obtain ⟨hi, hp, _⟩ := List.findIdx?_eq_some_iff_getElem.1 h
    rw [List.any_eq_true.2 ⟨L[i], List.getElem_mem hi, hp⟩]
    show decide (0 ≤ (i : Int)) = true
    exact decide_eq_true g_
theorem Contains_c (L : List ByteArray) (s : ByteArray) : Con Tryd.prog 138 [.cell (.list (L.map Wrow)), Str s] [] (fun K => K (Bl (L.any (fun w => decide (w = s)))) []) := by
  refine con_intro Tryd.func138 rfl rfl (Nat.le_of_ble_eq_true rfl) (fun c hc => R_ (E_ r_ (T_ (R_ (M_ r_ (M_ r_ (o_ r_ (bm_ r_ (Index_c L s) (o_ r_ (cn_ r_ r_ (E_ r_ (T_ (ar_ (jq_ret1 rfl rfl [] rfl (fun K h => by rw [← idxW_any] at h; exact h)))))))))))))))
theorem Keyword_c (s : ByteArray) : Con Tryd.prog 122 [Str s] [] (fun K => K (Bl (hasW s)) []) := by
  refine con_intro Tryd.func122 rfl rfl (Nat.le_of_ble_eq_true rfl) (fun c hc => R_ (E_ r_ (T_ (R_ (o_ r_ (dd_ gl_words r_ r_ r_ (M_ r_ (o_ r_ (bm_ r_ (Contains_c words s) (E_ r_ (T_ (ar_ (jq_ret1 rfl rfl [] rfl (fun K h => h))))))))))))))
def signT (op : Int) : ByteArray := signL.getD (op.toNat - 1) ⟨#[]⟩
theorem op14 {op : Int} (h : 1 ≤ op ∧ op ≤ 14) : op = 1 ∨ op = 2 ∨ op = 3 ∨ op = 4 ∨ op = 5 ∨ op = 6 ∨ op = 7 ∨ op = 8 ∨ op = 9 ∨ op = 10 ∨ op = 11 ∨ op = 12 ∨ op = 13 ∨ op = 14 := by omega
theorem RSign_c (op : Int) (h : 1 ≤ op ∧ op ≤ 14) : Con Tryd.prog 91 [In .i64 op] [] (fun K => K (Str (signT op)) []) := by
  refine con_intro Tryd.func91 rfl rfl (Nat.le_of_ble_eq_true rfl) (fun c hc => ?_)
  have h0 : ¬ op < 1 := by omega
  refine R_ (E_ r_ (T_ (R_ (o_ r_ (ow_buildArr (n := 15) (e := 9) r_ r_ r_ r_ r_ (o_ r_ (bl_ r_ r_ (fun bl => S_ 0 r_ (T_ (am_ (R_ (M_ r_ (o_ r_ (bw_ r_ r_ (M_ r_ (ah_ r_ w_ b_ (bd_ r_ (ah_ r_ w_ b_ (bz_ r_ r_ (o_ r_ (bv_ r_ w_ r_ ?_)))))))))))))))))))))
  refine T_ (jc_condd rfl (fun h2 => by omega) (fun _ => as_ (al_ (R_ (M_ r_ (o_ r_ (de_ (n := 15) (e := 9) r_ r_ r_ g_ g_ (o_ r_ (bg_ 0 (e := .val (.string (signT op))) rfl rfl rfl (by rcases op14 h with rfl | rfl | rfl | rfl | rfl | rfl | rfl | rfl | rfl | rfl | rfl | rfl | rfl | rfl <;> rfl) (E_ r_ (T_ (ar_ (jq_ret1 rfl rfl [] rfl (fun K h => h))))))))))))))
end Go.Proofs.YtamajcgdfjeehaaDoor
end

section
namespace Go.Proofs.YtamajcgdfjeehaaDoor
open Go.Vc
attribute [local irreducible] JL JC JQ OpWp Con ConN
attribute [local irreducible] hasW
set_option maxHeartbeats 4000000

theorem RKeyword_c (s : ByteArray) : Con Tryd.prog 118 [Str s] [] (fun K => K (Bl (hasW s)) []) := by
  refine con_intro Tryd.func118 rfl rfl (Nat.le_of_ble_eq_true rfl) (fun c hc => R_ (E_ r_ (T_ (R_ (o_ r_ (bq_ r_ r_ b_ r_ r_ b_ (E_ r_ (T_ (am_ (R_ (E_ r_ (T_ (au_ (jc_reset [(0, Str s), (3, .cell (.list (words.map Wrow))), (4, In .i64 0)] [] ?_ ⟨[], [], rfl⟩ ?_))))))))))))))
  · (repeat (first | exact True.intro | refine ⟨rfl, ?_⟩))
  have hk : hasW s = words.any (fun w => decide (w = s)) := by unfold hasW; rfl
  rw [hk]
  clear hk
  generalize words = L
  have eL : (L.map Wrow).length = L.length := List.length_map _
  refine jc_loopS [] (fun k : Nat => k ≤ L.length ∧ (L.take k).any (fun w => decide (w = s)) = false) (fun k => [(0, Str s), (3, .cell (.list (L.map Wrow))), (4, In .i64 (k : Int))]) (fun _ => []) (fun k => L.length - k) 0 ⟨Nat.zero_le _, by rw [List.take_zero]; rfl⟩ ?_ ?_ ?_
  · exact sub_end
  · (repeat (first | exact True.intro | refine ⟨rfl, ?_⟩))
  · rintro k ⟨hk, hno⟩
    refine jc_reset [(0, Str s), (3, .cell (.list (L.map Wrow))), (4, In .i64 (k : Int))] [] ?_ ⟨[], [], rfl⟩ ?_
    · (repeat (first | exact True.intro | refine ⟨rfl, ?_⟩))
    refine am_ (R_ (M_ r_ (M_ r_ (o_ r_ (br_ r_ (fun hlen => o_ r_ (bw_ r_ r_ (T_ (jc_condd rfl (fun hlt => ?_) (fun hge => ?_))))))))))
    · have hlt' : k < L.length := by omega
      refine as_ (al_ (B_ (R_ (M_ r_ (M_ r_ (o_ r_ (cc_ r_ r_ g_ r_ r_ b_ (o_ r_ (cb_ r_ r_ (M_ r_ (o_ r_ (cs_ r_ r_ (T_ (jc_condd rfl (fun hb => ?_) (fun hb => ?_)))))))))))))))
      · have e : L.any (fun w => decide (w = s)) = true := List.any_eq_true.2 ⟨L[k], List.getElem_mem hlt', decide_eq_true hb⟩
        refine R_ (E_ r_ (T_ (ar_ (az_ (aw_ (aw_ (az_ (aw_ (jq_ret1 rfl rfl [] rfl (fun K h => by rw [e] at h; exact h))))))))))
      · refine as_ (ay_ (al_ (an_ (M_ r_ (o_ r_ (bj_ r_ r_ g_ (E_ r_ (ak_ (jq_againS (k + 1) ⟨by omega, ?_⟩ g_ ?_ ?_)))))))))
        · rw [List.take_succ_eq_append_getElem hlt', List.any_append, hno]
          simp only [List.any_cons, List.any_nil, Bool.or_false, Bool.false_or]
          exact decide_eq_false hb
        · exact sub_end
        · (repeat (first | exact True.intro | refine ⟨rfl, ?_⟩))
    · obtain rfl : k = L.length := by omega
      rw [List.take_length] at hno
      refine av_ (ax_ (ax_ (ba_ (al_ (R_ (E_ r_ (T_ (ar_ (jq_ret1 rfl rfl [] rfl (fun K h => by rw [hno] at h; exact h))))))))))
end Go.Proofs.YtamajcgdfjeehaaDoor
end

section
namespace Go.Vc
open Go.RowKit

section
variable {P : Program} [Gl P] {nt : Nat} {c : Cx P nt} {env : Env} {H Hr : List Ch} {ops : Array Oper} {Q : Exit → Act → World → Prop} {Sw : World → Prop}
variable {m fuel : Nat} {listed : Array Bool} {i j k di dj dk : Nat} {opi opj : Op} {ti tj tk : TypeId} {pi pj pk : String} {afi afj afk : Array Edge} {s0 : S}
end
end Go.Vc
end

section
namespace Go.Vc
open Go.RowKit

section
variable {P : Program} [Gl P] {nt : Nat} {c : Cx P nt} {env : Env} {H Hr : List Ch} {ops : Array Oper} {Q : Exit → Act → World → Prop}
variable {x : Operand} {t : TypeId} {ty : TypeId} {pos : String} {af : Array Edge}
end
end Go.Vc
end

section
namespace Go.Vc
open Go.RowKit

section
variable {P : Program} [Gl P] {nt : Nat} {c : Cx P nt} {env : Env} {H Hr : List Ch} {ops : Array Oper} {Q : Exit → Act → World → Prop} {Sw : World → Prop} {L : List (Nat × List Value × TypeId)}
variable {m fuel : Nat} {listed : Array Bool} {x : Operand} {t : TypeId} {ty : TypeId} {pos : String} {af : Array Edge}
end
end Go.Vc
end

section
namespace Go.Vc
open Go.RowKit

section
variable {P : Program} {ops : Array Oper} {Q : Exit → Act → World → Prop} {K : Act → World → Prop}
end
section
variable {P : Program} [Gl P] {nt : Nat} {c : Cx P nt} {env : Env} {H : List Ch} {ops : Array Oper} {Q : Exit → Act → World → Prop}
end
end Go.Vc
end

section
namespace Go.Proofs.YtamajcgdfjeehaaDoor
open Go.Vc
attribute [local irreducible] JL JC JQ OpWp Con ConN
attribute [local irreducible] byteAt runLen isL isD isName hasW
set_option maxHeartbeats 4000000

def nameB (s : ByteArray) : Bool := isName s && !hasW s
def smallB (n : Int) : Bool := decide (-2147483648 < n) && decide (n < 2147483648)
def plainB (n : Int) : Bool := decide (0 ≤ n) && decide (n < 2147483648)
/-- Whether an expression has its shape, as far as it is looked at. -/
def shpF : Nat → T → Bool
  | 0, _ => true
  | F + 1, t => match t with
    | .nu n => smallB n
    | .nm s => nameB s
    | .ix s x => nameB s && shpF F x
    | .bn o a b => decide (1 ≤ o) && decide (o ≤ 14) && shpF F a && shpF F b
end Go.Proofs.YtamajcgdfjeehaaDoor
end

section
namespace Go.Proofs.YtamajcgdfjeehaaDoor
open Go.Vc
attribute [local irreducible] JL JC JQ OpWp Con ConN
attribute [local irreducible] byteAt runLen isL isD isName hasW nameB smallB plainB shpF
set_option maxHeartbeats 4000000

end Go.Proofs.YtamajcgdfjeehaaDoor
end
