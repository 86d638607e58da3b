import Derived.Test.YtjkkkjikhjfdnaaFb2
namespace Go.Proofs.Ytjkkkjikhjfdnaa
open Go.Vc
attribute [local irreducible] JL JC JQ OpWp Con ConN
attribute [local irreducible] isSmall isBlock
set_option maxHeartbeats 4000000

/-! Linear functions of terms -/
def lin (φ : Int → Int) : List Tm → Int
  | [] => 0
  | t :: r => t.2 * φ t.1 + lin φ r
theorem lin_append (φ : Int → Int) (a b : List Tm) : lin φ (a ++ b) = lin φ a + lin φ b := by
  induction a with
  | nil => simp [lin]
  | cons t a ih => simp only [List.cons_append, lin, ih]; omega
def sumN (g : Nat → Int) : Nat → Int
  | 0 => 0
  | k + 1 => sumN g k + g k
theorem sumN_add (f g : Nat → Int) (k : Nat) : sumN (fun i => f i + g i) k = sumN f k + sumN g k := by
  induction k with
  | zero => rfl
  | succ k ih => simp only [sumN, ih]; omega
theorem sumN_zero (k : Nat) : sumN (fun _ => 0) k = 0 := by
  induction k with
  | zero => rfl
  | succ k ih => simp only [sumN, ih]; omega
theorem sumN_one {a : Int} {j k : Nat} (φ : Nat → Int) (hj : j < k) : sumN (fun i => if j = i then a * φ i else 0) k = a * φ j := by
  induction k with
  | zero => omega
  | succ k ih =>
    simp only [sumN]
    by_cases h : j = k
    · subst h
      rw [if_pos rfl]
      have : ∀ m, m ≤ j → sumN (fun i => if j = i then a * φ i else 0) m = 0 := by
        intro m
        induction m with
        | zero => intro _; rfl
        | succ m ih2 =>
          intro hm
          simp only [sumN, ih2 (by omega), if_neg (show ¬ j = m by omega)]
          omega
      rw [this j (Nat.le_refl _)]
      omega
    · rw [ih (by omega), if_neg h]
      omega
theorem sumN_congr {f g : Nat → Int} {k : Nat} (h : ∀ i, i < k → f i = g i) : sumN f k = sumN g k := by
  induction k with
  | zero => rfl
  | succ k ih => simp only [sumN, ih (fun i hi => h i (by omega)), h k (by omega)]
theorem lin_eq (φ : Int → Int) {l : List Tm} (hb : ∀ t ∈ l, 0 ≤ t.1 ∧ t.1 < 256) : lin φ l = sumN (fun i => cof l (i : Int) * φ i) 256 := by
  induction l with
  | nil => simp only [lin, cof, Int.zero_mul, sumN_zero]
  | cons t l ih =>
    have ht := hb t (by simp)
    rw [lin, ih (fun u hu => hb u (by simp [hu]))]
    have e : (fun i : Nat => cof (t :: l) (i : Int) * φ i) = fun i : Nat => (if t.1.toNat = i then t.2 * φ (i : Int) else 0) + cof l (i : Int) * φ i := by
      funext i
      simp only [cof, Int.add_mul]
      by_cases h : t.1 = (i : Int)
      · rw [if_pos h, if_pos (by omega)]
      · rw [if_neg h, if_neg (by omega), Int.zero_mul]
    rw [e, sumN_add, sumN_one (fun i => φ (i : Int)) (show t.1.toNat < 256 by omega), show ((t.1.toNat : Nat) : Int) = t.1 by omega]
theorem cof_canon (l : List Tm) {i : Int} (hi : 0 ≤ i ∧ i < 256) : cof (canon l) i = cof l i := by
  by_cases h : cof l i = 0
  · rw [h, cof_zero]
    intro t ht e
    obtain ⟨_, _, h3, h4⟩ := (canon_mem l t).1 ht
    rw [e, h] at h3
    exact h4 h3
  · exact cof_mem (canon_strict l) (i, cof l i) ((canon_mem l _).2 ⟨hi.1, hi.2, rfl, h⟩)
theorem lin_canon (φ : Int → Int) {l : List Tm} (hb : ∀ t ∈ l, 0 ≤ t.1 ∧ t.1 < 256) : lin φ (canon l) = lin φ l := by
  rw [lin_eq φ hb, lin_eq φ (fun t ht => by have := (canon_mem l t).1 ht; exact ⟨this.1, this.2.1⟩)]
  exact sumN_congr (fun i hi => by rw [cof_canon l ⟨by omega, by omega⟩])
def valAt (v : List Int) (i : Int) : Int := if i < (v.length : Int) then v.getD i.toNat 0 else 0
theorem sumT_lin (v : List Int) (l : List Tm) : sumT l v = lin (valAt v) l := by
  induction l with
  | nil => rfl
  | cons t l ih =>
    simp only [sumT, lin, ih, tmV, valAt]
    split
    · rfl
    · rw [Int.mul_zero]
/-- The sum of the counts of blocks. -/
def sumAt (v : List Int) : List Int → Int
  | [] => 0
  | x :: r => v.getD x.toNat 0 + sumAt v r
theorem sumAt_append (v a b : List Int) : sumAt v (a ++ b) = sumAt v a + sumAt v b := by
  induction a with
  | nil => simp [sumAt]
  | cons t a ih => simp only [List.cons_append, sumAt, ih]; omega
theorem lin_row (φ : Int → Int) (c : Int) (x : List Int) (s : List Int → Int) (h0 : s [] = 0) (h1 : ∀ n r, s (n :: r) = φ n + s r) : lin φ (x.map (fun n => (n, c))) = c * s x := by
  induction x with
  | nil => simp [lin, h0]
  | cons n x ih => simp only [List.map_cons, lin, ih, h1, Int.mul_add]
/-- A mapped fact's sum is the fact's, of the counts that add up. -/
theorem sum_map {to : List (List Int)} {now : List Int} (hto : ∀ l ∈ to, ∀ x ∈ l, 0 ≤ x ∧ x < (now.length : Int)) (hn : now.length ≤ 256) : ∀ {l : List Tm}, (∀ t ∈ l, 0 ≤ t.1 ∧ t.1 < (to.length : Int)) → sumT (mapT to l) now = sumT l (to.map (sumAt now))
  | [], _ => rfl
  | t :: l, h => by
    have ht := h t (by simp)
    have hx : t.1.toNat < to.length := by omega
    have ea : toAt to t = to[t.1.toNat] := by unfold toAt; rw [List.getD_eq_getElem?_getD, List.getElem?_eq_getElem hx, Option.getD_some]
    simp only [mapT, sumT_append, sumT]
    rw [sum_map hto hn (fun u hu => h u (by simp [hu])), ea]
    congr 1
    unfold tmV
    rw [List.length_map, if_pos ht.2, List.getD_eq_getElem?_getD, List.getElem?_map, List.getElem?_eq_getElem hx, Option.map_some, Option.getD_some]
    have hm := hto _ (List.getElem_mem hx)
    generalize to[t.1.toNat] = x at hm
    clear ea
    induction x with
    | nil => simp [sumT, sumAt]
    | cons n x ih =>
      have hn2 := hm n (by simp)
      simp only [List.map_cons, sumT, sumAt, Int.mul_add, ih (fun y hy => hm y (by simp [hy]))]
      congr 1
      unfold tmV
      rw [if_pos hn2.2]
theorem sumAt_bd {now : List Int} {B : Int} (hB : 0 ≤ B) (hn : ∀ v ∈ now, 0 ≤ v ∧ v ≤ B) : ∀ l : List Int, 0 ≤ sumAt now l ∧ sumAt now l ≤ B * (l.length : Int)
  | [] => by simp [sumAt]
  | x :: r => by
    have h1 := sumAt_bd hB hn r
    have e : B * ((x :: r).length : Int) = B * (r.length : Int) + B := by rw [List.length_cons, Int.natCast_succ, Int.mul_add, Int.mul_one]
    have h2 : 0 ≤ now.getD x.toNat 0 ∧ now.getD x.toNat 0 ≤ B := by
      rw [List.getD_eq_getElem?_getD]
      by_cases h : x.toNat < now.length
      · rw [List.getElem?_eq_getElem h, Option.getD_some]
        exact hn _ (List.getElem_mem h)
      · rw [List.getElem?_eq_none (by omega), Option.getD_none]
        omega
    simp only [sumAt]
    omega

/-! Sums of counts -/
theorem Sums_c (to : List (List Int)) (now : List Int) (hl : to.length ≤ 256) (hto : ∀ l ∈ to, l.length ≤ 256 ∧ ∀ x ∈ l, 0 ≤ x ∧ x < (now.length : Int)) (hn : ∀ v ∈ now, 0 ≤ v ∧ v ≤ 1048576) :
    Con Try.prog 26 [.cell (.list (to.map Lrow)), .cell (.list (now.map Irow))] [] (fun K => K (.cell (.list ((to.map (sumAt now)).map Irow))) []) := by
  have eT : (to.map Lrow).length = to.length := List.length_map _
  refine con_intro Try.func26 rfl rfl (Nat.le_of_ble_eq_true rfl) (fun c hc => ?_)
  refine jc_seq ?_
  refine jc_region ?_
  refine jl_op ?_ (nb rfl)
  refine ow_assign rfl ?_
  refine jl_nil ?_
  refine jq_then ?_
  refine jc_seq ?_
  refine jc_region ?_
  refine jl_op ?_ (nb rfl)
  refine ow_move rfl ?_
  refine jl_op ?_ (nb rfl)
  refine ow_len rfl (fun hlen => ?_)
  refine jl_op (ow_makeSliceOwn to.length rfl rfl rfl (by decide) (by rw [← eT]; rfl) (by rw [← eT]; rfl) (by show _ * 1 ≤ _; omega) (by show 8 * _ ≤ _; omega) (by omega) (fun V hV _ => ?_)) (nb rfl)
  refine jl_op ?_ (nb rfl)
  refine ow_assign rfl ?_
  refine jl_nil ?_
  refine jq_then ?_
  refine jc_seq ?_
  refine jc_seq ?_
  refine jc_region ?_
  refine jl_op ?_ (nb rfl)
  refine ow_assign rfl ?_
  refine jl_nil ?_
  refine jq_then ?_
  refine jc_block ?_
  refine jc_loopS (ι := Nat × List Int) [] (fun i => i.1 ≤ to.length ∧ i.2.length = to.length ∧ (∀ (m : Nat) (h : m < to.length) (h2 : m < i.2.length), m < i.1 → i.2[m] = sumAt now to[m]) ∧ ∀ (m : Nat) (h2 : m < i.2.length), i.1 ≤ m → i.2[m] = 0) (fun i => [(0, .cell (.list (to.map Lrow))), (1, .cell (.list (now.map Irow))), (5, .cell (.val V)), (6, In .i64 (i.1 : Int))]) (fun i => [Ow1 V i.2]) (fun i => to.length - i.1) (0, List.replicate to.length 0) ⟨Nat.zero_le _, List.length_replicate, fun m _ _ h => by dsimp only at h; omega, fun m h _ => by dsimp only; rw [List.getElem_replicate]⟩ ?_ ?_ ?_
  · show Vc.Sub _ (.own V _ _ ((List.replicate to.length 0).map Irow) :: _)
    rw [List.map_replicate]
    refine sub_step 0 rfl ?_
    exact sub_end
  · (repeat (first | exact True.intro | refine ⟨rfl, ?_⟩))
  · rintro ⟨k, s⟩ ⟨hk, hsl, hs1, hs2⟩
    dsimp only at hk hsl hs1 hs2 ⊢
    refine jc_reset [(0, .cell (.list (to.map Lrow))), (1, .cell (.list (now.map Irow))), (5, .cell (.val V)), (6, In .i64 (k : Int))] [Ow1 V s] ?_ ⟨[0], [], rfl⟩ ?_
    · (repeat (first | exact True.intro | refine ⟨rfl, ?_⟩))
    refine jc_seq ?_
    refine jc_seq ?_
    refine jc_region ?_
    refine jl_op ?_ (nb rfl)
    refine ow_move rfl ?_
    refine jl_op ?_ (nb rfl)
    refine ow_move rfl ?_
    refine jl_op ?_ (nb rfl)
    refine ow_len rfl (fun hlen => ?_)
    refine jl_op ?_ (nb rfl)
    refine ow_lss rfl rfl ?_
    refine jl_nil ?_
    refine jq_then ?_
    refine jc_condd rfl (fun hlt => ?_) (fun hge => ?_)
    · have hlt' : k < to.length := by omega
      have hx := hto _ (List.getElem_mem hlt')
      have eX : (to[k].map Irow).length = to[k].length := List.length_map _
      have hs0 : s.set k (sumAt now (to[k].take 0)) = s := by
        have := hs2 k (by omega) (Nat.le_refl _)
        rw [List.take_zero, show sumAt now [] = s[k] by rw [this]; rfl, List.set_getElem_self]
      refine jc_skip ?_
      refine jq_then ?_
      refine jc_seq ?_
      refine jc_block ?_
      refine jc_seq ?_
      refine jc_region ?_
      refine jl_op ?_ (nb rfl)
      refine ow_assign rfl ?_
      refine jl_nil ?_
      refine jq_then ?_
      refine jc_block ?_
      refine jc_loopS (ι := Nat) [] (fun j => j ≤ to[k].length) (fun j => [(0, .cell (.list (to.map Lrow))), (1, .cell (.list (now.map Irow))), (5, .cell (.val V)), (6, In .i64 (k : Int)), (7, In .i64 (j : Int))]) (fun j => [Ow1 V (s.set k (sumAt now (to[k].take j)))]) (fun j => to[k].length - j) 0 (Nat.zero_le _) ?_ ?_ ?_
      · show Vc.Sub _ (Ow1 V (s.set k (sumAt now (to[k].take 0))) :: _)
        rw [hs0]
        refine sub_step 0 rfl ?_
        exact sub_end
      · (repeat (first | exact True.intro | refine ⟨rfl, ?_⟩))
      · intro j hj
        have hsl2 : (s.set k (sumAt now (to[k].take j))).length = to.length := by rw [List.length_set, hsl]
        have hk1 : ((k : Int)).toNat * 1 < (s.set k (sumAt now (to[k].take j))).length := by omega
        have hval : (s.set k (sumAt now (to[k].take j)))[((k : Int)).toNat * 1] = sumAt now (to[k].take j) := by
          rw [List.getElem_set, if_pos (by omega)]
        have hset : ∀ v, (s.set k (sumAt now (to[k].take j))).set k v = s.set k v := fun v => List.set_set ..
        have hbd := sumAt_bd (B := 1048576) (by omega) hn (to[k].take j)
        rw [List.length_take] at hbd
        refine jc_reset [(0, .cell (.list (to.map Lrow))), (1, .cell (.list (now.map Irow))), (5, .cell (.val V)), (6, In .i64 (k : Int)), (7, In .i64 (j : Int))] [Ow1 V (s.set k (sumAt now (to[k].take j)))] ?_ ⟨[0], [], rfl⟩ ?_
        · (repeat (first | exact True.intro | refine ⟨rfl, ?_⟩))
        generalize s.set k (sumAt now (to[k].take j)) = s2 at hsl2 hk1 hval hset ⊢
        refine jc_seq ?_
        refine jc_seq ?_
        refine jc_region ?_
        refine jl_op ?_ (nb rfl)
        refine ow_move rfl ?_
        refine jl_op ?_ (nb rfl)
        refine ow_move rfl ?_
        refine jl_op ?_ (nb rfl)
        refine ow_move rfl ?_
        refine jl_op ?_ (nb rfl)
        refine ow_indexAddrMapE rfl rfl (by omega) rfl rfl (nb rfl) ?_
        refine jl_op ?_ (nb rfl)
        refine ow_loadPlace rfl rfl ?_
        refine jl_op ?_ (nb rfl)
        refine ow_len rfl (fun hlen => ?_)
        refine jl_op ?_ (nb rfl)
        refine ow_lss rfl rfl ?_
        refine jl_nil ?_
        refine jq_then ?_
        refine jc_condd rfl (fun hjlt => ?_) (fun hjge => ?_)
        · have hj' : j < to[k].length := by omega
          have hxj := hx.2 to[k][j] (List.getElem_mem hj')
          have hix : to[k][j].toNat < now.length := by omega
          have hnv := hn now[to[k][j].toNat] (List.getElem_mem hix)
          have estep : sumAt now (to[k].take (j + 1)) = sumAt now (to[k].take j) + now[to[k][j].toNat] := by
            rw [List.take_succ_eq_append_getElem hj', sumAt_append]
            simp only [sumAt, Int.add_zero]
            rw [List.getD_eq_getElem?_getD, List.getElem?_eq_getElem hix, Option.getD_some]
          have hk2 : k < s2.length := by omega
          refine jc_skip ?_
          refine jq_then ?_
          refine jc_seq ?_
          refine jc_block ?_
          refine jc_anyB 18 none rfl (by kernel_rfl) (by kernel_rfl) ?_
          refine any_op (fun c => ow_move rfl ⟨rfl, List.Perm.refl _⟩) ?_
          refine any_op (fun c => ow_move rfl ⟨rfl, List.Perm.refl _⟩) ?_
          refine any_op (fun c => ow_move rfl ⟨rfl, List.Perm.refl _⟩) ?_
          refine any_op (fun c => ow_move rfl ⟨rfl, List.Perm.refl _⟩) ?_
          refine any_op (fun c => ow_indexOwn 0 rfl rfl rfl (by omega) (by simp only [List.length_map]; omega) rfl ⟨rfl, List.Perm.refl _⟩) ?_
          refine any_op (fun c => ow_loadInn1 0 rfl rfl rfl (by omega) rfl ⟨rfl, List.Perm.refl _⟩) ?_
          refine any_op (fun c => ow_move rfl ⟨rfl, List.Perm.refl _⟩) ?_
          refine any_op (fun c => ow_move rfl ⟨rfl, List.Perm.refl _⟩) ?_
          refine any_op (fun c => ow_move rfl ⟨rfl, List.Perm.refl _⟩) ?_
          refine any_op (fun c => ow_indexAddrMapE rfl rfl (by omega) rfl rfl (nb rfl) ⟨rfl, List.Perm.refl _⟩) ?_
          refine any_op (fun c => ow_loadPlace rfl rfl ⟨rfl, List.Perm.refl _⟩) ?_
          refine any_op (fun c => ow_move rfl ⟨rfl, List.Perm.refl _⟩) ?_
          refine any_op (fun c => ow_indexAddrMapE rfl rfl (by omega) rfl rfl (nb rfl) ⟨rfl, List.Perm.refl _⟩) ?_
          refine any_op (fun c => ow_loadPlace rfl rfl ⟨rfl, List.Perm.refl _⟩) ?_
          refine any_op (fun c => ow_indexAddrMapI rfl rfl (by omega) (by omega) rfl rfl (nb rfl) ⟨rfl, List.Perm.refl _⟩) ?_
          refine any_op (fun c => ow_loadPlace rfl rfl ⟨rfl, List.Perm.refl _⟩) ?_
          refine any_op (fun c => ow_add64 rfl rfl (by omega) ⟨rfl, List.Perm.refl _⟩) ?_
          refine any_op (fun c => ow_indexOwn 0 rfl rfl rfl (by omega) (by simp only [List.length_map]; omega) rfl ⟨rfl, List.Perm.refl _⟩) ?_
          refine any_nil ?_
          refine afin_none ?_
          skip
          refine jl_op0 (ow_storeInnAll 0 k rfl rfl rfl rfl (by omega) (by rw [List.getElem?_map, List.getElem?_eq_getElem hk2]; rfl) rfl rfl rfl ?_)
          refine jl_nil ?_
          refine jq_block ?_
          refine jq_then ?_
          refine jc_region ?_
          refine jl_op ?_ (nb rfl)
          refine ow_move rfl ?_
          refine jl_op ?_ (nb rfl)
          refine ow_add64 rfl rfl (by omega) ?_
          refine jl_op ?_ (nb rfl)
          refine ow_assign rfl ?_
          refine jl_nil ?_
          refine jq_againS (j + 1) (by omega) (by omega) ?_ ?_
          · dsimp only
            rw [estep, ← hval, ← hset, show Ow1 V (s2.set k (s2[((k : Int)).toNat * 1] + now[to[k][j].toNat])) = .own V 3 1 ((s2.map Irow).set k (Irow (s2[((k : Int)).toNat * 1] + now[to[k][j].toNat]))) by rw [← List.map_set]]
            refine sub_step 0 rfl ?_
            exact sub_end
          · (repeat (first | exact True.intro | refine ⟨rfl, ?_⟩))
        · obtain rfl : j = to[k].length := by omega
          rw [List.take_length] at hval
          refine jc_exit ?_
          refine jq_then_exit ?_
          refine jq_then_exit ?_
          refine jq_block_exit ?_
          refine jq_block ?_
          refine jq_then ?_
          refine jc_region ?_
          refine jl_op ?_ (nb rfl)
          refine ow_move rfl ?_
          refine jl_op ?_ (nb rfl)
          refine ow_add64 rfl rfl (by omega) ?_
          refine jl_op ?_ (nb rfl)
          refine ow_assign rfl ?_
          refine jl_nil ?_
          have hne : ∀ (m : Nat) (h : m < s2.length) (h2 : m < s.length), m ≠ k → s2[m] = s[m] := fun m h h2 hmk => by
            have e := congrArg (fun l : List Int => l[m]?) (hset 0)
            rw [List.getElem?_set_ne (Ne.symm hmk), List.getElem?_set_ne (Ne.symm hmk), List.getElem?_eq_getElem h, List.getElem?_eq_getElem h2] at e
            exact Option.some.inj e
          refine jq_againS (i := (k, s)) (k + 1, s2) ⟨by dsimp only; omega, hsl2, fun m h h2 hm => ?_, fun m h2 hm => ?_⟩ (by dsimp only; omega) ?_ ?_
          · dsimp only at hm h2 ⊢
            by_cases hmk : m = k
            · subst hmk
              rw [← hval]
              congr 1
              omega
            · rw [hne m h2 (by omega) hmk]
              exact hs1 m h (by omega) (by omega)
          · dsimp only at hm h2 ⊢
            rw [hne m h2 (by omega) (by omega)]
            exact hs2 m (by omega) (by omega)
          · dsimp only
            refine sub_step 0 rfl ?_
            exact sub_end
          · (repeat (first | exact True.intro | refine ⟨rfl, ?_⟩))
    · have hkk : k = to.length := by omega
      have es : s = to.map (sumAt now) := List.ext_getElem (by rw [List.length_map, hsl]) (fun m h1 h2 => by
        rw [List.getElem_map]
        exact hs1 m (by omega) h1 (by omega))
      subst es
      refine jc_freeze 5 0 rfl rfl (by rw [hc]; simp [hb]) ?_
      refine jc_exit ?_
      refine jq_then_exit ?_
      refine jq_then_exit ?_
      refine jq_block_exit ?_
      refine jq_then ?_
      refine jc_seq ?_
      refine jc_region ?_
      refine jl_op ?_ (nb rfl)
      refine ow_move rfl ?_
      refine jl_op ?_ (nb rfl)
      refine ow_assign rfl ?_
      refine jl_nil ?_
      refine jq_then ?_
      refine jc_ret ?_
      refine jq_ret1 rfl rfl [] rfl (fun K h => h)
theorem SumsM_c (to : List (List Int)) (now : List Int) (hl : to.length ≤ 256) (hto : ∀ l ∈ to, l.length ≤ 256 ∧ ∀ x ∈ l, 0 ≤ x ∧ x < (now.length : Int)) (hn : ∀ v ∈ now, 0 ≤ v ∧ v ≤ 1048576) :
    Con Try.prog 14 [.cell (.list (to.map Lrow)), .cell (.list (now.map Irow))] [] (fun K => K (.cell (.list ((to.map (sumAt now)).map Irow))) []) := by
  have hS := Sums_c to now hl hto hn
  refine con_intro Try.func14 rfl rfl (Nat.le_of_ble_eq_true rfl) (fun c hc => ?_)
  refine jc_seq ?_
  refine jc_region ?_
  refine jl_op ?_ (nb rfl)
  refine ow_assign rfl ?_
  refine jl_nil ?_
  refine jq_then ?_
  refine jc_seq ?_
  refine jc_region ?_
  refine jl_op ?_ (nb rfl)
  refine ow_move rfl ?_
  refine jl_op ?_ (nb rfl)
  refine ow_move rfl ?_
  refine jl_op ?_ (nb rfl)
  refine ow_call0 rfl (hS) ?_
  refine jl_op ?_ (nb rfl)
  refine ow_assign rfl ?_
  refine jl_nil ?_
  refine jq_then ?_
  refine jc_ret ?_
  refine jq_ret1 rfl rfl [] rfl (fun K h => h)
end Go.Proofs.Ytjkkkjikhjfdnaa
