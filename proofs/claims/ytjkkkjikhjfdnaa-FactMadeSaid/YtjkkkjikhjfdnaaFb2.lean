import Derived.Test.YtjkkkjikhjfdnaaFb1
namespace Go.Proofs.Ytjkkkjikhjfdnaa
open Go.Vc
attribute [local irreducible] JL JC JQ OpWp Con ConN
attribute [local irreducible] isSmall isBlock
set_option maxHeartbeats 4000000

structure SomeF (n : Int) (f : Fct) : Prop where
  v : Valid f
  t : ∀ t ∈ f.terms, (0 ≤ t.1 ∧ t.1 < n) ∧ -4 ≤ t.2 ∧ t.2 ≤ 4
  len : (f.terms.length : Int) ≤ n
  most : -5 ≤ f.most ∧ f.most ≤ 24
theorem some_c {L : List Int} {b : Nat} (n : Int) (hn : 0 ≤ n ∧ n ≤ 10) (hL : InR L) (hLn : L.length ≤ 400) :
    Con Try.prog 12 [Ptr b, In .i64 n] [Dk b L] (fun K => ∀ f, SomeF n f → K (.row (FR f)) [Dk b L]) := by
  refine con_intro Try.func12 rfl rfl (Nat.le_of_ble_eq_true rfl) (fun c hc => ?_)
  refine jc_seq ?_
  refine jc_region ?_
  refine jl_op ?_ (nb rfl)
  refine ow_alloc rfl rfl (fun bl => ?_)
  refine jl_nil ?_
  refine jq_then ?_
  refine jc_seq ?_
  refine jc_region ?_
  refine jl_op ?_ (nb rfl)
  refine ow_assign rfl ?_
  refine jl_nil ?_
  refine jq_then ?_
  refine jc_seq ?_
  refine jc_seq ?_
  refine jc_region ?_
  refine jl_op ?_ (nb rfl)
  refine ow_assign rfl ?_
  refine jl_nil ?_
  refine jq_then ?_
  refine jc_block ?_
  refine jc_ownNil 44 2 (by omega) ?_
  revert bl
  intro b4
  refine jc_loopS (ι := Int × Value × List Tm) [] (fun i => 0 ≤ i.1 ∧ i.1 ≤ n ∧ i.2.1.oneCell' = true ∧ Strict i.2.2 ∧ ∀ t ∈ i.2.2, (0 ≤ t.1 ∧ t.1 < i.1) ∧ -4 ≤ t.2 ∧ t.2 ≤ 4) (fun i => [(0, Ptr b), (1, In .i64 n), (4, .cell (.val (.pointer (some ⟨b4, 0, none⟩)))), (5, .cell (.val i.2.1)), (6, In .i64 i.1)]) (fun i => [Ow i.2.1 i.2.2, .blk b4 30 [.val (.slice none 0 0), .val (.int .i64 0)], Dk b L]) (fun i => (n - i.1).toNat) (0, .slice none 0 0, []) ⟨by dsimp only; omega, by dsimp only; omega, rfl, .nil, fun t h => by cases h⟩ ?_ ?_ ?_
  · refine sub_step 0 rfl ?_
    refine sub_step 0 rfl ?_
    refine sub_step 0 rfl ?_
    exact sub_end
  · (repeat (first | exact True.intro | refine ⟨rfl, ?_⟩))
  · rintro ⟨k, W, a⟩ ⟨hk0, hk, hW, hs, ha⟩
    dsimp only at hk0 hk hW hs ha ⊢
    refine jc_reset [(0, Ptr b), (1, In .i64 n), (4, .cell (.val (.pointer (some ⟨b4, 0, none⟩)))), (5, .cell (.val W)), (6, In .i64 k)] [Ow W a, .blk b4 30 [.val (.slice none 0 0), .val (.int .i64 0)], Dk b L] ?_ ⟨[0, 0, 0], [], rfl⟩ ?_
    · (repeat (first | exact True.intro | refine ⟨rfl, ?_⟩))
    have hlen := strict_len (lo := 0) (hi := k) hs (fun t ht => (ha t ht).1) hk0
    have eA : (a.map TR).length = a.length := List.length_map _
    refine jc_seq ?_
    refine jc_seq ?_
    refine jc_region ?_
    refine jl_op ?_ (nb rfl)
    refine ow_move rfl ?_
    refine jl_op ?_ (nb rfl)
    refine ow_move rfl ?_
    refine jl_op ?_ (nb rfl)
    refine ow_lss rfl rfl ?_
    refine jl_nil ?_
    refine jq_then ?_
    refine jc_condd rfl (fun hlt => ?_) (fun hge => ?_)
    · refine jc_skip ?_
      refine jq_then ?_
      refine jc_seq ?_
      refine jc_block ?_
      refine jc_seq ?_
      refine jc_region ?_
      refine jl_op ?_ (nb rfl)
      refine ow_move rfl ?_
      refine jl_op (ow_callP [2] rfl rfl (Nx_c _ hL hLn (by omega)) (fun x hx => ?_)) (nb rfl)
      refine jl_op ?_ (nb rfl)
      refine ow_eql rfl rfl ?_
      refine jl_nil ?_
      refine jq_then ?_
      refine jc_condd rfl (fun h1 => ?_) (fun h1 => ?_)
      · refine jc_region ?_
        refine jl_op ?_ (nb rfl)
        refine ow_move rfl ?_
        refine jl_op ?_ (nb rfl)
        refine ow_move rfl ?_
        refine jl_op ?_ (nb rfl)
        refine ow_move rfl ?_
        refine jl_op (ow_callP [0] rfl rfl (Nx_c _ hL hLn (by omega)) (fun y hy => ?_)) (nb rfl)
        refine jl_op ?_ (nb rfl)
        refine ow_sub64 rfl rfl (by omega) ?_
        refine jl_op ?_ (nb rfl)
        refine ow_build rfl rfl rfl rfl rfl ?_
        refine jl_op ?_ (nb rfl)
        refine ow_buildSlice rfl rfl (nb rfl) rfl rfl (nb rfl) ?_
        refine jl_op (ow_append1 1 ((k, y - 4)) rfl rfl rfl rfl rfl rfl rfl (fun _ => rfl) (by show (_ + _) * 16 ≤ _; first | omega | (simp only [List.length_append]; omega)) (by first | omega | (simp only [List.length_append]; omega)) (fun W2 hW2 => ?_)) (nb rfl)
        refine jl_op ?_ (nb rfl)
        refine ow_assign rfl ?_
        refine jl_nil ?_
        refine jq_block ?_
        refine jq_then ?_
        refine jc_region ?_
        refine jl_op ?_ (nb rfl)
        refine ow_move rfl ?_
        refine jl_op ?_ (nb rfl)
        refine ow_add64 rfl rfl (by omega) ?_
        refine jl_op ?_ (nb rfl)
        refine ow_assign rfl ?_
        refine jl_nil ?_
        refine jq_againS (i := (k, W, a)) (k + 1, W2, a ++ [(k, y - 4)]) ⟨by dsimp only; omega, by dsimp only; omega, hW2, ?_, ?_⟩ (by dsimp only; omega) ?_ ?_
        · refine List.pairwise_append.2 ⟨hs, List.pairwise_singleton _ _, fun t ht u hu => ?_⟩
          obtain rfl := List.mem_singleton.1 hu
          exact (ha t ht).1.2
        · intro t ht
          dsimp only at ht ⊢
          rcases List.mem_append.1 ht with h | h
          · have := ha t h
            omega
          · obtain rfl := List.mem_singleton.1 h
            dsimp only
            omega
        · dsimp only
          refine sub_step 0 rfl ?_
          refine sub_step 1 rfl ?_
          refine sub_step 0 rfl ?_
          exact sub_end
        · (repeat (first | exact True.intro | refine ⟨rfl, ?_⟩))
      · refine jc_skip ?_
        refine jq_block ?_
        refine jq_then ?_
        refine jc_region ?_
        refine jl_op ?_ (nb rfl)
        refine ow_move rfl ?_
        refine jl_op ?_ (nb rfl)
        refine ow_add64 rfl rfl (by omega) ?_
        refine jl_op ?_ (nb rfl)
        refine ow_assign rfl ?_
        refine jl_nil ?_
        refine jq_againS (i := (k, W, a)) (k + 1, W, a) ⟨by dsimp only; omega, by dsimp only; omega, hW, hs, fun t ht => ?_⟩ (by dsimp only; omega) ?_ ?_
        · have := ha t ht
          dsimp only
          omega
        · dsimp only
          refine sub_step 1 rfl ?_
          refine sub_step 1 rfl ?_
          refine sub_step 0 rfl ?_
          exact sub_end
        · (repeat (first | exact True.intro | refine ⟨rfl, ?_⟩))
    · obtain rfl : k = n := by omega
      refine jc_freeze 5 0 rfl rfl (by rw [hc]; simp [hb]; exact fun _ h => .inr h) ?_
      refine jc_exit ?_
      refine jq_then_exit ?_
      refine jq_then_exit ?_
      refine jq_block_exit ?_
      refine jq_then ?_
      refine jc_seq ?_
      refine jc_region ?_
      refine jl_op ?_ (nb rfl)
      refine ow_move rfl ?_
      refine jl_op ?_ (nb rfl)
      refine ow_move rfl ?_
      refine jl_op (ow_callP [1] rfl rfl (Nx_c _ hL hLn (by omega)) (fun y hy => ?_)) (nb rfl)
      obtain ⟨eO, vO, kO⟩ := of_ok (l := a) (most := y - 5) (n := k) (B := 4) (by omega) (by omega) (by omega) (by omega) ha (by omega) (by omega) (by omega)
      have hcm : ∀ t ∈ canon a, t ∈ a := fun t ht => by
        obtain ⟨_, _, h3, h4⟩ := (canon_mem a t).1 ht
        have := mem_cof (i := t.1) hs (by rw [← h3]; exact h4)
        rw [← h3] at this
        exact this
      have hcl := strict_len (lo := 0) (hi := k) (canon_strict a) (fun t ht => (ha t (hcm t ht)).1) hk0
      have cO := ROf_c a (y - 5)
      rw [eO] at cO
      refine jl_op ?_ (nb rfl)
      refine ow_sub64 rfl rfl (by omega) ?_
      refine jl_op ?_ (nb rfl)
      refine ow_call0 rfl (cO) ?_
      refine jl_op ?_ (nb rfl)
      refine ow_move rfl ?_
      refine jl_op ?_ (nb rfl)
      refine ow_extract rfl rfl ?_
      refine jl_op ?_ (nb rfl)
      refine ow_extract rfl rfl ?_
      refine jl_op ?_ (nb rfl)
      refine ow_alloc rfl rfl (fun bl => ?_)
      refine jl_op0 ?_
      refine ow_storeAll 0 rfl rfl rfl rfl rfl rfl ?_
      refine jl_op ?_ (nb rfl)
      refine ow_assign rfl ?_
      refine jl_nil ?_
      refine jq_then ?_
      refine jc_seq ?_
      refine jc_region ?_
      refine jl_op ?_ (nb rfl)
      refine ow_loadAll 0 rfl rfl rfl rfl ?_
      refine jl_op0 ?_
      refine ow_storeAll 2 rfl rfl rfl rfl rfl rfl ?_
      refine jl_nil ?_
      refine jq_then ?_
      refine jc_ret ?_
      refine jq_retRow rfl rfl rfl rfl 0 rfl [2] rfl (fun K h => h ⟨canon a, y - 5⟩ ⟨vO, fun t ht => ha t (hcm t ht), by dsimp only; omega, by dsimp only; omega⟩)

structure MapsOk (n : Nat) (to : List (List Int)) : Prop where
  len : to.length = n
  ok : ∀ l ∈ to, l.length ≤ 3 ∧ ∀ x ∈ l, 0 ≤ x ∧ x < 2 * (n : Int)
abbrev OwL (V : Value) (l : List (List Int)) : Ch := .own V 22 1 (l.map Lrow)
theorem maps_c {L : List Int} {b : Nat} (n : Nat) (hn : n ≤ 30) (hL : InR L) (hLn : L.length ≤ 400) :
    Con Try.prog 13 [Ptr b, In .i64 (n : Int)] [Dk b L] (fun K => ∀ to, MapsOk n to → K (.cell (.list (to.map Lrow))) [Dk b L]) := by
  refine con_intro Try.func13 rfl rfl (Nat.le_of_ble_eq_true rfl) (fun c hc => ?_)
  refine jc_seq ?_
  refine jc_region ?_
  refine jl_op ?_ (nb rfl)
  refine ow_assign rfl ?_
  refine jl_nil ?_
  refine jq_then ?_
  refine jc_seq ?_
  refine jc_region ?_
  refine jl_op ?_ (nb rfl)
  refine ow_assign rfl ?_
  refine jl_nil ?_
  refine jq_then ?_
  refine jc_seq ?_
  refine jc_region ?_
  refine jl_op ?_ (nb rfl)
  refine ow_assign rfl ?_
  refine jl_nil ?_
  refine jq_then ?_
  refine jc_seq ?_
  refine jc_seq ?_
  refine jc_region ?_
  refine jl_op ?_ (nb rfl)
  refine ow_assign rfl ?_
  refine jl_nil ?_
  refine jq_then ?_
  refine jc_block ?_
  refine jc_ownNil 22 1 (by omega) ?_
  refine jc_loopS (ι := Int × Value × List (List Int)) [] (fun i => i.2.2.length ≤ n ∧ 0 ≤ i.1 ∧ i.1 ≤ 2 * (i.2.2.length : Int) ∧ i.2.1.oneCell' = true ∧ ∀ l ∈ i.2.2, l.length ≤ 3 ∧ ∀ x ∈ l, 0 ≤ x ∧ x < 2 * (n : Int)) (fun i => [(0, Ptr b), (1, In .i64 (n : Int)), (5, .cell (.val i.2.1)), (6, In .i64 i.1), (7, In .i64 (i.2.2.length : Int))]) (fun i => [OwL i.2.1 i.2.2, Dk b L]) (fun i => n - i.2.2.length) (0, .slice none 0 0, []) ⟨Nat.zero_le _, by dsimp only; omega, by dsimp only; simp, rfl, fun l h => by cases h⟩ ?_ ?_ ?_
  · refine sub_step 0 rfl ?_
    refine sub_step 0 rfl ?_
    exact sub_end
  · (repeat (first | exact True.intro | refine ⟨rfl, ?_⟩))
  · rintro ⟨k, V, to⟩ ⟨hlen, hk0, hk, hV, hok⟩
    dsimp only at hlen hk0 hk hV hok ⊢
    refine jc_reset [(0, Ptr b), (1, In .i64 (n : Int)), (5, .cell (.val V)), (6, In .i64 k), (7, In .i64 (to.length : Int))] [OwL V to, Dk b L] ?_ ⟨[0, 0], [], rfl⟩ ?_
    · (repeat (first | exact True.intro | refine ⟨rfl, ?_⟩))
    have eT : (to.map Lrow).length = to.length := List.length_map _
    refine jc_seq ?_
    refine jc_seq ?_
    refine jc_region ?_
    refine jl_op ?_ (nb rfl)
    refine ow_move rfl ?_
    refine jl_op ?_ (nb rfl)
    refine ow_move rfl ?_
    refine jl_op ?_ (nb rfl)
    refine ow_lss rfl rfl ?_
    refine jl_nil ?_
    refine jq_then ?_
    refine jc_condd rfl (fun hlt => ?_) (fun hge => ?_)
    · refine jc_skip ?_
      refine jq_then ?_
      refine jc_seq ?_
      refine jc_block ?_
      refine jc_seq ?_
      refine jc_region ?_
      refine jl_op ?_ (nb rfl)
      refine ow_assign rfl ?_
      refine jl_nil ?_
      refine jq_then ?_
      refine jc_seq ?_
      refine jc_seq ?_
      refine jc_region ?_
      refine jl_op ?_ (nb rfl)
      refine ow_move rfl ?_
      refine jl_op (ow_callP [1] rfl rfl (Nx_c _ hL hLn (by omega)) (fun j0 hj0 => ?_)) (nb rfl)
      refine jl_op ?_ (nb rfl)
      refine ow_assign rfl ?_
      refine jl_nil ?_
      refine jq_then ?_
      refine jc_block ?_
      refine jc_ownNil 3 1 (by omega) ?_
      refine jc_loopS (ι := Int × Int × Value × List Int) [] (fun i => 0 ≤ i.1 ∧ (i.2.2.2.length : Int) + i.1 ≤ 2 ∧ 0 ≤ i.2.1 ∧ i.2.1 + i.1 ≤ 2 * (to.length : Int) + 2 ∧ i.2.2.1.oneCell' = true ∧ ∀ x ∈ i.2.2.2, 0 ≤ x ∧ x < 2 * (n : Int)) (fun i => [(0, Ptr b), (1, In .i64 (n : Int)), (5, .cell (.val V)), (6, In .i64 i.2.1), (7, In .i64 (to.length : Int)), (8, .cell (.val i.2.2.1)), (9, In .i64 i.1)]) (fun i => [Ow1 i.2.2.1 i.2.2.2, OwL V to, Dk b L]) (fun i => i.1.toNat) (j0, k, .slice none 0 0, []) ⟨by dsimp only; omega, by dsimp only [List.length_nil]; omega, hk0, by dsimp only; omega, rfl, fun l h => by cases h⟩ ?_ ?_ ?_
      · refine sub_step 0 rfl ?_
        refine sub_step 1 rfl ?_
        refine sub_step 0 rfl ?_
        exact sub_end
      · (repeat (first | exact True.intro | refine ⟨rfl, ?_⟩))
      · rintro ⟨j, m, X, x⟩ ⟨hj, hxl, hm0, hm, hX, hx⟩
        dsimp only at hj hxl hm0 hm hX hx ⊢
        refine jc_reset [(0, Ptr b), (1, In .i64 (n : Int)), (5, .cell (.val V)), (6, In .i64 m), (7, In .i64 (to.length : Int)), (8, .cell (.val X)), (9, In .i64 j)] [Ow1 X x, OwL V to, Dk b L] ?_ ⟨[0, 0, 0], [], rfl⟩ ?_
        · (repeat (first | exact True.intro | refine ⟨rfl, ?_⟩))
        have eX : (x.map Irow).length = x.length := List.length_map _
        refine jc_seq ?_
        refine jc_seq ?_
        refine jc_region ?_
        refine jl_op ?_ (nb rfl)
        refine ow_move rfl ?_
        refine jl_op ?_ (nb rfl)
        refine ow_gtr rfl rfl ?_
        refine jl_nil ?_
        refine jq_then ?_
        refine jc_condd rfl (fun hgt => ?_) (fun hle => ?_)
        · refine jc_skip ?_
          refine jq_then ?_
          refine jc_seq ?_
          refine jc_block ?_
          refine jc_seq ?_
          refine jc_region ?_
          refine jl_op ?_ (nb rfl)
          refine ow_move rfl ?_
          refine jl_op ?_ (nb rfl)
          refine ow_move rfl ?_
          refine jl_op ?_ (nb rfl)
          refine ow_buildSlice rfl rfl (nb rfl) rfl rfl (nb rfl) ?_
          refine jl_op (ow_append1 0 (m) rfl rfl rfl rfl rfl rfl rfl (fun _ => rfl) (by show (_ + _) * 8 ≤ _; first | omega | (simp only [List.length_append]; omega)) (by first | omega | (simp only [List.length_append]; omega)) (fun X2 hX2 => ?_)) (nb rfl)
          refine jl_op ?_ (nb rfl)
          refine ow_assign rfl ?_
          refine jl_nil ?_
          refine jq_then ?_
          refine jc_region ?_
          refine jl_op ?_ (nb rfl)
          refine ow_move rfl ?_
          refine jl_op ?_ (nb rfl)
          refine ow_add64 rfl rfl (by omega) ?_
          refine jl_op ?_ (nb rfl)
          refine ow_assign rfl ?_
          refine jl_nil ?_
          refine jq_block ?_
          refine jq_then ?_
          refine jc_region ?_
          refine jl_op ?_ (nb rfl)
          refine ow_move rfl ?_
          refine jl_op ?_ (nb rfl)
          refine ow_sub64 rfl rfl (by omega) ?_
          refine jl_op ?_ (nb rfl)
          refine ow_assign rfl ?_
          refine jl_nil ?_
          refine jq_againS (i := (j, m, X, x)) (j - 1, m + 1, X2, x ++ [m]) ⟨by dsimp only; omega, by dsimp only; rw [List.length_append]; simp; omega, by dsimp only; omega, by dsimp only; omega, hX2, fun y hy => ?_⟩ (by dsimp only; omega) ?_ ?_
          · rcases List.mem_append.1 hy with h | h
            · exact hx y h
            · obtain rfl := List.mem_singleton.1 h
              omega
          · dsimp only
            refine sub_step 0 rfl ?_
            refine sub_step 0 rfl ?_
            refine sub_step 0 rfl ?_
            exact sub_end
          · (repeat (first | exact True.intro | refine ⟨rfl, ?_⟩))
        · obtain rfl : j = 0 := by omega
          have hadd : ∀ z : List Int, (z.length ≤ 3 ∧ ∀ y ∈ z, 0 ≤ y ∧ y < 2 * (n : Int)) → ∀ l ∈ to ++ [z], l.length ≤ 3 ∧ ∀ x ∈ l, 0 ≤ x ∧ x < 2 * (n : Int) := fun z hz l hl => by
            rcases List.mem_append.1 hl with h | h
            · exact hok l h
            · obtain rfl := List.mem_singleton.1 h
              exact hz
          have hal : ∀ z : List Int, ((to ++ [z]).length : Int) = (to.length : Int) + 1 := fun z => by rw [List.length_append]; simp
          refine jc_exit ?_
          refine jq_then_exit ?_
          refine jq_then_exit ?_
          refine jq_block_exit ?_
          refine jq_then ?_
          refine jc_seq ?_
          refine jc_seq ?_
          refine jc_region ?_
          refine jl_op ?_ (nb rfl)
          refine ow_move rfl ?_
          refine jl_op (ow_callP [2] rfl rfl (Nx_c _ hL hLn (by omega)) (fun y hy => ?_)) (nb rfl)
          by_cases h8 : y = 8
          · refine jl_op ?_ (nb rfl)
            refine ow_eql rfl rfl ?_
            refine jl_op ?_ (nb rfl)
            refine ow_move rfl ?_
            refine jl_guardY rfl (by first | assumption | exact decide_eq_true rfl | exact decide_eq_true (by first | assumption | omega) | exact decide_eq_false (by first | assumption | omega) | with_reducible rfl | exact (rfl : false = !true) | exact (rfl : true = !false)) (nb rfl) ?_
            refine ow_move rfl ?_
            refine jl_guardY rfl (by first | assumption | exact decide_eq_true rfl | exact decide_eq_true (by first | assumption | omega) | exact decide_eq_false (by first | assumption | omega) | with_reducible rfl | exact (rfl : false = !true) | exact (rfl : true = !false)) (nb rfl) ?_
            refine ow_gtr rfl rfl ?_
            refine jl_op ?_ (nb rfl)
            refine ow_pickT rfl (by first | assumption | exact decide_eq_true rfl | exact decide_eq_true (by first | assumption | omega) | exact decide_eq_false (by first | assumption | omega) | with_reducible rfl | exact (rfl : false = !true) | exact (rfl : true = !false)) rfl ?_
            refine jl_nil ?_
            refine jq_then ?_
            refine jc_condd rfl (fun hpos => ?_) (fun hnp => ?_)
            · refine jc_region ?_
              refine jl_op ?_ (nb rfl)
              refine ow_move rfl ?_
              refine jl_op ?_ (nb rfl)
              refine ow_move rfl ?_
              refine jl_op ?_ (nb rfl)
              refine ow_move rfl ?_
              refine jl_op (ow_callP [0] rfl rfl (Nx_c _ hL hLn (by omega)) (fun w hw => ?_)) (nb rfl)
              refine jl_op ?_ (nb rfl)
              refine ow_buildSlice rfl rfl (nb rfl) rfl rfl (nb rfl) ?_
              refine jl_op (ow_append1 1 (w) rfl rfl rfl rfl rfl rfl rfl (fun _ => rfl) (by show (_ + _) * 8 ≤ _; first | omega | (simp only [List.length_append]; omega)) (by first | omega | (simp only [List.length_append]; omega)) (fun X2 hX2 => ?_)) (nb rfl)
              refine jl_op ?_ (nb rfl)
              refine ow_assign rfl ?_
              refine jl_nil ?_
              refine jq_then ?_
              refine jc_freeze 8 0 rfl rfl (by rw [hc]; simp [hb]; exact fun _ h => .inl h) ?_
              refine jc_region ?_
              refine jl_op ?_ (nb rfl)
              refine ow_move rfl ?_
              refine jl_op ?_ (nb rfl)
              refine ow_move rfl ?_
              refine jl_op ?_ (nb rfl)
              refine ow_buildSlice rfl rfl (nb rfl) rfl rfl (nb rfl) ?_
              refine jl_op (ow_append1 1 ((x ++ [w])) rfl rfl rfl rfl rfl rfl rfl (fun _ => rfl) (by show (_ + _) * 24 ≤ _; first | omega | (simp only [List.length_append]; omega)) (by first | omega | (simp only [List.length_append]; omega)) (fun V2 hV2 => ?_)) (nb rfl)
              refine jl_op ?_ (nb rfl)
              refine ow_assign rfl ?_
              refine jl_nil ?_
              refine jq_block ?_
              refine jq_then ?_
              refine jc_region ?_
              refine jl_op ?_ (nb rfl)
              refine ow_move rfl ?_
              refine jl_op ?_ (nb rfl)
              refine ow_add64 rfl rfl (by omega) ?_
              refine jl_op ?_ (nb rfl)
              refine ow_assign rfl ?_
              refine jl_nil ?_
              refine jq_againS (i := (k, V, to)) (m, V2, to ++ [x ++ [w]]) ⟨by dsimp only; have := hal (x ++ [w]); omega, hm0, by dsimp only; have := hal (x ++ [w]); omega, hV2, hadd _ ⟨by rw [List.length_append]; simp; omega, fun v hv => ?_⟩⟩ (by dsimp only; have := hal (x ++ [w]); omega) ?_ ?_
              · rcases List.mem_append.1 hv with h | h
                · exact hx v h
                · obtain rfl := List.mem_singleton.1 h
                  omega
              · dsimp only
                refine sub_step 0 rfl ?_
                refine sub_step 0 rfl ?_
                exact sub_end
              · dsimp only
                rw [hal]
                (repeat (first | exact True.intro | refine ⟨rfl, ?_⟩))
            · refine jc_skip ?_
              refine jq_then ?_
              refine jc_freeze 8 1 rfl rfl (by rw [hc]; simp [hb]; exact fun _ h => .inl h) ?_
              refine jc_region ?_
              refine jl_op ?_ (nb rfl)
              refine ow_move rfl ?_
              refine jl_op ?_ (nb rfl)
              refine ow_move rfl ?_
              refine jl_op ?_ (nb rfl)
              refine ow_buildSlice rfl rfl (nb rfl) rfl rfl (nb rfl) ?_
              refine jl_op (ow_append1 1 ((x)) rfl rfl rfl rfl rfl rfl rfl (fun _ => rfl) (by show (_ + _) * 24 ≤ _; first | omega | (simp only [List.length_append]; omega)) (by first | omega | (simp only [List.length_append]; omega)) (fun V2 hV2 => ?_)) (nb rfl)
              refine jl_op ?_ (nb rfl)
              refine ow_assign rfl ?_
              refine jl_nil ?_
              refine jq_block ?_
              refine jq_then ?_
              refine jc_region ?_
              refine jl_op ?_ (nb rfl)
              refine ow_move rfl ?_
              refine jl_op ?_ (nb rfl)
              refine ow_add64 rfl rfl (by omega) ?_
              refine jl_op ?_ (nb rfl)
              refine ow_assign rfl ?_
              refine jl_nil ?_
              refine jq_againS (i := (k, V, to)) (m, V2, to ++ [x]) ⟨by dsimp only; have := hal (x); omega, hm0, by dsimp only; have := hal (x); omega, hV2, hadd _ ⟨by omega, fun v hv => ?_⟩⟩ (by dsimp only; have := hal (x); omega) ?_ ?_
              · exact hx v hv
              · dsimp only
                refine sub_step 0 rfl ?_
                refine sub_step 0 rfl ?_
                exact sub_end
              · dsimp only
                rw [hal]
                (repeat (first | exact True.intro | refine ⟨rfl, ?_⟩))
          · refine jl_op ?_ (nb rfl)
            refine ow_eql rfl rfl ?_
            refine jl_op ?_ (nb rfl)
            refine ow_move rfl ?_
            refine jl_guardN rfl (by first | assumption | exact decide_eq_true rfl | exact decide_eq_true (by first | assumption | omega) | exact decide_eq_false (by first | assumption | omega) | with_reducible rfl | exact (rfl : false = !true) | exact (rfl : true = !false)) (nb rfl) ?_
            refine jl_guardN rfl (by first | assumption | exact decide_eq_true rfl | exact decide_eq_true (by first | assumption | omega) | exact decide_eq_false (by first | assumption | omega) | with_reducible rfl | exact (rfl : false = !true) | exact (rfl : true = !false)) (nb rfl) ?_
            refine jl_op ?_ (nb rfl)
            refine ow_pickF rfl (by first | assumption | exact decide_eq_true rfl | exact decide_eq_true (by first | assumption | omega) | exact decide_eq_false (by first | assumption | omega) | with_reducible rfl | exact (rfl : false = !true) | exact (rfl : true = !false)) rfl ?_
            refine jl_nil ?_
            refine jq_then ?_
            refine jc_cond rfl (fun h => by cases h) (fun _ => ?_)
            refine jc_skip ?_
            refine jq_then ?_
            refine jc_freeze 8 1 rfl rfl (by rw [hc]; simp [hb]; exact fun _ h => .inl h) ?_
            refine jc_region ?_
            refine jl_op ?_ (nb rfl)
            refine ow_move rfl ?_
            refine jl_op ?_ (nb rfl)
            refine ow_move rfl ?_
            refine jl_op ?_ (nb rfl)
            refine ow_buildSlice rfl rfl (nb rfl) rfl rfl (nb rfl) ?_
            refine jl_op (ow_append1 1 ((x)) rfl rfl rfl rfl rfl rfl rfl (fun _ => rfl) (by show (_ + _) * 24 ≤ _; first | omega | (simp only [List.length_append]; omega)) (by first | omega | (simp only [List.length_append]; omega)) (fun V2 hV2 => ?_)) (nb rfl)
            refine jl_op ?_ (nb rfl)
            refine ow_assign rfl ?_
            refine jl_nil ?_
            refine jq_block ?_
            refine jq_then ?_
            refine jc_region ?_
            refine jl_op ?_ (nb rfl)
            refine ow_move rfl ?_
            refine jl_op ?_ (nb rfl)
            refine ow_add64 rfl rfl (by omega) ?_
            refine jl_op ?_ (nb rfl)
            refine ow_assign rfl ?_
            refine jl_nil ?_
            refine jq_againS (i := (k, V, to)) (m, V2, to ++ [x]) ⟨by dsimp only; have := hal (x); omega, hm0, by dsimp only; have := hal (x); omega, hV2, hadd _ ⟨by omega, fun v hv => ?_⟩⟩ (by dsimp only; have := hal (x); omega) ?_ ?_
            · exact hx v hv
            · dsimp only
              refine sub_step 0 rfl ?_
              refine sub_step 0 rfl ?_
              exact sub_end
            · dsimp only
              rw [hal]
              (repeat (first | exact True.intro | refine ⟨rfl, ?_⟩))
    · have hl : to.length = n := by omega
      refine jc_freeze 5 0 rfl rfl (by rw [hc]; simp [hb]) ?_
      refine jc_exit ?_
      refine jq_then_exit ?_
      refine jq_then_exit ?_
      refine jq_block_exit ?_
      refine jq_then ?_
      refine jc_seq ?_
      refine jc_region ?_
      refine jl_op ?_ (nb rfl)
      refine ow_move rfl ?_
      refine jl_op ?_ (nb rfl)
      refine ow_assign rfl ?_
      refine jl_nil ?_
      refine jq_then ?_
      refine jc_ret ?_
      refine jq_ret1 rfl rfl [0] rfl (fun K h => h to ⟨hl, hok⟩)
end Go.Proofs.Ytjkkkjikhjfdnaa
