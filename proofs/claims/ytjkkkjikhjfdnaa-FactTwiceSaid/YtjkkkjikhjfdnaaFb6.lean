import Derived.Test.YtjkkkjikhjfdnaaFb5
namespace Go.Proofs.Ytjkkkjikhjfdnaa
open Go.Vc
attribute [local irreducible] JL JC JQ OpWp Con ConN
attribute [local irreducible] isSmall isBlock
set_option maxHeartbeats 4000000

theorem FactTwice_c (l : List Int) (hl : InR l) : Con Try.prog 6 [.cell (.list (l.map Irow))] [] (fun K => K (Bl true) []) := by
  refine con_intro Try.func6 rfl rfl (Nat.le_of_ble_eq_true rfl) (fun c hc => ?_)
  refine jc_seq ?_
  refine jc_region ?_
  refine jl_op ?_ (nb rfl)
  refine ow_assign rfl ?_
  refine jl_nil ?_
  refine jq_then ?_
  refine jc_seq ?_
  refine jc_seq ?_
  refine jc_region ?_
  refine jl_op ?_ (nb rfl)
  refine ow_move rfl ?_
  refine jl_op ?_ (nb rfl)
  refine ow_call0 rfl (Few_c l) ?_
  refine jl_op ?_ (nb rfl)
  refine ow_notdec rfl ?_
  refine jl_nil ?_
  refine jq_then ?_
  refine jc_cond rfl (fun hb => ?_) (fun hb => ?_)
  · refine jc_seq ?_
    refine jc_region ?_
    refine jl_op ?_ (nb rfl)
    refine ow_call0 rfl (awake_c) ?_
    refine jl_op ?_ (nb rfl)
    refine ow_assign rfl ?_
    refine jl_nil ?_
    refine jq_then ?_
    refine jc_ret ?_
    refine jq_then_ret ?_
    refine jq_ret1 rfl rfl [] rfl (fun K h => h)
  · have hLn : l.length ≤ 400 := by simpa using hb
    refine jc_skip ?_
    refine jq_then ?_
    refine jc_seq ?_
    refine jc_region ?_
    refine jl_op ?_ (nb rfl)
    refine ow_move rfl ?_
    refine jl_op (ow_call [] rfl rfl (New_c l) (fun b => ?_)) (nb rfl)
    refine jl_op ?_ (nb rfl)
    refine ow_assign rfl ?_
    refine jl_nil ?_
    refine jq_then ?_
    refine jc_seq ?_
    refine jc_region ?_
    refine jl_op ?_ (nb rfl)
    refine ow_move rfl ?_
    refine jl_op (ow_callP [0] rfl rfl (Nx_c _ hl hLn (by omega)) (fun x hx => ?_)) (nb rfl)
    refine jl_op ?_ (nb rfl)
    refine ow_add64 rfl rfl (by omega) ?_
    refine jl_op ?_ (nb rfl)
    refine ow_assign rfl ?_
    refine jl_nil ?_
    refine jq_then ?_
    refine jc_seq ?_
    refine jc_region ?_
    refine jl_op ?_ (nb rfl)
    refine ow_move rfl ?_
    refine jl_op ?_ (nb rfl)
    refine ow_move rfl ?_
    refine jl_op (ow_callP [0] rfl rfl (some_c _ (by omega) hl hLn) (fun f hf => ?_)) (nb rfl)
    refine jl_op ?_ (nb rfl)
    refine ow_move rfl ?_
    refine jl_op ?_ (nb rfl)
    refine ow_move rfl ?_
    have eN : 1 + x = ((1 + x).toNat : Int) := by omega
    refine jl_op (ow_callP [0] rfl rfl (mapsI_c _ (1 + x).toNat eN (by omega) hl hLn) (fun to hto => ?_)) (nb rfl)
    refine jl_op ?_ (nb rfl)
    refine ow_alloc rfl rfl (fun bl => ?_)
    refine jl_op0 ?_
    refine ow_storeAll 0 rfl rfl rfl rfl rfl rfl ?_
    refine jl_op ?_ (nb rfl)
    refine ow_assign rfl ?_
    refine jl_nil ?_
    refine jq_then ?_
    refine jc_seq ?_
    refine jc_region ?_
    refine jl_op ?_ (nb rfl)
    refine ow_move rfl ?_
    refine jl_op (ow_callP [1] rfl rfl (mapsI_c _ 30 rfl (by omega) hl hLn) (fun again hag => ?_)) (nb rfl)
    have hN : to.length = (1 + x).toNat := hto.len
    have hA : again.length = 30 := hag.len
    have hfT := hf.len
    have hft : ∀ t ∈ f.terms, 0 ≤ t.1 ∧ t.1 < (to.length : Int) := fun t ht => by have := (hf.t t ht).1; omega
    obtain ⟨e1, v1, m1, b1⟩ := map_ok (f := f) (to := to) (c := 3) (T := 6) (M := 12) (B := 4) hf.v (fun t ht => by have := hf.t t ht; omega) (by omega) (by omega) (fun y hy => ⟨(hto.ok y hy).1, fun z hz => by have := (hto.ok y hy).2 z hz; omega⟩) (by omega) (by omega) (by omega) (by omega) (by omega)
    have l1 := strict_len (canon_strict (mapT to f.terms)) (fun t ht => (b1 t ht).1) (by omega)
    obtain ⟨e2, v2, m2, b2⟩ := map_ok (f := ⟨canon (mapT to f.terms), f.most⟩) (to := again) (c := 3) (T := 12) (M := 60) (B := 72) v1 (fun t ht => by have := b1 t ht; omega) (by dsimp only; omega) (by omega) (fun y hy => ⟨(hag.ok y hy).1, fun z hz => by have := (hag.ok y hy).2 z hz; omega⟩) (by omega) (by omega) (by omega) (by omega) (by omega)
    have hjl : ∀ y : List Int, (joinL again y).length ≤ 3 * y.length := fun y => joinL_len (fun y hy => (hag.ok y hy).1) y
    have hboth : ∀ y ∈ to.map (joinL again), y.length ≤ 9 ∧ ∀ z ∈ y, 0 ≤ z ∧ z < 60 := fun y hy => by
      obtain ⟨w, hw, rfl⟩ := List.mem_map.1 hy
      refine ⟨by have := hjl w; have := (hto.ok w hw).1; omega, fun z hz => ?_⟩
      obtain ⟨u, hu, hzu⟩ := joinL_mem hz
      have := (hag.ok u hu).2 z hzu
      omega
    have hbl : (to.map (joinL again)).length = to.length := List.length_map _
    obtain ⟨e3, v3, m3, b3⟩ := map_ok (f := f) (to := to.map (joinL again)) (c := 9) (T := 6) (M := 60) (B := 4) hf.v (fun t ht => by have := hf.t t ht; omega) (by omega) (by omega) hboth (by omega) (by omega) (by omega) (by omega) (by omega)
    have eq : canon (mapT again (canon (mapT to f.terms))) = canon (mapT (to.map (joinL again)) f.terms) := canon_eq (fun i => by
      rw [cof_mapT, lin_canon _ (fun t ht => by have := m1 t ht; omega), ← cof_mapT, mapT_twice to again hft])
    have eP : pointsF to again = (to.map (joinL again), 0) := by
      have h1 : to.any (fun l => l.any (outI again)) = false := List.any_eq_false.2 (fun y hy => by
        rw [Bool.not_eq_true, List.any_eq_false]
        intro z hz
        have := (hto.ok y hy).2 z hz
        unfold outI
        rw [decide_eq_false (by omega)]
        decide)
      have h2 : to.any (longJ again) = false := List.any_eq_false.2 (fun y hy => by
        have := hjl y
        have := (hto.ok y hy).1
        unfold longJ
        rw [decide_eq_false (by omega)]
        decide)
      unfold pointsF
      rw [mapped_ok (by omega) (fun y hy => ⟨by have := (hto.ok y hy).1; omega, fun z hz => by have := (hto.ok y hy).2 z hz; omega⟩), mapped_ok (by omega) (fun y hy => ⟨by have := (hag.ok y hy).1; omega, fun z hz => by have := (hag.ok y hy).2 z hz; omega⟩), if_neg (by decide), h1, if_neg (by decide), h2, if_neg (by decide)]
    have c1 := Map_c f to
    rw [e1] at c1
    have c2 := Map_c ⟨canon (mapT to f.terms), f.most⟩ again
    rw [e2] at c2
    dsimp only at c2
    rw [eq] at c2
    have c3 := Map_c f (to.map (joinL again))
    rw [e3] at c3
    have cP := Points_c to again
    rw [eP] at cP
    have cS := Same_c ⟨canon (mapT (to.map (joinL again)) f.terms), f.most⟩ ⟨canon (mapT (to.map (joinL again)) f.terms), f.most⟩
    rw [show sameF ⟨canon (mapT (to.map (joinL again)) f.terms), f.most⟩ ⟨canon (mapT (to.map (joinL again)) f.terms), f.most⟩ = true from decide_eq_true ⟨rfl, rfl⟩] at cS
    generalize canon (mapT (to.map (joinL again)) f.terms) = g at c2 c3 cS
    generalize canon (mapT to f.terms) = g1 at c1 c2
    generalize to.map (joinL again) = both at c3 cP
    refine jl_op ?_ (nb rfl)
    refine ow_assign rfl ?_
    refine jl_nil ?_
    refine jq_then ?_
    refine jc_seq ?_
    refine jc_region ?_
    refine jl_op ?_ (nb rfl)
    refine ow_loadAll 1 rfl rfl rfl rfl ?_
    refine jl_op ?_ (nb rfl)
    refine ow_move rfl ?_
    refine jl_op ?_ (nb rfl)
    refine ow_call0 rfl (c1) ?_
    refine jl_op ?_ (nb rfl)
    refine ow_move rfl ?_
    refine jl_op ?_ (nb rfl)
    refine ow_extract rfl rfl ?_
    refine jl_op ?_ (nb rfl)
    refine ow_extract rfl rfl ?_
    refine jl_op ?_ (nb rfl)
    refine ow_alloc rfl rfl (fun bl => ?_)
    refine jl_op0 ?_
    refine ow_storeAll 0 rfl rfl rfl rfl rfl rfl ?_
    refine jl_op ?_ (nb rfl)
    refine ow_assign rfl ?_
    refine jl_nil ?_
    refine jq_then ?_
    refine jc_seq ?_
    refine jc_region ?_
    refine jl_op ?_ (nb rfl)
    refine ow_loadAll 0 rfl rfl rfl rfl ?_
    refine jl_op ?_ (nb rfl)
    refine ow_move rfl ?_
    refine jl_op ?_ (nb rfl)
    refine ow_call0 rfl (c2) ?_
    refine jl_op ?_ (nb rfl)
    refine ow_move rfl ?_
    refine jl_op ?_ (nb rfl)
    refine ow_extract rfl rfl ?_
    refine jl_op ?_ (nb rfl)
    refine ow_extract rfl rfl ?_
    refine jl_op0 ?_
    refine ow_storeAll 0 rfl rfl rfl rfl rfl rfl ?_
    refine jl_op ?_ (nb rfl)
    refine ow_assign rfl ?_
    refine jl_nil ?_
    refine jq_then ?_
    refine jc_seq ?_
    refine jc_region ?_
    refine jl_op ?_ (nb rfl)
    refine ow_move rfl ?_
    refine jl_op ?_ (nb rfl)
    refine ow_move rfl ?_
    refine jl_op ?_ (nb rfl)
    refine ow_call0 rfl (cP) ?_
    refine jl_op ?_ (nb rfl)
    refine ow_move rfl ?_
    refine jl_op ?_ (nb rfl)
    refine ow_extract rfl rfl ?_
    refine jl_op ?_ (nb rfl)
    refine ow_extract rfl rfl ?_
    refine jl_op ?_ (nb rfl)
    refine ow_assign rfl ?_
    refine jl_op ?_ (nb rfl)
    refine ow_assign rfl ?_
    refine jl_nil ?_
    refine jq_then ?_
    refine jc_seq ?_
    refine jc_region ?_
    refine jl_op ?_ (nb rfl)
    refine ow_loadAll 2 rfl rfl rfl rfl ?_
    refine jl_op ?_ (nb rfl)
    refine ow_move rfl ?_
    refine jl_op ?_ (nb rfl)
    refine ow_call0 rfl (c3) ?_
    refine jl_op ?_ (nb rfl)
    refine ow_move rfl ?_
    refine jl_op ?_ (nb rfl)
    refine ow_extract rfl rfl ?_
    refine jl_op ?_ (nb rfl)
    refine ow_extract rfl rfl ?_
    refine jl_op ?_ (nb rfl)
    refine ow_alloc rfl rfl (fun bl => ?_)
    refine jl_op0 ?_
    refine ow_storeAll 0 rfl rfl rfl rfl rfl rfl ?_
    refine jl_op ?_ (nb rfl)
    refine ow_assign rfl ?_
    refine jl_nil ?_
    refine jq_then ?_
    refine jc_seq ?_
    refine jc_region ?_
    refine jl_op ?_ (nb rfl)
    refine ow_move rfl ?_
    refine jl_op ?_ (nb rfl)
    refine ow_eql rfl rfl ?_
    refine jl_op ?_ (nb rfl)
    refine ow_move rfl ?_
    refine jl_guardY rfl (by first | assumption | exact decide_eq_true rfl | exact decide_eq_true (by first | assumption | omega) | exact decide_eq_false (by first | assumption | omega) | with_reducible rfl | exact (rfl : false = !true) | exact (rfl : true = !false)) (nb rfl) ?_
    refine ow_move rfl ?_
    refine jl_guardY rfl (by first | assumption | exact decide_eq_true rfl | exact decide_eq_true (by first | assumption | omega) | exact decide_eq_false (by first | assumption | omega) | with_reducible rfl | exact (rfl : false = !true) | exact (rfl : true = !false)) (nb rfl) ?_
    refine ow_eql rfl rfl ?_
    refine jl_op ?_ (nb rfl)
    refine ow_pickT rfl (by first | assumption | exact decide_eq_true rfl | exact decide_eq_true (by first | assumption | omega) | exact decide_eq_false (by first | assumption | omega) | with_reducible rfl | exact (rfl : false = !true) | exact (rfl : true = !false)) rfl ?_
    refine jl_op ?_ (nb rfl)
    refine ow_move rfl ?_
    refine jl_guardY rfl (by first | assumption | exact decide_eq_true rfl | exact decide_eq_true (by first | assumption | omega) | exact decide_eq_false (by first | assumption | omega) | with_reducible rfl | exact (rfl : false = !true) | exact (rfl : true = !false)) (nb rfl) ?_
    refine ow_move rfl ?_
    refine jl_guardY rfl (by first | assumption | exact decide_eq_true rfl | exact decide_eq_true (by first | assumption | omega) | exact decide_eq_false (by first | assumption | omega) | with_reducible rfl | exact (rfl : false = !true) | exact (rfl : true = !false)) (nb rfl) ?_
    refine ow_eql rfl rfl ?_
    refine jl_op ?_ (nb rfl)
    refine ow_pickT rfl (by first | assumption | exact decide_eq_true rfl | exact decide_eq_true (by first | assumption | omega) | exact decide_eq_false (by first | assumption | omega) | with_reducible rfl | exact (rfl : false = !true) | exact (rfl : true = !false)) rfl ?_
    refine jl_op ?_ (nb rfl)
    refine ow_move rfl ?_
    refine jl_guardY rfl (by first | assumption | exact decide_eq_true rfl | exact decide_eq_true (by first | assumption | omega) | exact decide_eq_false (by first | assumption | omega) | with_reducible rfl | exact (rfl : false = !true) | exact (rfl : true = !false)) (nb rfl) ?_
    refine ow_move rfl ?_
    refine jl_guardY rfl (by first | assumption | exact decide_eq_true rfl | exact decide_eq_true (by first | assumption | omega) | exact decide_eq_false (by first | assumption | omega) | with_reducible rfl | exact (rfl : false = !true) | exact (rfl : true = !false)) (nb rfl) ?_
    refine ow_eql rfl rfl ?_
    refine jl_op ?_ (nb rfl)
    refine ow_pickT rfl (by first | assumption | exact decide_eq_true rfl | exact decide_eq_true (by first | assumption | omega) | exact decide_eq_false (by first | assumption | omega) | with_reducible rfl | exact (rfl : false = !true) | exact (rfl : true = !false)) rfl ?_
    refine jl_op ?_ (nb rfl)
    refine ow_move rfl ?_
    refine jl_guardY rfl (by first | assumption | exact decide_eq_true rfl | exact decide_eq_true (by first | assumption | omega) | exact decide_eq_false (by first | assumption | omega) | with_reducible rfl | exact (rfl : false = !true) | exact (rfl : true = !false)) (nb rfl) ?_
    refine ow_loadAll 1 rfl rfl rfl rfl ?_
    refine jl_guardY rfl (by first | assumption | exact decide_eq_true rfl | exact decide_eq_true (by first | assumption | omega) | exact decide_eq_false (by first | assumption | omega) | with_reducible rfl | exact (rfl : false = !true) | exact (rfl : true = !false)) (nb rfl) ?_
    refine ow_loadAll 0 rfl rfl rfl rfl ?_
    refine jl_guardY rfl (by first | assumption | exact decide_eq_true rfl | exact decide_eq_true (by first | assumption | omega) | exact decide_eq_false (by first | assumption | omega) | with_reducible rfl | exact (rfl : false = !true) | exact (rfl : true = !false)) (nb rfl) ?_
    refine ow_call0 rfl (cS) ?_
    refine jl_op ?_ (nb rfl)
    refine ow_pickT rfl (by first | assumption | exact decide_eq_true rfl | exact decide_eq_true (by first | assumption | omega) | exact decide_eq_false (by first | assumption | omega) | with_reducible rfl | exact (rfl : false = !true) | exact (rfl : true = !false)) rfl ?_
    refine jl_op ?_ (nb rfl)
    refine ow_move rfl ?_
    refine jl_guardY rfl (by first | assumption | exact decide_eq_true rfl | exact decide_eq_true (by first | assumption | omega) | exact decide_eq_false (by first | assumption | omega) | with_reducible rfl | exact (rfl : false = !true) | exact (rfl : true = !false)) (nb rfl) ?_
    refine ow_call0 rfl (awake_c) ?_
    refine jl_op ?_ (nb rfl)
    refine ow_pickT rfl (by first | assumption | exact decide_eq_true rfl | exact decide_eq_true (by first | assumption | omega) | exact decide_eq_false (by first | assumption | omega) | with_reducible rfl | exact (rfl : false = !true) | exact (rfl : true = !false)) rfl ?_
    refine jl_op ?_ (nb rfl)
    refine ow_assign rfl ?_
    refine jl_nil ?_
    refine jq_then ?_
    refine jc_ret ?_
    refine jq_ret1 rfl rfl [] rfl (fun K h => h)
end Go.Proofs.Ytjkkkjikhjfdnaa
