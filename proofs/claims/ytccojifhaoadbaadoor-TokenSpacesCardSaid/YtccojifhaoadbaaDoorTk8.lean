import Derived.Test.YtccojifhaoadbaaDoorTk7
namespace Go.Proofs.YtccojifhaoadbaaDoor
open Go.Vc
attribute [local irreducible] JL JC JQ OpWp Con ConN
set_option maxHeartbeats 4000000

/-- Whether two tokens are alike (their lines too, if ln is true). -/
def sameTok (ln : Bool) (a b : Tok) : Bool := decide (a.kind = b.kind) && decide (a.num = b.num) && decide (a.text = b.text) && (!ln || decide (a.line = b.line))
def sameL (ln : Bool) (l m : List Tok) : Bool := decide (l.length = m.length) && (l.zip m).all (fun p => sameTok ln p.1 p.2)
theorem sameL_no {ln : Bool} {l m : List Tok} (h : l.length = m.length) (k : Nat) (h1 : k < l.length) (h2 : k < m.length) (hf : sameTok ln l[k] m[k] = false) : sameL ln l m = false := by
  unfold sameL
  rw [decide_eq_true h, Bool.true_and]
  refine Bool.eq_false_iff.2 (fun ha => ?_)
  have := List.all_eq_true.1 ha (l[k], m[k]) (List.mem_iff_getElem.2 ⟨k, by simp; omega, by simp⟩)
  rw [hf] at this
  cases this
theorem sameL_yes {ln : Bool} {l m : List Tok} (h : l.length = m.length) (hall : ∀ j (h1 : j < l.length) (h2 : j < m.length), sameTok ln l[j] m[j] = true) : sameL ln l m = true := by
  unfold sameL
  rw [decide_eq_true h, Bool.true_and, List.all_eq_true]
  intro p hp
  obtain ⟨j, hj, rfl⟩ := List.mem_iff_getElem.1 hp
  simp only [List.length_zip] at hj
  rw [List.getElem_zip]
  exact hall j (by omega) (by omega)
theorem Same_c (l m : List Tok) (ln : Bool) : Con Tryd.prog 10 [.cell (.list (l.map Tok.row)), .cell (.list (m.map Tok.row)), Bl ln] [] (fun K => K (Bl (sameL ln l m)) []) := by
  have eL : (l.map Tok.row).length = l.length := List.length_map _
  have eM : (m.map Tok.row).length = m.length := List.length_map _
  refine con_intro Tryd.func10 rfl rfl (Nat.le_of_ble_eq_true rfl) (fun c hc => ?_)
  refine jc_seq ?_
  refine jc_region ?_
  refine jl_op ?_ (nb rfl)
  refine ow_assign rfl ?_
  refine jl_nil ?_
  refine jq_then ?_
  refine jc_seq ?_
  refine jc_seq ?_
  refine jc_region ?_
  refine jl_op ?_ (nb rfl)
  refine ow_move rfl ?_
  refine jl_op ?_ (nb rfl)
  refine ow_len rfl (fun hlen => ?_)
  refine jl_op ?_ (nb rfl)
  refine ow_move rfl ?_
  refine jl_op ?_ (nb rfl)
  refine ow_len rfl (fun hlen => ?_)
  refine jl_op ?_ (nb rfl)
  refine ow_neq rfl rfl ?_
  refine jl_nil ?_
  refine jq_then ?_
  refine jc_condd rfl (fun hne => ?_) (fun heq => ?_)
  · refine jc_seq ?_
    refine jc_region ?_
    refine jl_op ?_ (nb rfl)
    refine ow_assign rfl ?_
    refine jl_nil ?_
    refine jq_then ?_
    refine jc_ret ?_
    refine jq_then_ret ?_
    have e : sameL ln l m = false := by unfold sameL; rw [decide_eq_false (by omega), Bool.false_and]
    refine jq_ret1 rfl rfl [] rfl (fun K h => by rw [e] at h; exact h)
  · have hlen2 : l.length = m.length := by omega
    refine jc_skip ?_
    refine jq_then ?_
    refine jc_seq ?_
    refine jc_seq ?_
    refine jc_region ?_
    refine jl_op ?_ (nb rfl)
    refine ow_assign rfl ?_
    refine jl_nil ?_
    refine jq_then ?_
    refine jc_block ?_
    refine jc_loopS [] (fun k : Nat => k ≤ l.length ∧ ∀ j (h1 : j < l.length) (h2 : j < m.length), j < k → sameTok ln l[j] m[j] = true) (fun k => [(0, .cell (.list (l.map Tok.row))), (1, .cell (.list (m.map Tok.row))), (2, Bl ln), (7, In .i64 (k : Int))]) (fun _ => []) (fun k => l.length - k) 0 ⟨Nat.zero_le _, fun j _ _ h => by omega⟩ ?_ ?_ ?_
    · exact sub_end
    · (repeat (first | exact True.intro | refine ⟨rfl, ?_⟩))
    · rintro k ⟨hk, hall⟩
      refine jc_reset [(0, .cell (.list (l.map Tok.row))), (1, .cell (.list (m.map Tok.row))), (2, Bl ln), (7, In .i64 (k : Int))] [] ?_ ⟨[], [], rfl⟩ ?_
      · (repeat (first | exact True.intro | refine ⟨rfl, ?_⟩))
      refine jc_seq ?_
      refine jc_seq ?_
      refine jc_region ?_
      refine jl_op ?_ (nb rfl)
      refine ow_move rfl ?_
      refine jl_op ?_ (nb rfl)
      refine ow_move rfl ?_
      refine jl_op ?_ (nb rfl)
      refine ow_len rfl (fun hlen => ?_)
      refine jl_op ?_ (nb rfl)
      refine ow_lss rfl rfl ?_
      refine jl_nil ?_
      refine jq_then ?_
      refine jc_condd rfl (fun hlt => ?_) (fun hge => ?_)
      · have hlt' : k < l.length := by omega
        have hlt2 : k < m.length := by omega
        by_cases hk1 : l[k].kind = m[k].kind
        · have hk1n : ¬ ¬ l[k].kind = m[k].kind := fun h => h hk1
          by_cases hk2 : l[k].num = m[k].num
          · have hk2n : ¬ ¬ l[k].num = m[k].num := fun h => h hk2
            by_cases hk3 : l[k].text = m[k].text
            · have hk3n : ¬ ¬ l[k].text = m[k].text := fun h => h hk3
              cases ln with
              | false =>
                have ht : sameTok false l[k] m[k] = true := by
                  unfold sameTok
                  rw [decide_eq_true hk1, decide_eq_true hk2, decide_eq_true hk3]
                  rfl
                refine jc_skip ?_
                refine jq_then ?_
                refine jc_seq ?_
                refine jc_block ?_
                refine jc_seq ?_
                refine jc_any rfl rfl (by kernel_rfl) (by kernel_rfl) ?_
                refine any_op (fun c => ow_move rfl ⟨rfl, List.Perm.refl _⟩) ?_
                refine any_op (fun c => ow_move rfl ⟨rfl, List.Perm.refl _⟩) ?_
                refine any_op (fun c => ow_indexAddrMapE rfl rfl (by omega) rfl rfl (nb rfl) ⟨rfl, List.Perm.refl _⟩) ?_
                refine any_op (fun c => ow_fieldAddrPlace rfl rfl rfl (nb rfl) rfl (nb rfl) ⟨rfl, List.Perm.refl _⟩) ?_
                refine any_op (fun c => ow_loadPlace rfl rfl ⟨rfl, List.Perm.refl _⟩) ?_
                refine any_op (fun c => ow_move rfl ⟨rfl, List.Perm.refl _⟩) ?_
                refine any_op (fun c => ow_move rfl ⟨rfl, List.Perm.refl _⟩) ?_
                refine any_op (fun c => ow_indexAddrMapE rfl rfl (by omega) rfl rfl (nb rfl) ⟨rfl, List.Perm.refl _⟩) ?_
                refine any_op (fun c => ow_fieldAddrPlace rfl rfl rfl (nb rfl) rfl (nb rfl) ⟨rfl, List.Perm.refl _⟩) ?_
                refine any_op (fun c => ow_loadPlace rfl rfl ⟨rfl, List.Perm.refl _⟩) ?_
                refine any_op (fun c => ow_neq rfl rfl ⟨rfl, List.Perm.refl _⟩) ?_
                refine any_op (fun c => ow_move rfl ⟨rfl, List.Perm.refl _⟩) ?_
                refine any_guardY rfl (by first | assumption | exact decide_eq_true (by first | assumption | omega) | exact decide_eq_false (by first | assumption | omega) | with_reducible rfl | exact (rfl : false = !true) | exact (rfl : true = !false)) (fun c => ow_move rfl ⟨rfl, List.Perm.refl _⟩) ?_
                refine any_guardY rfl (by first | assumption | exact decide_eq_true (by first | assumption | omega) | exact decide_eq_false (by first | assumption | omega) | with_reducible rfl | exact (rfl : false = !true) | exact (rfl : true = !false)) (fun c => ow_move rfl ⟨rfl, List.Perm.refl _⟩) ?_
                refine any_guardY rfl (by first | assumption | exact decide_eq_true (by first | assumption | omega) | exact decide_eq_false (by first | assumption | omega) | with_reducible rfl | exact (rfl : false = !true) | exact (rfl : true = !false)) (fun c => ow_indexAddrMapE rfl rfl (by omega) rfl rfl (nb rfl) ⟨rfl, List.Perm.refl _⟩) ?_
                refine any_guardY rfl (by first | assumption | exact decide_eq_true (by first | assumption | omega) | exact decide_eq_false (by first | assumption | omega) | with_reducible rfl | exact (rfl : false = !true) | exact (rfl : true = !false)) (fun c => ow_fieldAddrPlace rfl rfl rfl (nb rfl) rfl (nb rfl) ⟨rfl, List.Perm.refl _⟩) ?_
                refine any_guardY rfl (by first | assumption | exact decide_eq_true (by first | assumption | omega) | exact decide_eq_false (by first | assumption | omega) | with_reducible rfl | exact (rfl : false = !true) | exact (rfl : true = !false)) (fun c => ow_loadPlace rfl rfl ⟨rfl, List.Perm.refl _⟩) ?_
                refine any_guardY rfl (by first | assumption | exact decide_eq_true (by first | assumption | omega) | exact decide_eq_false (by first | assumption | omega) | with_reducible rfl | exact (rfl : false = !true) | exact (rfl : true = !false)) (fun c => ow_move rfl ⟨rfl, List.Perm.refl _⟩) ?_
                refine any_guardY rfl (by first | assumption | exact decide_eq_true (by first | assumption | omega) | exact decide_eq_false (by first | assumption | omega) | with_reducible rfl | exact (rfl : false = !true) | exact (rfl : true = !false)) (fun c => ow_move rfl ⟨rfl, List.Perm.refl _⟩) ?_
                refine any_guardY rfl (by first | assumption | exact decide_eq_true (by first | assumption | omega) | exact decide_eq_false (by first | assumption | omega) | with_reducible rfl | exact (rfl : false = !true) | exact (rfl : true = !false)) (fun c => ow_indexAddrMapE rfl rfl (by omega) rfl rfl (nb rfl) ⟨rfl, List.Perm.refl _⟩) ?_
                refine any_guardY rfl (by first | assumption | exact decide_eq_true (by first | assumption | omega) | exact decide_eq_false (by first | assumption | omega) | with_reducible rfl | exact (rfl : false = !true) | exact (rfl : true = !false)) (fun c => ow_fieldAddrPlace rfl rfl rfl (nb rfl) rfl (nb rfl) ⟨rfl, List.Perm.refl _⟩) ?_
                refine any_guardY rfl (by first | assumption | exact decide_eq_true (by first | assumption | omega) | exact decide_eq_false (by first | assumption | omega) | with_reducible rfl | exact (rfl : false = !true) | exact (rfl : true = !false)) (fun c => ow_loadPlace rfl rfl ⟨rfl, List.Perm.refl _⟩) ?_
                refine any_guardY rfl (by first | assumption | exact decide_eq_true (by first | assumption | omega) | exact decide_eq_false (by first | assumption | omega) | with_reducible rfl | exact (rfl : false = !true) | exact (rfl : true = !false)) (fun c => ow_neq rfl rfl ⟨rfl, List.Perm.refl _⟩) ?_
                refine any_op (fun c => ow_pickF rfl (by first | assumption | exact decide_eq_true (by first | assumption | omega) | exact decide_eq_false (by first | assumption | omega) | with_reducible rfl | exact (rfl : false = !true) | exact (rfl : true = !false)) rfl ⟨rfl, List.Perm.refl _⟩) ?_
                refine any_op (fun c => ow_move rfl ⟨rfl, List.Perm.refl _⟩) ?_
                refine any_guardY rfl (by first | assumption | exact decide_eq_true (by first | assumption | omega) | exact decide_eq_false (by first | assumption | omega) | with_reducible rfl | exact (rfl : false = !true) | exact (rfl : true = !false)) (fun c => ow_move rfl ⟨rfl, List.Perm.refl _⟩) ?_
                refine any_guardY rfl (by first | assumption | exact decide_eq_true (by first | assumption | omega) | exact decide_eq_false (by first | assumption | omega) | with_reducible rfl | exact (rfl : false = !true) | exact (rfl : true = !false)) (fun c => ow_move rfl ⟨rfl, List.Perm.refl _⟩) ?_
                refine any_guardY rfl (by first | assumption | exact decide_eq_true (by first | assumption | omega) | exact decide_eq_false (by first | assumption | omega) | with_reducible rfl | exact (rfl : false = !true) | exact (rfl : true = !false)) (fun c => ow_indexAddrMapE rfl rfl (by omega) rfl rfl (nb rfl) ⟨rfl, List.Perm.refl _⟩) ?_
                refine any_guardY rfl (by first | assumption | exact decide_eq_true (by first | assumption | omega) | exact decide_eq_false (by first | assumption | omega) | with_reducible rfl | exact (rfl : false = !true) | exact (rfl : true = !false)) (fun c => ow_fieldAddrPlace rfl rfl rfl (nb rfl) rfl (nb rfl) ⟨rfl, List.Perm.refl _⟩) ?_
                refine any_guardY rfl (by first | assumption | exact decide_eq_true (by first | assumption | omega) | exact decide_eq_false (by first | assumption | omega) | with_reducible rfl | exact (rfl : false = !true) | exact (rfl : true = !false)) (fun c => ow_loadPlace rfl rfl ⟨rfl, List.Perm.refl _⟩) ?_
                refine any_guardY rfl (by first | assumption | exact decide_eq_true (by first | assumption | omega) | exact decide_eq_false (by first | assumption | omega) | with_reducible rfl | exact (rfl : false = !true) | exact (rfl : true = !false)) (fun c => ow_move rfl ⟨rfl, List.Perm.refl _⟩) ?_
                refine any_guardY rfl (by first | assumption | exact decide_eq_true (by first | assumption | omega) | exact decide_eq_false (by first | assumption | omega) | with_reducible rfl | exact (rfl : false = !true) | exact (rfl : true = !false)) (fun c => ow_move rfl ⟨rfl, List.Perm.refl _⟩) ?_
                refine any_guardY rfl (by first | assumption | exact decide_eq_true (by first | assumption | omega) | exact decide_eq_false (by first | assumption | omega) | with_reducible rfl | exact (rfl : false = !true) | exact (rfl : true = !false)) (fun c => ow_indexAddrMapE rfl rfl (by omega) rfl rfl (nb rfl) ⟨rfl, List.Perm.refl _⟩) ?_
                refine any_guardY rfl (by first | assumption | exact decide_eq_true (by first | assumption | omega) | exact decide_eq_false (by first | assumption | omega) | with_reducible rfl | exact (rfl : false = !true) | exact (rfl : true = !false)) (fun c => ow_fieldAddrPlace rfl rfl rfl (nb rfl) rfl (nb rfl) ⟨rfl, List.Perm.refl _⟩) ?_
                refine any_guardY rfl (by first | assumption | exact decide_eq_true (by first | assumption | omega) | exact decide_eq_false (by first | assumption | omega) | with_reducible rfl | exact (rfl : false = !true) | exact (rfl : true = !false)) (fun c => ow_loadPlace rfl rfl ⟨rfl, List.Perm.refl _⟩) ?_
                refine any_guardY rfl (by first | assumption | exact decide_eq_true (by first | assumption | omega) | exact decide_eq_false (by first | assumption | omega) | with_reducible rfl | exact (rfl : false = !true) | exact (rfl : true = !false)) (fun c => ow_strneq rfl rfl ⟨rfl, List.Perm.refl _⟩) ?_
                refine any_op (fun c => ow_pickF rfl (by first | assumption | exact decide_eq_true (by first | assumption | omega) | exact decide_eq_false (by first | assumption | omega) | with_reducible rfl | exact (rfl : false = !true) | exact (rfl : true = !false)) rfl ⟨rfl, List.Perm.refl _⟩) ?_
                refine any_op (fun c => ow_move rfl ⟨rfl, List.Perm.refl _⟩) ?_
                refine any_guardY rfl (by first | assumption | exact decide_eq_true (by first | assumption | omega) | exact decide_eq_false (by first | assumption | omega) | with_reducible rfl | exact (rfl : false = !true) | exact (rfl : true = !false)) (fun c => ow_move rfl ⟨rfl, List.Perm.refl _⟩) ?_
                refine any_guardY rfl (by first | assumption | exact decide_eq_true (by first | assumption | omega) | exact decide_eq_false (by first | assumption | omega) | with_reducible rfl | exact (rfl : false = !true) | exact (rfl : true = !false)) (fun c => ow_move rfl ⟨rfl, List.Perm.refl _⟩) ?_
                refine any_guardN rfl (by first | assumption | exact decide_eq_true (by first | assumption | omega) | exact decide_eq_false (by first | assumption | omega) | with_reducible rfl | exact (rfl : false = !true) | exact (rfl : true = !false)) ?_
                refine any_guardN rfl (by first | assumption | exact decide_eq_true (by first | assumption | omega) | exact decide_eq_false (by first | assumption | omega) | with_reducible rfl | exact (rfl : false = !true) | exact (rfl : true = !false)) ?_
                refine any_guardN rfl (by first | assumption | exact decide_eq_true (by first | assumption | omega) | exact decide_eq_false (by first | assumption | omega) | with_reducible rfl | exact (rfl : false = !true) | exact (rfl : true = !false)) ?_
                refine any_guardN rfl (by first | assumption | exact decide_eq_true (by first | assumption | omega) | exact decide_eq_false (by first | assumption | omega) | with_reducible rfl | exact (rfl : false = !true) | exact (rfl : true = !false)) ?_
                refine any_guardN rfl (by first | assumption | exact decide_eq_true (by first | assumption | omega) | exact decide_eq_false (by first | assumption | omega) | with_reducible rfl | exact (rfl : false = !true) | exact (rfl : true = !false)) ?_
                refine any_guardN rfl (by first | assumption | exact decide_eq_true (by first | assumption | omega) | exact decide_eq_false (by first | assumption | omega) | with_reducible rfl | exact (rfl : false = !true) | exact (rfl : true = !false)) ?_
                refine any_guardN rfl (by first | assumption | exact decide_eq_true (by first | assumption | omega) | exact decide_eq_false (by first | assumption | omega) | with_reducible rfl | exact (rfl : false = !true) | exact (rfl : true = !false)) ?_
                refine any_guardN rfl (by first | assumption | exact decide_eq_true (by first | assumption | omega) | exact decide_eq_false (by first | assumption | omega) | with_reducible rfl | exact (rfl : false = !true) | exact (rfl : true = !false)) ?_
                refine any_guardN rfl (by first | assumption | exact decide_eq_true (by first | assumption | omega) | exact decide_eq_false (by first | assumption | omega) | with_reducible rfl | exact (rfl : false = !true) | exact (rfl : true = !false)) ?_
                refine any_guardN rfl (by first | assumption | exact decide_eq_true (by first | assumption | omega) | exact decide_eq_false (by first | assumption | omega) | with_reducible rfl | exact (rfl : false = !true) | exact (rfl : true = !false)) ?_
                refine any_guardN rfl (by first | assumption | exact decide_eq_true (by first | assumption | omega) | exact decide_eq_false (by first | assumption | omega) | with_reducible rfl | exact (rfl : false = !true) | exact (rfl : true = !false)) ?_
                refine any_guardY rfl (by first | assumption | exact decide_eq_true (by first | assumption | omega) | exact decide_eq_false (by first | assumption | omega) | with_reducible rfl | exact (rfl : false = !true) | exact (rfl : true = !false)) (fun c => ow_pickF rfl (by first | assumption | exact decide_eq_true (by first | assumption | omega) | exact decide_eq_false (by first | assumption | omega) | with_reducible rfl | exact (rfl : false = !true) | exact (rfl : true = !false)) rfl ⟨rfl, List.Perm.refl _⟩) ?_
                refine any_op (fun c => ow_pickF rfl (by first | assumption | exact decide_eq_true (by first | assumption | omega) | exact decide_eq_false (by first | assumption | omega) | with_reducible rfl | exact (rfl : false = !true) | exact (rfl : true = !false)) rfl ⟨rfl, List.Perm.refl _⟩) ?_
                refine any_nil ?_
                refine jq_then ?_
                refine jc_cond rfl (fun h => by cases h) (fun _ => ?_)
                refine jc_skip ?_
                refine jq_block ?_
                refine jq_then ?_
                refine jc_region ?_
                refine jl_op ?_ (nb rfl)
                refine ow_move rfl ?_
                refine jl_op ?_ (nb rfl)
                refine ow_add64 rfl rfl (by omega) ?_
                refine jl_op ?_ (nb rfl)
                refine ow_assign rfl ?_
                refine jl_nil ?_
                refine jq_againS (k + 1) ⟨by omega, fun j h1 h2 hj => ?_⟩ (by omega) ?_ ?_
                · by_cases hjk : j < k
                  · exact hall j h1 h2 hjk
                  · obtain rfl : j = k := by omega
                    exact ht
                · exact sub_end
                · (repeat (first | exact True.intro | refine ⟨rfl, ?_⟩))
              | true =>
                by_cases hk4 : l[k].line = m[k].line
                · have hk4n : ¬ ¬ l[k].line = m[k].line := fun h => h hk4
                  have ht : sameTok true l[k] m[k] = true := by
                    unfold sameTok
                    rw [decide_eq_true hk1, decide_eq_true hk2, decide_eq_true hk3, decide_eq_true hk4]
                    rfl
                  refine jc_skip ?_
                  refine jq_then ?_
                  refine jc_seq ?_
                  refine jc_block ?_
                  refine jc_seq ?_
                  refine jc_any rfl rfl (by kernel_rfl) (by kernel_rfl) ?_
                  refine any_op (fun c => ow_move rfl ⟨rfl, List.Perm.refl _⟩) ?_
                  refine any_op (fun c => ow_move rfl ⟨rfl, List.Perm.refl _⟩) ?_
                  refine any_op (fun c => ow_indexAddrMapE rfl rfl (by omega) rfl rfl (nb rfl) ⟨rfl, List.Perm.refl _⟩) ?_
                  refine any_op (fun c => ow_fieldAddrPlace rfl rfl rfl (nb rfl) rfl (nb rfl) ⟨rfl, List.Perm.refl _⟩) ?_
                  refine any_op (fun c => ow_loadPlace rfl rfl ⟨rfl, List.Perm.refl _⟩) ?_
                  refine any_op (fun c => ow_move rfl ⟨rfl, List.Perm.refl _⟩) ?_
                  refine any_op (fun c => ow_move rfl ⟨rfl, List.Perm.refl _⟩) ?_
                  refine any_op (fun c => ow_indexAddrMapE rfl rfl (by omega) rfl rfl (nb rfl) ⟨rfl, List.Perm.refl _⟩) ?_
                  refine any_op (fun c => ow_fieldAddrPlace rfl rfl rfl (nb rfl) rfl (nb rfl) ⟨rfl, List.Perm.refl _⟩) ?_
                  refine any_op (fun c => ow_loadPlace rfl rfl ⟨rfl, List.Perm.refl _⟩) ?_
                  refine any_op (fun c => ow_neq rfl rfl ⟨rfl, List.Perm.refl _⟩) ?_
                  refine any_op (fun c => ow_move rfl ⟨rfl, List.Perm.refl _⟩) ?_
                  refine any_guardY rfl (by first | assumption | exact decide_eq_true (by first | assumption | omega) | exact decide_eq_false (by first | assumption | omega) | with_reducible rfl | exact (rfl : false = !true) | exact (rfl : true = !false)) (fun c => ow_move rfl ⟨rfl, List.Perm.refl _⟩) ?_
                  refine any_guardY rfl (by first | assumption | exact decide_eq_true (by first | assumption | omega) | exact decide_eq_false (by first | assumption | omega) | with_reducible rfl | exact (rfl : false = !true) | exact (rfl : true = !false)) (fun c => ow_move rfl ⟨rfl, List.Perm.refl _⟩) ?_
                  refine any_guardY rfl (by first | assumption | exact decide_eq_true (by first | assumption | omega) | exact decide_eq_false (by first | assumption | omega) | with_reducible rfl | exact (rfl : false = !true) | exact (rfl : true = !false)) (fun c => ow_indexAddrMapE rfl rfl (by omega) rfl rfl (nb rfl) ⟨rfl, List.Perm.refl _⟩) ?_
                  refine any_guardY rfl (by first | assumption | exact decide_eq_true (by first | assumption | omega) | exact decide_eq_false (by first | assumption | omega) | with_reducible rfl | exact (rfl : false = !true) | exact (rfl : true = !false)) (fun c => ow_fieldAddrPlace rfl rfl rfl (nb rfl) rfl (nb rfl) ⟨rfl, List.Perm.refl _⟩) ?_
                  refine any_guardY rfl (by first | assumption | exact decide_eq_true (by first | assumption | omega) | exact decide_eq_false (by first | assumption | omega) | with_reducible rfl | exact (rfl : false = !true) | exact (rfl : true = !false)) (fun c => ow_loadPlace rfl rfl ⟨rfl, List.Perm.refl _⟩) ?_
                  refine any_guardY rfl (by first | assumption | exact decide_eq_true (by first | assumption | omega) | exact decide_eq_false (by first | assumption | omega) | with_reducible rfl | exact (rfl : false = !true) | exact (rfl : true = !false)) (fun c => ow_move rfl ⟨rfl, List.Perm.refl _⟩) ?_
                  refine any_guardY rfl (by first | assumption | exact decide_eq_true (by first | assumption | omega) | exact decide_eq_false (by first | assumption | omega) | with_reducible rfl | exact (rfl : false = !true) | exact (rfl : true = !false)) (fun c => ow_move rfl ⟨rfl, List.Perm.refl _⟩) ?_
                  refine any_guardY rfl (by first | assumption | exact decide_eq_true (by first | assumption | omega) | exact decide_eq_false (by first | assumption | omega) | with_reducible rfl | exact (rfl : false = !true) | exact (rfl : true = !false)) (fun c => ow_indexAddrMapE rfl rfl (by omega) rfl rfl (nb rfl) ⟨rfl, List.Perm.refl _⟩) ?_
                  refine any_guardY rfl (by first | assumption | exact decide_eq_true (by first | assumption | omega) | exact decide_eq_false (by first | assumption | omega) | with_reducible rfl | exact (rfl : false = !true) | exact (rfl : true = !false)) (fun c => ow_fieldAddrPlace rfl rfl rfl (nb rfl) rfl (nb rfl) ⟨rfl, List.Perm.refl _⟩) ?_
                  refine any_guardY rfl (by first | assumption | exact decide_eq_true (by first | assumption | omega) | exact decide_eq_false (by first | assumption | omega) | with_reducible rfl | exact (rfl : false = !true) | exact (rfl : true = !false)) (fun c => ow_loadPlace rfl rfl ⟨rfl, List.Perm.refl _⟩) ?_
                  refine any_guardY rfl (by first | assumption | exact decide_eq_true (by first | assumption | omega) | exact decide_eq_false (by first | assumption | omega) | with_reducible rfl | exact (rfl : false = !true) | exact (rfl : true = !false)) (fun c => ow_neq rfl rfl ⟨rfl, List.Perm.refl _⟩) ?_
                  refine any_op (fun c => ow_pickF rfl (by first | assumption | exact decide_eq_true (by first | assumption | omega) | exact decide_eq_false (by first | assumption | omega) | with_reducible rfl | exact (rfl : false = !true) | exact (rfl : true = !false)) rfl ⟨rfl, List.Perm.refl _⟩) ?_
                  refine any_op (fun c => ow_move rfl ⟨rfl, List.Perm.refl _⟩) ?_
                  refine any_guardY rfl (by first | assumption | exact decide_eq_true (by first | assumption | omega) | exact decide_eq_false (by first | assumption | omega) | with_reducible rfl | exact (rfl : false = !true) | exact (rfl : true = !false)) (fun c => ow_move rfl ⟨rfl, List.Perm.refl _⟩) ?_
                  refine any_guardY rfl (by first | assumption | exact decide_eq_true (by first | assumption | omega) | exact decide_eq_false (by first | assumption | omega) | with_reducible rfl | exact (rfl : false = !true) | exact (rfl : true = !false)) (fun c => ow_move rfl ⟨rfl, List.Perm.refl _⟩) ?_
                  refine any_guardY rfl (by first | assumption | exact decide_eq_true (by first | assumption | omega) | exact decide_eq_false (by first | assumption | omega) | with_reducible rfl | exact (rfl : false = !true) | exact (rfl : true = !false)) (fun c => ow_indexAddrMapE rfl rfl (by omega) rfl rfl (nb rfl) ⟨rfl, List.Perm.refl _⟩) ?_
                  refine any_guardY rfl (by first | assumption | exact decide_eq_true (by first | assumption | omega) | exact decide_eq_false (by first | assumption | omega) | with_reducible rfl | exact (rfl : false = !true) | exact (rfl : true = !false)) (fun c => ow_fieldAddrPlace rfl rfl rfl (nb rfl) rfl (nb rfl) ⟨rfl, List.Perm.refl _⟩) ?_
                  refine any_guardY rfl (by first | assumption | exact decide_eq_true (by first | assumption | omega) | exact decide_eq_false (by first | assumption | omega) | with_reducible rfl | exact (rfl : false = !true) | exact (rfl : true = !false)) (fun c => ow_loadPlace rfl rfl ⟨rfl, List.Perm.refl _⟩) ?_
                  refine any_guardY rfl (by first | assumption | exact decide_eq_true (by first | assumption | omega) | exact decide_eq_false (by first | assumption | omega) | with_reducible rfl | exact (rfl : false = !true) | exact (rfl : true = !false)) (fun c => ow_move rfl ⟨rfl, List.Perm.refl _⟩) ?_
                  refine any_guardY rfl (by first | assumption | exact decide_eq_true (by first | assumption | omega) | exact decide_eq_false (by first | assumption | omega) | with_reducible rfl | exact (rfl : false = !true) | exact (rfl : true = !false)) (fun c => ow_move rfl ⟨rfl, List.Perm.refl _⟩) ?_
                  refine any_guardY rfl (by first | assumption | exact decide_eq_true (by first | assumption | omega) | exact decide_eq_false (by first | assumption | omega) | with_reducible rfl | exact (rfl : false = !true) | exact (rfl : true = !false)) (fun c => ow_indexAddrMapE rfl rfl (by omega) rfl rfl (nb rfl) ⟨rfl, List.Perm.refl _⟩) ?_
                  refine any_guardY rfl (by first | assumption | exact decide_eq_true (by first | assumption | omega) | exact decide_eq_false (by first | assumption | omega) | with_reducible rfl | exact (rfl : false = !true) | exact (rfl : true = !false)) (fun c => ow_fieldAddrPlace rfl rfl rfl (nb rfl) rfl (nb rfl) ⟨rfl, List.Perm.refl _⟩) ?_
                  refine any_guardY rfl (by first | assumption | exact decide_eq_true (by first | assumption | omega) | exact decide_eq_false (by first | assumption | omega) | with_reducible rfl | exact (rfl : false = !true) | exact (rfl : true = !false)) (fun c => ow_loadPlace rfl rfl ⟨rfl, List.Perm.refl _⟩) ?_
                  refine any_guardY rfl (by first | assumption | exact decide_eq_true (by first | assumption | omega) | exact decide_eq_false (by first | assumption | omega) | with_reducible rfl | exact (rfl : false = !true) | exact (rfl : true = !false)) (fun c => ow_strneq rfl rfl ⟨rfl, List.Perm.refl _⟩) ?_
                  refine any_op (fun c => ow_pickF rfl (by first | assumption | exact decide_eq_true (by first | assumption | omega) | exact decide_eq_false (by first | assumption | omega) | with_reducible rfl | exact (rfl : false = !true) | exact (rfl : true = !false)) rfl ⟨rfl, List.Perm.refl _⟩) ?_
                  refine any_op (fun c => ow_move rfl ⟨rfl, List.Perm.refl _⟩) ?_
                  refine any_guardY rfl (by first | assumption | exact decide_eq_true (by first | assumption | omega) | exact decide_eq_false (by first | assumption | omega) | with_reducible rfl | exact (rfl : false = !true) | exact (rfl : true = !false)) (fun c => ow_move rfl ⟨rfl, List.Perm.refl _⟩) ?_
                  refine any_guardY rfl (by first | assumption | exact decide_eq_true (by first | assumption | omega) | exact decide_eq_false (by first | assumption | omega) | with_reducible rfl | exact (rfl : false = !true) | exact (rfl : true = !false)) (fun c => ow_move rfl ⟨rfl, List.Perm.refl _⟩) ?_
                  refine any_guardY rfl (by first | assumption | exact decide_eq_true (by first | assumption | omega) | exact decide_eq_false (by first | assumption | omega) | with_reducible rfl | exact (rfl : false = !true) | exact (rfl : true = !false)) (fun c => ow_move rfl ⟨rfl, List.Perm.refl _⟩) ?_
                  refine any_guardY rfl (by first | assumption | exact decide_eq_true (by first | assumption | omega) | exact decide_eq_false (by first | assumption | omega) | with_reducible rfl | exact (rfl : false = !true) | exact (rfl : true = !false)) (fun c => ow_move rfl ⟨rfl, List.Perm.refl _⟩) ?_
                  refine any_guardY rfl (by first | assumption | exact decide_eq_true (by first | assumption | omega) | exact decide_eq_false (by first | assumption | omega) | with_reducible rfl | exact (rfl : false = !true) | exact (rfl : true = !false)) (fun c => ow_indexAddrMapE rfl rfl (by omega) rfl rfl (nb rfl) ⟨rfl, List.Perm.refl _⟩) ?_
                  refine any_guardY rfl (by first | assumption | exact decide_eq_true (by first | assumption | omega) | exact decide_eq_false (by first | assumption | omega) | with_reducible rfl | exact (rfl : false = !true) | exact (rfl : true = !false)) (fun c => ow_fieldAddrPlace rfl rfl rfl (nb rfl) rfl (nb rfl) ⟨rfl, List.Perm.refl _⟩) ?_
                  refine any_guardY rfl (by first | assumption | exact decide_eq_true (by first | assumption | omega) | exact decide_eq_false (by first | assumption | omega) | with_reducible rfl | exact (rfl : false = !true) | exact (rfl : true = !false)) (fun c => ow_loadPlace rfl rfl ⟨rfl, List.Perm.refl _⟩) ?_
                  refine any_guardY rfl (by first | assumption | exact decide_eq_true (by first | assumption | omega) | exact decide_eq_false (by first | assumption | omega) | with_reducible rfl | exact (rfl : false = !true) | exact (rfl : true = !false)) (fun c => ow_move rfl ⟨rfl, List.Perm.refl _⟩) ?_
                  refine any_guardY rfl (by first | assumption | exact decide_eq_true (by first | assumption | omega) | exact decide_eq_false (by first | assumption | omega) | with_reducible rfl | exact (rfl : false = !true) | exact (rfl : true = !false)) (fun c => ow_move rfl ⟨rfl, List.Perm.refl _⟩) ?_
                  refine any_guardY rfl (by first | assumption | exact decide_eq_true (by first | assumption | omega) | exact decide_eq_false (by first | assumption | omega) | with_reducible rfl | exact (rfl : false = !true) | exact (rfl : true = !false)) (fun c => ow_indexAddrMapE rfl rfl (by omega) rfl rfl (nb rfl) ⟨rfl, List.Perm.refl _⟩) ?_
                  refine any_guardY rfl (by first | assumption | exact decide_eq_true (by first | assumption | omega) | exact decide_eq_false (by first | assumption | omega) | with_reducible rfl | exact (rfl : false = !true) | exact (rfl : true = !false)) (fun c => ow_fieldAddrPlace rfl rfl rfl (nb rfl) rfl (nb rfl) ⟨rfl, List.Perm.refl _⟩) ?_
                  refine any_guardY rfl (by first | assumption | exact decide_eq_true (by first | assumption | omega) | exact decide_eq_false (by first | assumption | omega) | with_reducible rfl | exact (rfl : false = !true) | exact (rfl : true = !false)) (fun c => ow_loadPlace rfl rfl ⟨rfl, List.Perm.refl _⟩) ?_
                  refine any_guardY rfl (by first | assumption | exact decide_eq_true (by first | assumption | omega) | exact decide_eq_false (by first | assumption | omega) | with_reducible rfl | exact (rfl : false = !true) | exact (rfl : true = !false)) (fun c => ow_neq rfl rfl ⟨rfl, List.Perm.refl _⟩) ?_
                  refine any_guardY rfl (by first | assumption | exact decide_eq_true (by first | assumption | omega) | exact decide_eq_false (by first | assumption | omega) | with_reducible rfl | exact (rfl : false = !true) | exact (rfl : true = !false)) (fun c => ow_pickT rfl (by first | assumption | exact decide_eq_true (by first | assumption | omega) | exact decide_eq_false (by first | assumption | omega) | with_reducible rfl | exact (rfl : false = !true) | exact (rfl : true = !false)) rfl ⟨rfl, List.Perm.refl _⟩) ?_
                  refine any_op (fun c => ow_pickF rfl (by first | assumption | exact decide_eq_true (by first | assumption | omega) | exact decide_eq_false (by first | assumption | omega) | with_reducible rfl | exact (rfl : false = !true) | exact (rfl : true = !false)) rfl ⟨rfl, List.Perm.refl _⟩) ?_
                  refine any_nil ?_
                  refine jq_then ?_
                  refine jc_condd rfl (fun h => absurd h hk4n) (fun _ => ?_)
                  refine jc_skip ?_
                  refine jq_block ?_
                  refine jq_then ?_
                  refine jc_region ?_
                  refine jl_op ?_ (nb rfl)
                  refine ow_move rfl ?_
                  refine jl_op ?_ (nb rfl)
                  refine ow_add64 rfl rfl (by omega) ?_
                  refine jl_op ?_ (nb rfl)
                  refine ow_assign rfl ?_
                  refine jl_nil ?_
                  refine jq_againS (k + 1) ⟨by omega, fun j h1 h2 hj => ?_⟩ (by omega) ?_ ?_
                  · by_cases hjk : j < k
                    · exact hall j h1 h2 hjk
                    · obtain rfl : j = k := by omega
                      exact ht
                  · exact sub_end
                  · (repeat (first | exact True.intro | refine ⟨rfl, ?_⟩))
                · have hf : sameTok true l[k] m[k] = false := by
                    unfold sameTok
                    rw [decide_eq_true hk1, decide_eq_true hk2, decide_eq_true hk3, decide_eq_false hk4]
                    rfl
                  refine jc_skip ?_
                  refine jq_then ?_
                  refine jc_seq ?_
                  refine jc_block ?_
                  refine jc_seq ?_
                  refine jc_any rfl rfl (by kernel_rfl) (by kernel_rfl) ?_
                  refine any_op (fun c => ow_move rfl ⟨rfl, List.Perm.refl _⟩) ?_
                  refine any_op (fun c => ow_move rfl ⟨rfl, List.Perm.refl _⟩) ?_
                  refine any_op (fun c => ow_indexAddrMapE rfl rfl (by omega) rfl rfl (nb rfl) ⟨rfl, List.Perm.refl _⟩) ?_
                  refine any_op (fun c => ow_fieldAddrPlace rfl rfl rfl (nb rfl) rfl (nb rfl) ⟨rfl, List.Perm.refl _⟩) ?_
                  refine any_op (fun c => ow_loadPlace rfl rfl ⟨rfl, List.Perm.refl _⟩) ?_
                  refine any_op (fun c => ow_move rfl ⟨rfl, List.Perm.refl _⟩) ?_
                  refine any_op (fun c => ow_move rfl ⟨rfl, List.Perm.refl _⟩) ?_
                  refine any_op (fun c => ow_indexAddrMapE rfl rfl (by omega) rfl rfl (nb rfl) ⟨rfl, List.Perm.refl _⟩) ?_
                  refine any_op (fun c => ow_fieldAddrPlace rfl rfl rfl (nb rfl) rfl (nb rfl) ⟨rfl, List.Perm.refl _⟩) ?_
                  refine any_op (fun c => ow_loadPlace rfl rfl ⟨rfl, List.Perm.refl _⟩) ?_
                  refine any_op (fun c => ow_neq rfl rfl ⟨rfl, List.Perm.refl _⟩) ?_
                  refine any_op (fun c => ow_move rfl ⟨rfl, List.Perm.refl _⟩) ?_
                  refine any_guardY rfl (by first | assumption | exact decide_eq_true (by first | assumption | omega) | exact decide_eq_false (by first | assumption | omega) | with_reducible rfl | exact (rfl : false = !true) | exact (rfl : true = !false)) (fun c => ow_move rfl ⟨rfl, List.Perm.refl _⟩) ?_
                  refine any_guardY rfl (by first | assumption | exact decide_eq_true (by first | assumption | omega) | exact decide_eq_false (by first | assumption | omega) | with_reducible rfl | exact (rfl : false = !true) | exact (rfl : true = !false)) (fun c => ow_move rfl ⟨rfl, List.Perm.refl _⟩) ?_
                  refine any_guardY rfl (by first | assumption | exact decide_eq_true (by first | assumption | omega) | exact decide_eq_false (by first | assumption | omega) | with_reducible rfl | exact (rfl : false = !true) | exact (rfl : true = !false)) (fun c => ow_indexAddrMapE rfl rfl (by omega) rfl rfl (nb rfl) ⟨rfl, List.Perm.refl _⟩) ?_
                  refine any_guardY rfl (by first | assumption | exact decide_eq_true (by first | assumption | omega) | exact decide_eq_false (by first | assumption | omega) | with_reducible rfl | exact (rfl : false = !true) | exact (rfl : true = !false)) (fun c => ow_fieldAddrPlace rfl rfl rfl (nb rfl) rfl (nb rfl) ⟨rfl, List.Perm.refl _⟩) ?_
                  refine any_guardY rfl (by first | assumption | exact decide_eq_true (by first | assumption | omega) | exact decide_eq_false (by first | assumption | omega) | with_reducible rfl | exact (rfl : false = !true) | exact (rfl : true = !false)) (fun c => ow_loadPlace rfl rfl ⟨rfl, List.Perm.refl _⟩) ?_
                  refine any_guardY rfl (by first | assumption | exact decide_eq_true (by first | assumption | omega) | exact decide_eq_false (by first | assumption | omega) | with_reducible rfl | exact (rfl : false = !true) | exact (rfl : true = !false)) (fun c => ow_move rfl ⟨rfl, List.Perm.refl _⟩) ?_
                  refine any_guardY rfl (by first | assumption | exact decide_eq_true (by first | assumption | omega) | exact decide_eq_false (by first | assumption | omega) | with_reducible rfl | exact (rfl : false = !true) | exact (rfl : true = !false)) (fun c => ow_move rfl ⟨rfl, List.Perm.refl _⟩) ?_
                  refine any_guardY rfl (by first | assumption | exact decide_eq_true (by first | assumption | omega) | exact decide_eq_false (by first | assumption | omega) | with_reducible rfl | exact (rfl : false = !true) | exact (rfl : true = !false)) (fun c => ow_indexAddrMapE rfl rfl (by omega) rfl rfl (nb rfl) ⟨rfl, List.Perm.refl _⟩) ?_
                  refine any_guardY rfl (by first | assumption | exact decide_eq_true (by first | assumption | omega) | exact decide_eq_false (by first | assumption | omega) | with_reducible rfl | exact (rfl : false = !true) | exact (rfl : true = !false)) (fun c => ow_fieldAddrPlace rfl rfl rfl (nb rfl) rfl (nb rfl) ⟨rfl, List.Perm.refl _⟩) ?_
                  refine any_guardY rfl (by first | assumption | exact decide_eq_true (by first | assumption | omega) | exact decide_eq_false (by first | assumption | omega) | with_reducible rfl | exact (rfl : false = !true) | exact (rfl : true = !false)) (fun c => ow_loadPlace rfl rfl ⟨rfl, List.Perm.refl _⟩) ?_
                  refine any_guardY rfl (by first | assumption | exact decide_eq_true (by first | assumption | omega) | exact decide_eq_false (by first | assumption | omega) | with_reducible rfl | exact (rfl : false = !true) | exact (rfl : true = !false)) (fun c => ow_neq rfl rfl ⟨rfl, List.Perm.refl _⟩) ?_
                  refine any_op (fun c => ow_pickF rfl (by first | assumption | exact decide_eq_true (by first | assumption | omega) | exact decide_eq_false (by first | assumption | omega) | with_reducible rfl | exact (rfl : false = !true) | exact (rfl : true = !false)) rfl ⟨rfl, List.Perm.refl _⟩) ?_
                  refine any_op (fun c => ow_move rfl ⟨rfl, List.Perm.refl _⟩) ?_
                  refine any_guardY rfl (by first | assumption | exact decide_eq_true (by first | assumption | omega) | exact decide_eq_false (by first | assumption | omega) | with_reducible rfl | exact (rfl : false = !true) | exact (rfl : true = !false)) (fun c => ow_move rfl ⟨rfl, List.Perm.refl _⟩) ?_
                  refine any_guardY rfl (by first | assumption | exact decide_eq_true (by first | assumption | omega) | exact decide_eq_false (by first | assumption | omega) | with_reducible rfl | exact (rfl : false = !true) | exact (rfl : true = !false)) (fun c => ow_move rfl ⟨rfl, List.Perm.refl _⟩) ?_
                  refine any_guardY rfl (by first | assumption | exact decide_eq_true (by first | assumption | omega) | exact decide_eq_false (by first | assumption | omega) | with_reducible rfl | exact (rfl : false = !true) | exact (rfl : true = !false)) (fun c => ow_indexAddrMapE rfl rfl (by omega) rfl rfl (nb rfl) ⟨rfl, List.Perm.refl _⟩) ?_
                  refine any_guardY rfl (by first | assumption | exact decide_eq_true (by first | assumption | omega) | exact decide_eq_false (by first | assumption | omega) | with_reducible rfl | exact (rfl : false = !true) | exact (rfl : true = !false)) (fun c => ow_fieldAddrPlace rfl rfl rfl (nb rfl) rfl (nb rfl) ⟨rfl, List.Perm.refl _⟩) ?_
                  refine any_guardY rfl (by first | assumption | exact decide_eq_true (by first | assumption | omega) | exact decide_eq_false (by first | assumption | omega) | with_reducible rfl | exact (rfl : false = !true) | exact (rfl : true = !false)) (fun c => ow_loadPlace rfl rfl ⟨rfl, List.Perm.refl _⟩) ?_
                  refine any_guardY rfl (by first | assumption | exact decide_eq_true (by first | assumption | omega) | exact decide_eq_false (by first | assumption | omega) | with_reducible rfl | exact (rfl : false = !true) | exact (rfl : true = !false)) (fun c => ow_move rfl ⟨rfl, List.Perm.refl _⟩) ?_
                  refine any_guardY rfl (by first | assumption | exact decide_eq_true (by first | assumption | omega) | exact decide_eq_false (by first | assumption | omega) | with_reducible rfl | exact (rfl : false = !true) | exact (rfl : true = !false)) (fun c => ow_move rfl ⟨rfl, List.Perm.refl _⟩) ?_
                  refine any_guardY rfl (by first | assumption | exact decide_eq_true (by first | assumption | omega) | exact decide_eq_false (by first | assumption | omega) | with_reducible rfl | exact (rfl : false = !true) | exact (rfl : true = !false)) (fun c => ow_indexAddrMapE rfl rfl (by omega) rfl rfl (nb rfl) ⟨rfl, List.Perm.refl _⟩) ?_
                  refine any_guardY rfl (by first | assumption | exact decide_eq_true (by first | assumption | omega) | exact decide_eq_false (by first | assumption | omega) | with_reducible rfl | exact (rfl : false = !true) | exact (rfl : true = !false)) (fun c => ow_fieldAddrPlace rfl rfl rfl (nb rfl) rfl (nb rfl) ⟨rfl, List.Perm.refl _⟩) ?_
                  refine any_guardY rfl (by first | assumption | exact decide_eq_true (by first | assumption | omega) | exact decide_eq_false (by first | assumption | omega) | with_reducible rfl | exact (rfl : false = !true) | exact (rfl : true = !false)) (fun c => ow_loadPlace rfl rfl ⟨rfl, List.Perm.refl _⟩) ?_
                  refine any_guardY rfl (by first | assumption | exact decide_eq_true (by first | assumption | omega) | exact decide_eq_false (by first | assumption | omega) | with_reducible rfl | exact (rfl : false = !true) | exact (rfl : true = !false)) (fun c => ow_strneq rfl rfl ⟨rfl, List.Perm.refl _⟩) ?_
                  refine any_op (fun c => ow_pickF rfl (by first | assumption | exact decide_eq_true (by first | assumption | omega) | exact decide_eq_false (by first | assumption | omega) | with_reducible rfl | exact (rfl : false = !true) | exact (rfl : true = !false)) rfl ⟨rfl, List.Perm.refl _⟩) ?_
                  refine any_op (fun c => ow_move rfl ⟨rfl, List.Perm.refl _⟩) ?_
                  refine any_guardY rfl (by first | assumption | exact decide_eq_true (by first | assumption | omega) | exact decide_eq_false (by first | assumption | omega) | with_reducible rfl | exact (rfl : false = !true) | exact (rfl : true = !false)) (fun c => ow_move rfl ⟨rfl, List.Perm.refl _⟩) ?_
                  refine any_guardY rfl (by first | assumption | exact decide_eq_true (by first | assumption | omega) | exact decide_eq_false (by first | assumption | omega) | with_reducible rfl | exact (rfl : false = !true) | exact (rfl : true = !false)) (fun c => ow_move rfl ⟨rfl, List.Perm.refl _⟩) ?_
                  refine any_guardY rfl (by first | assumption | exact decide_eq_true (by first | assumption | omega) | exact decide_eq_false (by first | assumption | omega) | with_reducible rfl | exact (rfl : false = !true) | exact (rfl : true = !false)) (fun c => ow_move rfl ⟨rfl, List.Perm.refl _⟩) ?_
                  refine any_guardY rfl (by first | assumption | exact decide_eq_true (by first | assumption | omega) | exact decide_eq_false (by first | assumption | omega) | with_reducible rfl | exact (rfl : false = !true) | exact (rfl : true = !false)) (fun c => ow_move rfl ⟨rfl, List.Perm.refl _⟩) ?_
                  refine any_guardY rfl (by first | assumption | exact decide_eq_true (by first | assumption | omega) | exact decide_eq_false (by first | assumption | omega) | with_reducible rfl | exact (rfl : false = !true) | exact (rfl : true = !false)) (fun c => ow_indexAddrMapE rfl rfl (by omega) rfl rfl (nb rfl) ⟨rfl, List.Perm.refl _⟩) ?_
                  refine any_guardY rfl (by first | assumption | exact decide_eq_true (by first | assumption | omega) | exact decide_eq_false (by first | assumption | omega) | with_reducible rfl | exact (rfl : false = !true) | exact (rfl : true = !false)) (fun c => ow_fieldAddrPlace rfl rfl rfl (nb rfl) rfl (nb rfl) ⟨rfl, List.Perm.refl _⟩) ?_
                  refine any_guardY rfl (by first | assumption | exact decide_eq_true (by first | assumption | omega) | exact decide_eq_false (by first | assumption | omega) | with_reducible rfl | exact (rfl : false = !true) | exact (rfl : true = !false)) (fun c => ow_loadPlace rfl rfl ⟨rfl, List.Perm.refl _⟩) ?_
                  refine any_guardY rfl (by first | assumption | exact decide_eq_true (by first | assumption | omega) | exact decide_eq_false (by first | assumption | omega) | with_reducible rfl | exact (rfl : false = !true) | exact (rfl : true = !false)) (fun c => ow_move rfl ⟨rfl, List.Perm.refl _⟩) ?_
                  refine any_guardY rfl (by first | assumption | exact decide_eq_true (by first | assumption | omega) | exact decide_eq_false (by first | assumption | omega) | with_reducible rfl | exact (rfl : false = !true) | exact (rfl : true = !false)) (fun c => ow_move rfl ⟨rfl, List.Perm.refl _⟩) ?_
                  refine any_guardY rfl (by first | assumption | exact decide_eq_true (by first | assumption | omega) | exact decide_eq_false (by first | assumption | omega) | with_reducible rfl | exact (rfl : false = !true) | exact (rfl : true = !false)) (fun c => ow_indexAddrMapE rfl rfl (by omega) rfl rfl (nb rfl) ⟨rfl, List.Perm.refl _⟩) ?_
                  refine any_guardY rfl (by first | assumption | exact decide_eq_true (by first | assumption | omega) | exact decide_eq_false (by first | assumption | omega) | with_reducible rfl | exact (rfl : false = !true) | exact (rfl : true = !false)) (fun c => ow_fieldAddrPlace rfl rfl rfl (nb rfl) rfl (nb rfl) ⟨rfl, List.Perm.refl _⟩) ?_
                  refine any_guardY rfl (by first | assumption | exact decide_eq_true (by first | assumption | omega) | exact decide_eq_false (by first | assumption | omega) | with_reducible rfl | exact (rfl : false = !true) | exact (rfl : true = !false)) (fun c => ow_loadPlace rfl rfl ⟨rfl, List.Perm.refl _⟩) ?_
                  refine any_guardY rfl (by first | assumption | exact decide_eq_true (by first | assumption | omega) | exact decide_eq_false (by first | assumption | omega) | with_reducible rfl | exact (rfl : false = !true) | exact (rfl : true = !false)) (fun c => ow_neq rfl rfl ⟨rfl, List.Perm.refl _⟩) ?_
                  refine any_guardY rfl (by first | assumption | exact decide_eq_true (by first | assumption | omega) | exact decide_eq_false (by first | assumption | omega) | with_reducible rfl | exact (rfl : false = !true) | exact (rfl : true = !false)) (fun c => ow_pickT rfl (by first | assumption | exact decide_eq_true (by first | assumption | omega) | exact decide_eq_false (by first | assumption | omega) | with_reducible rfl | exact (rfl : false = !true) | exact (rfl : true = !false)) rfl ⟨rfl, List.Perm.refl _⟩) ?_
                  refine any_op (fun c => ow_pickF rfl (by first | assumption | exact decide_eq_true (by first | assumption | omega) | exact decide_eq_false (by first | assumption | omega) | with_reducible rfl | exact (rfl : false = !true) | exact (rfl : true = !false)) rfl ⟨rfl, List.Perm.refl _⟩) ?_
                  refine any_nil ?_
                  refine jq_then ?_
                  refine jc_condd rfl (fun _ => ?_) (fun h => absurd hk4 h)
                  refine jc_seq ?_
                  refine jc_region ?_
                  refine jl_op ?_ (nb rfl)
                  refine ow_assign rfl ?_
                  refine jl_nil ?_
                  refine jq_then ?_
                  refine jc_ret ?_
                  refine jq_block_ret ?_
                  refine jq_then_ret ?_
                  refine jq_then_ret ?_
                  refine jq_block_ret ?_
                  refine jq_then_ret ?_
                  refine jq_ret1 rfl rfl [] rfl (fun K h => by rw [sameL_no hlen2 k hlt' hlt2 hf] at h; exact h)
            · have hf : sameTok ln l[k] m[k] = false := by
                unfold sameTok
                rw [decide_eq_true hk1, decide_eq_true hk2, decide_eq_false hk3]
                rfl
              refine jc_skip ?_
              refine jq_then ?_
              refine jc_seq ?_
              refine jc_block ?_
              refine jc_seq ?_
              refine jc_any rfl rfl (by kernel_rfl) (by kernel_rfl) ?_
              refine any_op (fun c => ow_move rfl ⟨rfl, List.Perm.refl _⟩) ?_
              refine any_op (fun c => ow_move rfl ⟨rfl, List.Perm.refl _⟩) ?_
              refine any_op (fun c => ow_indexAddrMapE rfl rfl (by omega) rfl rfl (nb rfl) ⟨rfl, List.Perm.refl _⟩) ?_
              refine any_op (fun c => ow_fieldAddrPlace rfl rfl rfl (nb rfl) rfl (nb rfl) ⟨rfl, List.Perm.refl _⟩) ?_
              refine any_op (fun c => ow_loadPlace rfl rfl ⟨rfl, List.Perm.refl _⟩) ?_
              refine any_op (fun c => ow_move rfl ⟨rfl, List.Perm.refl _⟩) ?_
              refine any_op (fun c => ow_move rfl ⟨rfl, List.Perm.refl _⟩) ?_
              refine any_op (fun c => ow_indexAddrMapE rfl rfl (by omega) rfl rfl (nb rfl) ⟨rfl, List.Perm.refl _⟩) ?_
              refine any_op (fun c => ow_fieldAddrPlace rfl rfl rfl (nb rfl) rfl (nb rfl) ⟨rfl, List.Perm.refl _⟩) ?_
              refine any_op (fun c => ow_loadPlace rfl rfl ⟨rfl, List.Perm.refl _⟩) ?_
              refine any_op (fun c => ow_neq rfl rfl ⟨rfl, List.Perm.refl _⟩) ?_
              refine any_op (fun c => ow_move rfl ⟨rfl, List.Perm.refl _⟩) ?_
              refine any_guardY rfl (by first | assumption | exact decide_eq_true (by first | assumption | omega) | exact decide_eq_false (by first | assumption | omega) | with_reducible rfl | exact (rfl : false = !true) | exact (rfl : true = !false)) (fun c => ow_move rfl ⟨rfl, List.Perm.refl _⟩) ?_
              refine any_guardY rfl (by first | assumption | exact decide_eq_true (by first | assumption | omega) | exact decide_eq_false (by first | assumption | omega) | with_reducible rfl | exact (rfl : false = !true) | exact (rfl : true = !false)) (fun c => ow_move rfl ⟨rfl, List.Perm.refl _⟩) ?_
              refine any_guardY rfl (by first | assumption | exact decide_eq_true (by first | assumption | omega) | exact decide_eq_false (by first | assumption | omega) | with_reducible rfl | exact (rfl : false = !true) | exact (rfl : true = !false)) (fun c => ow_indexAddrMapE rfl rfl (by omega) rfl rfl (nb rfl) ⟨rfl, List.Perm.refl _⟩) ?_
              refine any_guardY rfl (by first | assumption | exact decide_eq_true (by first | assumption | omega) | exact decide_eq_false (by first | assumption | omega) | with_reducible rfl | exact (rfl : false = !true) | exact (rfl : true = !false)) (fun c => ow_fieldAddrPlace rfl rfl rfl (nb rfl) rfl (nb rfl) ⟨rfl, List.Perm.refl _⟩) ?_
              refine any_guardY rfl (by first | assumption | exact decide_eq_true (by first | assumption | omega) | exact decide_eq_false (by first | assumption | omega) | with_reducible rfl | exact (rfl : false = !true) | exact (rfl : true = !false)) (fun c => ow_loadPlace rfl rfl ⟨rfl, List.Perm.refl _⟩) ?_
              refine any_guardY rfl (by first | assumption | exact decide_eq_true (by first | assumption | omega) | exact decide_eq_false (by first | assumption | omega) | with_reducible rfl | exact (rfl : false = !true) | exact (rfl : true = !false)) (fun c => ow_move rfl ⟨rfl, List.Perm.refl _⟩) ?_
              refine any_guardY rfl (by first | assumption | exact decide_eq_true (by first | assumption | omega) | exact decide_eq_false (by first | assumption | omega) | with_reducible rfl | exact (rfl : false = !true) | exact (rfl : true = !false)) (fun c => ow_move rfl ⟨rfl, List.Perm.refl _⟩) ?_
              refine any_guardY rfl (by first | assumption | exact decide_eq_true (by first | assumption | omega) | exact decide_eq_false (by first | assumption | omega) | with_reducible rfl | exact (rfl : false = !true) | exact (rfl : true = !false)) (fun c => ow_indexAddrMapE rfl rfl (by omega) rfl rfl (nb rfl) ⟨rfl, List.Perm.refl _⟩) ?_
              refine any_guardY rfl (by first | assumption | exact decide_eq_true (by first | assumption | omega) | exact decide_eq_false (by first | assumption | omega) | with_reducible rfl | exact (rfl : false = !true) | exact (rfl : true = !false)) (fun c => ow_fieldAddrPlace rfl rfl rfl (nb rfl) rfl (nb rfl) ⟨rfl, List.Perm.refl _⟩) ?_
              refine any_guardY rfl (by first | assumption | exact decide_eq_true (by first | assumption | omega) | exact decide_eq_false (by first | assumption | omega) | with_reducible rfl | exact (rfl : false = !true) | exact (rfl : true = !false)) (fun c => ow_loadPlace rfl rfl ⟨rfl, List.Perm.refl _⟩) ?_
              refine any_guardY rfl (by first | assumption | exact decide_eq_true (by first | assumption | omega) | exact decide_eq_false (by first | assumption | omega) | with_reducible rfl | exact (rfl : false = !true) | exact (rfl : true = !false)) (fun c => ow_neq rfl rfl ⟨rfl, List.Perm.refl _⟩) ?_
              refine any_op (fun c => ow_pickF rfl (by first | assumption | exact decide_eq_true (by first | assumption | omega) | exact decide_eq_false (by first | assumption | omega) | with_reducible rfl | exact (rfl : false = !true) | exact (rfl : true = !false)) rfl ⟨rfl, List.Perm.refl _⟩) ?_
              refine any_op (fun c => ow_move rfl ⟨rfl, List.Perm.refl _⟩) ?_
              refine any_guardY rfl (by first | assumption | exact decide_eq_true (by first | assumption | omega) | exact decide_eq_false (by first | assumption | omega) | with_reducible rfl | exact (rfl : false = !true) | exact (rfl : true = !false)) (fun c => ow_move rfl ⟨rfl, List.Perm.refl _⟩) ?_
              refine any_guardY rfl (by first | assumption | exact decide_eq_true (by first | assumption | omega) | exact decide_eq_false (by first | assumption | omega) | with_reducible rfl | exact (rfl : false = !true) | exact (rfl : true = !false)) (fun c => ow_move rfl ⟨rfl, List.Perm.refl _⟩) ?_
              refine any_guardY rfl (by first | assumption | exact decide_eq_true (by first | assumption | omega) | exact decide_eq_false (by first | assumption | omega) | with_reducible rfl | exact (rfl : false = !true) | exact (rfl : true = !false)) (fun c => ow_indexAddrMapE rfl rfl (by omega) rfl rfl (nb rfl) ⟨rfl, List.Perm.refl _⟩) ?_
              refine any_guardY rfl (by first | assumption | exact decide_eq_true (by first | assumption | omega) | exact decide_eq_false (by first | assumption | omega) | with_reducible rfl | exact (rfl : false = !true) | exact (rfl : true = !false)) (fun c => ow_fieldAddrPlace rfl rfl rfl (nb rfl) rfl (nb rfl) ⟨rfl, List.Perm.refl _⟩) ?_
              refine any_guardY rfl (by first | assumption | exact decide_eq_true (by first | assumption | omega) | exact decide_eq_false (by first | assumption | omega) | with_reducible rfl | exact (rfl : false = !true) | exact (rfl : true = !false)) (fun c => ow_loadPlace rfl rfl ⟨rfl, List.Perm.refl _⟩) ?_
              refine any_guardY rfl (by first | assumption | exact decide_eq_true (by first | assumption | omega) | exact decide_eq_false (by first | assumption | omega) | with_reducible rfl | exact (rfl : false = !true) | exact (rfl : true = !false)) (fun c => ow_move rfl ⟨rfl, List.Perm.refl _⟩) ?_
              refine any_guardY rfl (by first | assumption | exact decide_eq_true (by first | assumption | omega) | exact decide_eq_false (by first | assumption | omega) | with_reducible rfl | exact (rfl : false = !true) | exact (rfl : true = !false)) (fun c => ow_move rfl ⟨rfl, List.Perm.refl _⟩) ?_
              refine any_guardY rfl (by first | assumption | exact decide_eq_true (by first | assumption | omega) | exact decide_eq_false (by first | assumption | omega) | with_reducible rfl | exact (rfl : false = !true) | exact (rfl : true = !false)) (fun c => ow_indexAddrMapE rfl rfl (by omega) rfl rfl (nb rfl) ⟨rfl, List.Perm.refl _⟩) ?_
              refine any_guardY rfl (by first | assumption | exact decide_eq_true (by first | assumption | omega) | exact decide_eq_false (by first | assumption | omega) | with_reducible rfl | exact (rfl : false = !true) | exact (rfl : true = !false)) (fun c => ow_fieldAddrPlace rfl rfl rfl (nb rfl) rfl (nb rfl) ⟨rfl, List.Perm.refl _⟩) ?_
              refine any_guardY rfl (by first | assumption | exact decide_eq_true (by first | assumption | omega) | exact decide_eq_false (by first | assumption | omega) | with_reducible rfl | exact (rfl : false = !true) | exact (rfl : true = !false)) (fun c => ow_loadPlace rfl rfl ⟨rfl, List.Perm.refl _⟩) ?_
              refine any_guardY rfl (by first | assumption | exact decide_eq_true (by first | assumption | omega) | exact decide_eq_false (by first | assumption | omega) | with_reducible rfl | exact (rfl : false = !true) | exact (rfl : true = !false)) (fun c => ow_strneq rfl rfl ⟨rfl, List.Perm.refl _⟩) ?_
              refine any_op (fun c => ow_pickF rfl (by first | assumption | exact decide_eq_true (by first | assumption | omega) | exact decide_eq_false (by first | assumption | omega) | with_reducible rfl | exact (rfl : false = !true) | exact (rfl : true = !false)) rfl ⟨rfl, List.Perm.refl _⟩) ?_
              refine any_op (fun c => ow_move rfl ⟨rfl, List.Perm.refl _⟩) ?_
              refine any_guardN rfl (by first | assumption | exact decide_eq_true (by first | assumption | omega) | exact decide_eq_false (by first | assumption | omega) | with_reducible rfl | exact (rfl : false = !true) | exact (rfl : true = !false)) ?_
              refine any_guardN rfl (by first | assumption | exact decide_eq_true (by first | assumption | omega) | exact decide_eq_false (by first | assumption | omega) | with_reducible rfl | exact (rfl : false = !true) | exact (rfl : true = !false)) ?_
              refine any_guardU rfl ?_
              refine any_guardU rfl ?_
              refine any_guardU rfl ?_
              refine any_guardU rfl ?_
              refine any_guardU rfl ?_
              refine any_guardU rfl ?_
              refine any_guardU rfl ?_
              refine any_guardU rfl ?_
              refine any_guardU rfl ?_
              refine any_guardU rfl ?_
              refine any_guardU rfl ?_
              refine any_guardN rfl (by first | assumption | exact decide_eq_true (by first | assumption | omega) | exact decide_eq_false (by first | assumption | omega) | with_reducible rfl | exact (rfl : false = !true) | exact (rfl : true = !false)) ?_
              refine any_op (fun c => ow_pickT rfl (by first | assumption | exact decide_eq_true (by first | assumption | omega) | exact decide_eq_false (by first | assumption | omega) | with_reducible rfl | exact (rfl : false = !true) | exact (rfl : true = !false)) rfl ⟨rfl, List.Perm.refl _⟩) ?_
              refine any_nil ?_
              refine jq_then ?_
              refine jc_cond rfl (fun _ => ?_) (fun h => by cases h)
              refine jc_seq ?_
              refine jc_region ?_
              refine jl_op ?_ (nb rfl)
              refine ow_assign rfl ?_
              refine jl_nil ?_
              refine jq_then ?_
              refine jc_ret ?_
              refine jq_block_ret ?_
              refine jq_then_ret ?_
              refine jq_then_ret ?_
              refine jq_block_ret ?_
              refine jq_then_ret ?_
              refine jq_ret1 rfl rfl [] rfl (fun K h => by rw [sameL_no hlen2 k hlt' hlt2 hf] at h; exact h)
          · have hf : sameTok ln l[k] m[k] = false := by
              unfold sameTok
              rw [decide_eq_true hk1, decide_eq_false hk2]
              rfl
            refine jc_skip ?_
            refine jq_then ?_
            refine jc_seq ?_
            refine jc_block ?_
            refine jc_seq ?_
            refine jc_any rfl rfl (by kernel_rfl) (by kernel_rfl) ?_
            refine any_op (fun c => ow_move rfl ⟨rfl, List.Perm.refl _⟩) ?_
            refine any_op (fun c => ow_move rfl ⟨rfl, List.Perm.refl _⟩) ?_
            refine any_op (fun c => ow_indexAddrMapE rfl rfl (by omega) rfl rfl (nb rfl) ⟨rfl, List.Perm.refl _⟩) ?_
            refine any_op (fun c => ow_fieldAddrPlace rfl rfl rfl (nb rfl) rfl (nb rfl) ⟨rfl, List.Perm.refl _⟩) ?_
            refine any_op (fun c => ow_loadPlace rfl rfl ⟨rfl, List.Perm.refl _⟩) ?_
            refine any_op (fun c => ow_move rfl ⟨rfl, List.Perm.refl _⟩) ?_
            refine any_op (fun c => ow_move rfl ⟨rfl, List.Perm.refl _⟩) ?_
            refine any_op (fun c => ow_indexAddrMapE rfl rfl (by omega) rfl rfl (nb rfl) ⟨rfl, List.Perm.refl _⟩) ?_
            refine any_op (fun c => ow_fieldAddrPlace rfl rfl rfl (nb rfl) rfl (nb rfl) ⟨rfl, List.Perm.refl _⟩) ?_
            refine any_op (fun c => ow_loadPlace rfl rfl ⟨rfl, List.Perm.refl _⟩) ?_
            refine any_op (fun c => ow_neq rfl rfl ⟨rfl, List.Perm.refl _⟩) ?_
            refine any_op (fun c => ow_move rfl ⟨rfl, List.Perm.refl _⟩) ?_
            refine any_guardY rfl (by first | assumption | exact decide_eq_true (by first | assumption | omega) | exact decide_eq_false (by first | assumption | omega) | with_reducible rfl | exact (rfl : false = !true) | exact (rfl : true = !false)) (fun c => ow_move rfl ⟨rfl, List.Perm.refl _⟩) ?_
            refine any_guardY rfl (by first | assumption | exact decide_eq_true (by first | assumption | omega) | exact decide_eq_false (by first | assumption | omega) | with_reducible rfl | exact (rfl : false = !true) | exact (rfl : true = !false)) (fun c => ow_move rfl ⟨rfl, List.Perm.refl _⟩) ?_
            refine any_guardY rfl (by first | assumption | exact decide_eq_true (by first | assumption | omega) | exact decide_eq_false (by first | assumption | omega) | with_reducible rfl | exact (rfl : false = !true) | exact (rfl : true = !false)) (fun c => ow_indexAddrMapE rfl rfl (by omega) rfl rfl (nb rfl) ⟨rfl, List.Perm.refl _⟩) ?_
            refine any_guardY rfl (by first | assumption | exact decide_eq_true (by first | assumption | omega) | exact decide_eq_false (by first | assumption | omega) | with_reducible rfl | exact (rfl : false = !true) | exact (rfl : true = !false)) (fun c => ow_fieldAddrPlace rfl rfl rfl (nb rfl) rfl (nb rfl) ⟨rfl, List.Perm.refl _⟩) ?_
            refine any_guardY rfl (by first | assumption | exact decide_eq_true (by first | assumption | omega) | exact decide_eq_false (by first | assumption | omega) | with_reducible rfl | exact (rfl : false = !true) | exact (rfl : true = !false)) (fun c => ow_loadPlace rfl rfl ⟨rfl, List.Perm.refl _⟩) ?_
            refine any_guardY rfl (by first | assumption | exact decide_eq_true (by first | assumption | omega) | exact decide_eq_false (by first | assumption | omega) | with_reducible rfl | exact (rfl : false = !true) | exact (rfl : true = !false)) (fun c => ow_move rfl ⟨rfl, List.Perm.refl _⟩) ?_
            refine any_guardY rfl (by first | assumption | exact decide_eq_true (by first | assumption | omega) | exact decide_eq_false (by first | assumption | omega) | with_reducible rfl | exact (rfl : false = !true) | exact (rfl : true = !false)) (fun c => ow_move rfl ⟨rfl, List.Perm.refl _⟩) ?_
            refine any_guardY rfl (by first | assumption | exact decide_eq_true (by first | assumption | omega) | exact decide_eq_false (by first | assumption | omega) | with_reducible rfl | exact (rfl : false = !true) | exact (rfl : true = !false)) (fun c => ow_indexAddrMapE rfl rfl (by omega) rfl rfl (nb rfl) ⟨rfl, List.Perm.refl _⟩) ?_
            refine any_guardY rfl (by first | assumption | exact decide_eq_true (by first | assumption | omega) | exact decide_eq_false (by first | assumption | omega) | with_reducible rfl | exact (rfl : false = !true) | exact (rfl : true = !false)) (fun c => ow_fieldAddrPlace rfl rfl rfl (nb rfl) rfl (nb rfl) ⟨rfl, List.Perm.refl _⟩) ?_
            refine any_guardY rfl (by first | assumption | exact decide_eq_true (by first | assumption | omega) | exact decide_eq_false (by first | assumption | omega) | with_reducible rfl | exact (rfl : false = !true) | exact (rfl : true = !false)) (fun c => ow_loadPlace rfl rfl ⟨rfl, List.Perm.refl _⟩) ?_
            refine any_guardY rfl (by first | assumption | exact decide_eq_true (by first | assumption | omega) | exact decide_eq_false (by first | assumption | omega) | with_reducible rfl | exact (rfl : false = !true) | exact (rfl : true = !false)) (fun c => ow_neq rfl rfl ⟨rfl, List.Perm.refl _⟩) ?_
            refine any_op (fun c => ow_pickF rfl (by first | assumption | exact decide_eq_true (by first | assumption | omega) | exact decide_eq_false (by first | assumption | omega) | with_reducible rfl | exact (rfl : false = !true) | exact (rfl : true = !false)) rfl ⟨rfl, List.Perm.refl _⟩) ?_
            refine any_op (fun c => ow_move rfl ⟨rfl, List.Perm.refl _⟩) ?_
            refine any_guardN rfl (by first | assumption | exact decide_eq_true (by first | assumption | omega) | exact decide_eq_false (by first | assumption | omega) | with_reducible rfl | exact (rfl : false = !true) | exact (rfl : true = !false)) ?_
            refine any_guardN rfl (by first | assumption | exact decide_eq_true (by first | assumption | omega) | exact decide_eq_false (by first | assumption | omega) | with_reducible rfl | exact (rfl : false = !true) | exact (rfl : true = !false)) ?_
            refine any_guardN rfl (by first | assumption | exact decide_eq_true (by first | assumption | omega) | exact decide_eq_false (by first | assumption | omega) | with_reducible rfl | exact (rfl : false = !true) | exact (rfl : true = !false)) ?_
            refine any_guardN rfl (by first | assumption | exact decide_eq_true (by first | assumption | omega) | exact decide_eq_false (by first | assumption | omega) | with_reducible rfl | exact (rfl : false = !true) | exact (rfl : true = !false)) ?_
            refine any_guardN rfl (by first | assumption | exact decide_eq_true (by first | assumption | omega) | exact decide_eq_false (by first | assumption | omega) | with_reducible rfl | exact (rfl : false = !true) | exact (rfl : true = !false)) ?_
            refine any_guardN rfl (by first | assumption | exact decide_eq_true (by first | assumption | omega) | exact decide_eq_false (by first | assumption | omega) | with_reducible rfl | exact (rfl : false = !true) | exact (rfl : true = !false)) ?_
            refine any_guardN rfl (by first | assumption | exact decide_eq_true (by first | assumption | omega) | exact decide_eq_false (by first | assumption | omega) | with_reducible rfl | exact (rfl : false = !true) | exact (rfl : true = !false)) ?_
            refine any_guardN rfl (by first | assumption | exact decide_eq_true (by first | assumption | omega) | exact decide_eq_false (by first | assumption | omega) | with_reducible rfl | exact (rfl : false = !true) | exact (rfl : true = !false)) ?_
            refine any_guardN rfl (by first | assumption | exact decide_eq_true (by first | assumption | omega) | exact decide_eq_false (by first | assumption | omega) | with_reducible rfl | exact (rfl : false = !true) | exact (rfl : true = !false)) ?_
            refine any_guardN rfl (by first | assumption | exact decide_eq_true (by first | assumption | omega) | exact decide_eq_false (by first | assumption | omega) | with_reducible rfl | exact (rfl : false = !true) | exact (rfl : true = !false)) ?_
            refine any_guardN rfl (by first | assumption | exact decide_eq_true (by first | assumption | omega) | exact decide_eq_false (by first | assumption | omega) | with_reducible rfl | exact (rfl : false = !true) | exact (rfl : true = !false)) ?_
            refine any_op (fun c => ow_pickT rfl (by first | assumption | exact decide_eq_true (by first | assumption | omega) | exact decide_eq_false (by first | assumption | omega) | with_reducible rfl | exact (rfl : false = !true) | exact (rfl : true = !false)) rfl ⟨rfl, List.Perm.refl _⟩) ?_
            refine any_op (fun c => ow_move rfl ⟨rfl, List.Perm.refl _⟩) ?_
            refine any_guardN rfl (by first | assumption | exact decide_eq_true (by first | assumption | omega) | exact decide_eq_false (by first | assumption | omega) | with_reducible rfl | exact (rfl : false = !true) | exact (rfl : true = !false)) ?_
            refine any_guardN rfl (by first | assumption | exact decide_eq_true (by first | assumption | omega) | exact decide_eq_false (by first | assumption | omega) | with_reducible rfl | exact (rfl : false = !true) | exact (rfl : true = !false)) ?_
            refine any_guardU rfl ?_
            refine any_guardU rfl ?_
            refine any_guardU rfl ?_
            refine any_guardU rfl ?_
            refine any_guardU rfl ?_
            refine any_guardU rfl ?_
            refine any_guardU rfl ?_
            refine any_guardU rfl ?_
            refine any_guardU rfl ?_
            refine any_guardU rfl ?_
            refine any_guardU rfl ?_
            refine any_guardN rfl (by first | assumption | exact decide_eq_true (by first | assumption | omega) | exact decide_eq_false (by first | assumption | omega) | with_reducible rfl | exact (rfl : false = !true) | exact (rfl : true = !false)) ?_
            refine any_op (fun c => ow_pickT rfl (by first | assumption | exact decide_eq_true (by first | assumption | omega) | exact decide_eq_false (by first | assumption | omega) | with_reducible rfl | exact (rfl : false = !true) | exact (rfl : true = !false)) rfl ⟨rfl, List.Perm.refl _⟩) ?_
            refine any_nil ?_
            refine jq_then ?_
            refine jc_cond rfl (fun _ => ?_) (fun h => by cases h)
            refine jc_seq ?_
            refine jc_region ?_
            refine jl_op ?_ (nb rfl)
            refine ow_assign rfl ?_
            refine jl_nil ?_
            refine jq_then ?_
            refine jc_ret ?_
            refine jq_block_ret ?_
            refine jq_then_ret ?_
            refine jq_then_ret ?_
            refine jq_block_ret ?_
            refine jq_then_ret ?_
            refine jq_ret1 rfl rfl [] rfl (fun K h => by rw [sameL_no hlen2 k hlt' hlt2 hf] at h; exact h)
        · have hf : sameTok ln l[k] m[k] = false := by
            unfold sameTok
            rw [decide_eq_false hk1]
            rfl
          refine jc_skip ?_
          refine jq_then ?_
          refine jc_seq ?_
          refine jc_block ?_
          refine jc_seq ?_
          refine jc_any rfl rfl (by kernel_rfl) (by kernel_rfl) ?_
          refine any_op (fun c => ow_move rfl ⟨rfl, List.Perm.refl _⟩) ?_
          refine any_op (fun c => ow_move rfl ⟨rfl, List.Perm.refl _⟩) ?_
          refine any_op (fun c => ow_indexAddrMapE rfl rfl (by omega) rfl rfl (nb rfl) ⟨rfl, List.Perm.refl _⟩) ?_
          refine any_op (fun c => ow_fieldAddrPlace rfl rfl rfl (nb rfl) rfl (nb rfl) ⟨rfl, List.Perm.refl _⟩) ?_
          refine any_op (fun c => ow_loadPlace rfl rfl ⟨rfl, List.Perm.refl _⟩) ?_
          refine any_op (fun c => ow_move rfl ⟨rfl, List.Perm.refl _⟩) ?_
          refine any_op (fun c => ow_move rfl ⟨rfl, List.Perm.refl _⟩) ?_
          refine any_op (fun c => ow_indexAddrMapE rfl rfl (by omega) rfl rfl (nb rfl) ⟨rfl, List.Perm.refl _⟩) ?_
          refine any_op (fun c => ow_fieldAddrPlace rfl rfl rfl (nb rfl) rfl (nb rfl) ⟨rfl, List.Perm.refl _⟩) ?_
          refine any_op (fun c => ow_loadPlace rfl rfl ⟨rfl, List.Perm.refl _⟩) ?_
          refine any_op (fun c => ow_neq rfl rfl ⟨rfl, List.Perm.refl _⟩) ?_
          refine any_op (fun c => ow_move rfl ⟨rfl, List.Perm.refl _⟩) ?_
          refine any_guardN rfl (by first | assumption | exact decide_eq_true (by first | assumption | omega) | exact decide_eq_false (by first | assumption | omega) | with_reducible rfl | exact (rfl : false = !true) | exact (rfl : true = !false)) ?_
          refine any_guardN rfl (by first | assumption | exact decide_eq_true (by first | assumption | omega) | exact decide_eq_false (by first | assumption | omega) | with_reducible rfl | exact (rfl : false = !true) | exact (rfl : true = !false)) ?_
          refine any_guardN rfl (by first | assumption | exact decide_eq_true (by first | assumption | omega) | exact decide_eq_false (by first | assumption | omega) | with_reducible rfl | exact (rfl : false = !true) | exact (rfl : true = !false)) ?_
          refine any_guardN rfl (by first | assumption | exact decide_eq_true (by first | assumption | omega) | exact decide_eq_false (by first | assumption | omega) | with_reducible rfl | exact (rfl : false = !true) | exact (rfl : true = !false)) ?_
          refine any_guardN rfl (by first | assumption | exact decide_eq_true (by first | assumption | omega) | exact decide_eq_false (by first | assumption | omega) | with_reducible rfl | exact (rfl : false = !true) | exact (rfl : true = !false)) ?_
          refine any_guardN rfl (by first | assumption | exact decide_eq_true (by first | assumption | omega) | exact decide_eq_false (by first | assumption | omega) | with_reducible rfl | exact (rfl : false = !true) | exact (rfl : true = !false)) ?_
          refine any_guardN rfl (by first | assumption | exact decide_eq_true (by first | assumption | omega) | exact decide_eq_false (by first | assumption | omega) | with_reducible rfl | exact (rfl : false = !true) | exact (rfl : true = !false)) ?_
          refine any_guardN rfl (by first | assumption | exact decide_eq_true (by first | assumption | omega) | exact decide_eq_false (by first | assumption | omega) | with_reducible rfl | exact (rfl : false = !true) | exact (rfl : true = !false)) ?_
          refine any_guardN rfl (by first | assumption | exact decide_eq_true (by first | assumption | omega) | exact decide_eq_false (by first | assumption | omega) | with_reducible rfl | exact (rfl : false = !true) | exact (rfl : true = !false)) ?_
          refine any_guardN rfl (by first | assumption | exact decide_eq_true (by first | assumption | omega) | exact decide_eq_false (by first | assumption | omega) | with_reducible rfl | exact (rfl : false = !true) | exact (rfl : true = !false)) ?_
          refine any_guardN rfl (by first | assumption | exact decide_eq_true (by first | assumption | omega) | exact decide_eq_false (by first | assumption | omega) | with_reducible rfl | exact (rfl : false = !true) | exact (rfl : true = !false)) ?_
          refine any_op (fun c => ow_pickT rfl (by first | assumption | exact decide_eq_true (by first | assumption | omega) | exact decide_eq_false (by first | assumption | omega) | with_reducible rfl | exact (rfl : false = !true) | exact (rfl : true = !false)) rfl ⟨rfl, List.Perm.refl _⟩) ?_
          refine any_op (fun c => ow_move rfl ⟨rfl, List.Perm.refl _⟩) ?_
          refine any_guardN rfl (by first | assumption | exact decide_eq_true (by first | assumption | omega) | exact decide_eq_false (by first | assumption | omega) | with_reducible rfl | exact (rfl : false = !true) | exact (rfl : true = !false)) ?_
          refine any_guardN rfl (by first | assumption | exact decide_eq_true (by first | assumption | omega) | exact decide_eq_false (by first | assumption | omega) | with_reducible rfl | exact (rfl : false = !true) | exact (rfl : true = !false)) ?_
          refine any_guardN rfl (by first | assumption | exact decide_eq_true (by first | assumption | omega) | exact decide_eq_false (by first | assumption | omega) | with_reducible rfl | exact (rfl : false = !true) | exact (rfl : true = !false)) ?_
          refine any_guardN rfl (by first | assumption | exact decide_eq_true (by first | assumption | omega) | exact decide_eq_false (by first | assumption | omega) | with_reducible rfl | exact (rfl : false = !true) | exact (rfl : true = !false)) ?_
          refine any_guardN rfl (by first | assumption | exact decide_eq_true (by first | assumption | omega) | exact decide_eq_false (by first | assumption | omega) | with_reducible rfl | exact (rfl : false = !true) | exact (rfl : true = !false)) ?_
          refine any_guardN rfl (by first | assumption | exact decide_eq_true (by first | assumption | omega) | exact decide_eq_false (by first | assumption | omega) | with_reducible rfl | exact (rfl : false = !true) | exact (rfl : true = !false)) ?_
          refine any_guardN rfl (by first | assumption | exact decide_eq_true (by first | assumption | omega) | exact decide_eq_false (by first | assumption | omega) | with_reducible rfl | exact (rfl : false = !true) | exact (rfl : true = !false)) ?_
          refine any_guardN rfl (by first | assumption | exact decide_eq_true (by first | assumption | omega) | exact decide_eq_false (by first | assumption | omega) | with_reducible rfl | exact (rfl : false = !true) | exact (rfl : true = !false)) ?_
          refine any_guardN rfl (by first | assumption | exact decide_eq_true (by first | assumption | omega) | exact decide_eq_false (by first | assumption | omega) | with_reducible rfl | exact (rfl : false = !true) | exact (rfl : true = !false)) ?_
          refine any_guardN rfl (by first | assumption | exact decide_eq_true (by first | assumption | omega) | exact decide_eq_false (by first | assumption | omega) | with_reducible rfl | exact (rfl : false = !true) | exact (rfl : true = !false)) ?_
          refine any_guardN rfl (by first | assumption | exact decide_eq_true (by first | assumption | omega) | exact decide_eq_false (by first | assumption | omega) | with_reducible rfl | exact (rfl : false = !true) | exact (rfl : true = !false)) ?_
          refine any_op (fun c => ow_pickT rfl (by first | assumption | exact decide_eq_true (by first | assumption | omega) | exact decide_eq_false (by first | assumption | omega) | with_reducible rfl | exact (rfl : false = !true) | exact (rfl : true = !false)) rfl ⟨rfl, List.Perm.refl _⟩) ?_
          refine any_op (fun c => ow_move rfl ⟨rfl, List.Perm.refl _⟩) ?_
          refine any_guardN rfl (by first | assumption | exact decide_eq_true (by first | assumption | omega) | exact decide_eq_false (by first | assumption | omega) | with_reducible rfl | exact (rfl : false = !true) | exact (rfl : true = !false)) ?_
          refine any_guardN rfl (by first | assumption | exact decide_eq_true (by first | assumption | omega) | exact decide_eq_false (by first | assumption | omega) | with_reducible rfl | exact (rfl : false = !true) | exact (rfl : true = !false)) ?_
          refine any_guardU rfl ?_
          refine any_guardU rfl ?_
          refine any_guardU rfl ?_
          refine any_guardU rfl ?_
          refine any_guardU rfl ?_
          refine any_guardU rfl ?_
          refine any_guardU rfl ?_
          refine any_guardU rfl ?_
          refine any_guardU rfl ?_
          refine any_guardU rfl ?_
          refine any_guardU rfl ?_
          refine any_guardN rfl (by first | assumption | exact decide_eq_true (by first | assumption | omega) | exact decide_eq_false (by first | assumption | omega) | with_reducible rfl | exact (rfl : false = !true) | exact (rfl : true = !false)) ?_
          refine any_op (fun c => ow_pickT rfl (by first | assumption | exact decide_eq_true (by first | assumption | omega) | exact decide_eq_false (by first | assumption | omega) | with_reducible rfl | exact (rfl : false = !true) | exact (rfl : true = !false)) rfl ⟨rfl, List.Perm.refl _⟩) ?_
          refine any_nil ?_
          refine jq_then ?_
          refine jc_cond rfl (fun _ => ?_) (fun h => by cases h)
          refine jc_seq ?_
          refine jc_region ?_
          refine jl_op ?_ (nb rfl)
          refine ow_assign rfl ?_
          refine jl_nil ?_
          refine jq_then ?_
          refine jc_ret ?_
          refine jq_block_ret ?_
          refine jq_then_ret ?_
          refine jq_then_ret ?_
          refine jq_block_ret ?_
          refine jq_then_ret ?_
          refine jq_ret1 rfl rfl [] rfl (fun K h => by rw [sameL_no hlen2 k hlt' hlt2 hf] at h; exact h)
      · refine jc_exit ?_
        refine jq_then_exit ?_
        refine jq_then_exit ?_
        refine jq_block_exit ?_
        refine jq_then ?_
        refine jc_seq ?_
        refine jc_region ?_
        refine jl_op ?_ (nb rfl)
        refine ow_assign rfl ?_
        refine jl_nil ?_
        refine jq_then ?_
        refine jc_ret ?_
        have e : sameL ln l m = true := sameL_yes hlen2 (fun j h1 h2 => hall j h1 h2 (by omega))
        refine jq_ret1 rfl rfl [] rfl (fun K h => by rw [e] at h; exact h)
end Go.Proofs.YtccojifhaoadbaaDoor
