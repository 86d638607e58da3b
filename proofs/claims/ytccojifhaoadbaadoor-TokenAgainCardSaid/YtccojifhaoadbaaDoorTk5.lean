import Derived.Test.YtccojifhaoadbaaDoorTk4
namespace Go.Proofs.YtccojifhaoadbaaDoor
open Go.Vc
attribute [local irreducible] JL JC JQ OpWp Con ConN

/-- A text's row. -/
def Trow (s : ByteArray) : List C := [.val (.string s)]
/-- All signs, longer ones first. -/
def SL2 : List ByteArray := [⟨#[60, 60]⟩, ⟨#[62, 62]⟩, ⟨#[60, 61]⟩, ⟨#[61, 61]⟩, ⟨#[33, 61]⟩]
def SL1 : List ByteArray := [⟨#[43]⟩, ⟨#[45]⟩, ⟨#[42]⟩, ⟨#[47]⟩, ⟨#[37]⟩, ⟨#[38]⟩, ⟨#[124]⟩, ⟨#[94]⟩, ⟨#[60]⟩, ⟨#[61]⟩, ⟨#[40]⟩, ⟨#[41]⟩, ⟨#[91]⟩, ⟨#[93]⟩, ⟨#[123]⟩, ⟨#[125]⟩]
theorem Signs_c : Con Tryd.prog 30 [] [] (fun K => K (.cell (.list ((SL2 ++ SL1).map Trow))) []) := by
  refine con_intro Tryd.func30 rfl rfl (Nat.le_of_ble_eq_true rfl) (fun c hc => ?_)
  refine jc_seq ?_
  refine jc_region ?_
  refine jl_op ?_ (nb rfl)
  refine ow_assign rfl ?_
  refine jl_nil ?_
  refine jq_then ?_
  refine jc_seq ?_
  refine jc_region ?_
  refine jl_op ?_ (nb rfl)
  refine ow_buildSlice rfl rfl (nb rfl) rfl rfl (nb rfl) ?_
  refine jl_op ?_ (nb rfl)
  refine ow_assign rfl ?_
  refine jl_nil ?_
  refine jq_then ?_
  refine jc_ret ?_
  refine jq_ret1 rfl rfl [] rfl (fun K h => h)
/-- Whether a text begins with another. -/
def begins (s t : ByteArray) : Bool := decide (t.size ≤ s.size) && decide (s.extract 0 t.size = t)
def rsign (s : ByteArray) : ByteArray := ((SL2 ++ SL1).find? (begins s)).getD ⟨#[]⟩
theorem rsign_c (s : ByteArray) (hs : s.size ≤ 1000000) : Con Tryd.prog 22 [Str s] [] (fun K => K (Str (rsign s)) []) := by
  refine con_intro Tryd.func22 rfl rfl (Nat.le_of_ble_eq_true rfl) (fun c hc => ?_)
  have hS := Signs_c
  have hr : rsign s = ((SL2 ++ SL1).find? (begins s)).getD ⟨#[]⟩ := rfl
  have hlen : (SL2 ++ SL1).length = 21 := rfl
  have hall : ∀ t ∈ SL2 ++ SL1, t.size ≤ 2 := by
    intro t ht
    rcases List.mem_append.1 ht with h | h <;> simp only [SL2, SL1, List.mem_cons, List.not_mem_nil, or_false] at h
    · rcases h with rfl | rfl | rfl | rfl | rfl <;> decide
    · rcases h with rfl | rfl | rfl | rfl | rfl | rfl | rfl | rfl | rfl | rfl | rfl | rfl | rfl | rfl | rfl | rfl <;> decide
  revert hS hr hlen hall
  generalize SL2 ++ SL1 = L
  intro hS hr hlen hall
  have eL : (L.map Trow).length = L.length := List.length_map _
  refine jc_seq ?_
  refine jc_region ?_
  refine jl_op ?_ (nb rfl)
  refine ow_assign rfl ?_
  refine jl_nil ?_
  refine jq_then ?_
  refine jc_seq ?_
  refine jc_region ?_
  refine jl_op ?_ (nb rfl)
  refine ow_call0 rfl (hS) ?_
  refine jl_op ?_ (nb rfl)
  refine ow_assign rfl ?_
  refine jl_nil ?_
  refine jq_then ?_
  refine jc_seq ?_
  refine jc_seq ?_
  refine jc_region ?_
  refine jl_op ?_ (nb rfl)
  refine ow_assign rfl ?_
  refine jl_nil ?_
  refine jq_then ?_
  refine jc_block ?_
  refine jc_loopS [] (fun k : Nat => k ≤ L.length ∧ ∀ j (h : j < L.length), j < k → begins s L[j] = false) (fun k => [(0, Str s), (3, .cell (.list (L.map Trow))), (4, In .i64 (k : Int))]) (fun _ => []) (fun k => L.length - k) 0 ⟨Nat.zero_le _, fun j _ h => by omega⟩ ?_ ?_ ?_
  · exact sub_end
  · (repeat (first | exact True.intro | refine ⟨rfl, ?_⟩))
  · rintro k ⟨hk, hno⟩
    refine jc_reset [(0, Str s), (3, .cell (.list (L.map Trow))), (4, In .i64 (k : Int))] [] ?_ ⟨[], [], rfl⟩ ?_
    · (repeat (first | exact True.intro | refine ⟨rfl, ?_⟩))
    refine jc_seq ?_
    refine jc_seq ?_
    refine jc_region ?_
    refine jl_op ?_ (nb rfl)
    refine ow_move rfl ?_
    refine jl_op ?_ (nb rfl)
    refine ow_move rfl ?_
    refine jl_op ?_ (nb rfl)
    refine ow_len rfl (fun hlen => ?_)
    refine jl_op ?_ (nb rfl)
    refine ow_lss rfl rfl ?_
    refine jl_nil ?_
    refine jq_then ?_
    refine jc_condd rfl (fun hlt => ?_) (fun hge => ?_)
    · have hlt' : k < L.length := by omega
      have h2 := hall L[k] (List.getElem_mem hlt')
      by_cases hsz : (L[k].size : Int) ≤ (s.size : Int)
      · refine jc_skip ?_
        refine jq_then ?_
        refine jc_seq ?_
        refine jc_block ?_
        refine jc_seq ?_
        refine jc_any rfl rfl (by kernel_rfl) (by kernel_rfl) ?_
        refine any_op (fun c => ow_move rfl ⟨rfl, List.Perm.refl _⟩) ?_
        refine any_op (fun c => ow_lenstr rfl rfl ⟨rfl, List.Perm.refl _⟩) ?_
        refine any_op (fun c => ow_move rfl ⟨rfl, List.Perm.refl _⟩) ?_
        refine any_op (fun c => ow_move rfl ⟨rfl, List.Perm.refl _⟩) ?_
        refine any_op (fun c => ow_indexAddrMapE rfl rfl (by omega) rfl rfl (nb rfl) ⟨rfl, List.Perm.refl _⟩) ?_
        refine any_op (fun c => ow_loadPlace rfl rfl ⟨rfl, List.Perm.refl _⟩) ?_
        refine any_op (fun c => ow_lenstr rfl rfl ⟨rfl, List.Perm.refl _⟩) ?_
        refine any_op (fun c => ow_geq rfl rfl ⟨rfl, List.Perm.refl _⟩) ?_
        refine any_op (fun c => ow_move rfl ⟨rfl, List.Perm.refl _⟩) ?_
        refine any_guardY rfl (by first | assumption | exact decide_eq_true (by first | assumption | omega) | exact decide_eq_false (by first | assumption | omega) | with_reducible rfl | exact (rfl : false = !true) | exact (rfl : true = !false)) (fun c => ow_move rfl ⟨rfl, List.Perm.refl _⟩) ?_
        refine any_guardY rfl (by first | assumption | exact decide_eq_true (by first | assumption | omega) | exact decide_eq_false (by first | assumption | omega) | with_reducible rfl | exact (rfl : false = !true) | exact (rfl : true = !false)) (fun c => ow_move rfl ⟨rfl, List.Perm.refl _⟩) ?_
        refine any_guardY rfl (by first | assumption | exact decide_eq_true (by first | assumption | omega) | exact decide_eq_false (by first | assumption | omega) | with_reducible rfl | exact (rfl : false = !true) | exact (rfl : true = !false)) (fun c => ow_move rfl ⟨rfl, List.Perm.refl _⟩) ?_
        refine any_guardY rfl (by first | assumption | exact decide_eq_true (by first | assumption | omega) | exact decide_eq_false (by first | assumption | omega) | with_reducible rfl | exact (rfl : false = !true) | exact (rfl : true = !false)) (fun c => ow_indexAddrMapE rfl rfl (by omega) rfl rfl (nb rfl) ⟨rfl, List.Perm.refl _⟩) ?_
        refine any_guardY rfl (by first | assumption | exact decide_eq_true (by first | assumption | omega) | exact decide_eq_false (by first | assumption | omega) | with_reducible rfl | exact (rfl : false = !true) | exact (rfl : true = !false)) (fun c => ow_loadPlace rfl rfl ⟨rfl, List.Perm.refl _⟩) ?_
        refine any_guardY rfl (by first | assumption | exact decide_eq_true (by first | assumption | omega) | exact decide_eq_false (by first | assumption | omega) | with_reducible rfl | exact (rfl : false = !true) | exact (rfl : true = !false)) (fun c => ow_lenstr rfl rfl ⟨rfl, List.Perm.refl _⟩) ?_
        refine any_guardY rfl (by first | assumption | exact decide_eq_true (by first | assumption | omega) | exact decide_eq_false (by first | assumption | omega) | with_reducible rfl | exact (rfl : false = !true) | exact (rfl : true = !false)) (fun c => ow_substrHi rfl rfl rfl (by omega) (by omega) ⟨rfl, List.Perm.refl _⟩) ?_
        refine any_guardY rfl (by first | assumption | exact decide_eq_true (by first | assumption | omega) | exact decide_eq_false (by first | assumption | omega) | with_reducible rfl | exact (rfl : false = !true) | exact (rfl : true = !false)) (fun c => ow_move rfl ⟨rfl, List.Perm.refl _⟩) ?_
        refine any_guardY rfl (by first | assumption | exact decide_eq_true (by first | assumption | omega) | exact decide_eq_false (by first | assumption | omega) | with_reducible rfl | exact (rfl : false = !true) | exact (rfl : true = !false)) (fun c => ow_move rfl ⟨rfl, List.Perm.refl _⟩) ?_
        refine any_guardY rfl (by first | assumption | exact decide_eq_true (by first | assumption | omega) | exact decide_eq_false (by first | assumption | omega) | with_reducible rfl | exact (rfl : false = !true) | exact (rfl : true = !false)) (fun c => ow_indexAddrMapE rfl rfl (by omega) rfl rfl (nb rfl) ⟨rfl, List.Perm.refl _⟩) ?_
        refine any_guardY rfl (by first | assumption | exact decide_eq_true (by first | assumption | omega) | exact decide_eq_false (by first | assumption | omega) | with_reducible rfl | exact (rfl : false = !true) | exact (rfl : true = !false)) (fun c => ow_loadPlace rfl rfl ⟨rfl, List.Perm.refl _⟩) ?_
        refine any_guardY rfl (by first | assumption | exact decide_eq_true (by first | assumption | omega) | exact decide_eq_false (by first | assumption | omega) | with_reducible rfl | exact (rfl : false = !true) | exact (rfl : true = !false)) (fun c => ow_streql rfl rfl ⟨rfl, List.Perm.refl _⟩) ?_
        refine any_op (fun c => ow_pickT rfl (by first | assumption | exact decide_eq_true (by first | assumption | omega) | exact decide_eq_false (by first | assumption | omega) | with_reducible rfl | exact (rfl : false = !true) | exact (rfl : true = !false)) rfl ⟨rfl, List.Perm.refl _⟩) ?_
        refine any_nil ?_
        refine jq_then ?_
        refine jc_condd rfl (fun hb => ?_) (fun hb => ?_)
        · have hb' : begins s L[k] = true := by
            unfold begins
            rw [decide_eq_true (show L[k].size ≤ s.size by omega), decide_eq_true (show s.extract 0 L[k].size = L[k] from hb)]
            rfl
          have e : rsign s = L[k] := by
            rw [hr, (List.find?_eq_some_iff_getElem).2 ⟨hb', k, hlt', rfl, fun j hj => by rw [hno j (by omega) hj]; rfl⟩]
            rfl
          refine jc_seq ?_
          refine jc_region ?_
          refine jl_op ?_ (nb rfl)
          refine ow_move rfl ?_
          refine jl_op ?_ (nb rfl)
          refine ow_move rfl ?_
          refine jl_op ?_ (nb rfl)
          refine ow_indexAddrMapE rfl rfl (by omega) rfl rfl (nb rfl) ?_
          refine jl_op ?_ (nb rfl)
          refine ow_loadPlace rfl rfl ?_
          refine jl_op ?_ (nb rfl)
          refine ow_assign rfl ?_
          refine jl_nil ?_
          refine jq_then ?_
          refine jc_ret ?_
          refine jq_block_ret ?_
          refine jq_then_ret ?_
          refine jq_then_ret ?_
          refine jq_block_ret ?_
          refine jq_then_ret ?_
          refine jq_ret1 rfl rfl [] rfl (fun K h => by rw [e] at h; exact h)
        · have hf : begins s L[k] = false := by
            unfold begins
            rw [decide_eq_false (show ¬ s.extract 0 L[k].size = L[k] from hb), Bool.and_false]
          refine jc_skip ?_
          refine jq_block ?_
          refine jq_then ?_
          refine jc_region ?_
          refine jl_op ?_ (nb rfl)
          refine ow_move rfl ?_
          refine jl_op ?_ (nb rfl)
          refine ow_add64 rfl rfl (by omega) ?_
          refine jl_op ?_ (nb rfl)
          refine ow_assign rfl ?_
          refine jl_nil ?_
          refine jq_againS (k + 1) ⟨by omega, fun j hj hjk => by
            by_cases e : j < k
            · exact hno j hj e
            · obtain rfl : j = k := by omega
              exact hf⟩ (by omega) ?_ ?_
          · exact sub_end
          · (repeat (first | exact True.intro | refine ⟨rfl, ?_⟩))
      · have hf : begins s L[k] = false := by
          unfold begins
          rw [decide_eq_false (show ¬ L[k].size ≤ s.size by omega), Bool.false_and]
        refine jc_skip ?_
        refine jq_then ?_
        refine jc_seq ?_
        refine jc_block ?_
        refine jc_seq ?_
        refine jc_any rfl rfl (by kernel_rfl) (by kernel_rfl) ?_
        refine any_op (fun c => ow_move rfl ⟨rfl, List.Perm.refl _⟩) ?_
        refine any_op (fun c => ow_lenstr rfl rfl ⟨rfl, List.Perm.refl _⟩) ?_
        refine any_op (fun c => ow_move rfl ⟨rfl, List.Perm.refl _⟩) ?_
        refine any_op (fun c => ow_move rfl ⟨rfl, List.Perm.refl _⟩) ?_
        refine any_op (fun c => ow_indexAddrMapE rfl rfl (by omega) rfl rfl (nb rfl) ⟨rfl, List.Perm.refl _⟩) ?_
        refine any_op (fun c => ow_loadPlace rfl rfl ⟨rfl, List.Perm.refl _⟩) ?_
        refine any_op (fun c => ow_lenstr rfl rfl ⟨rfl, List.Perm.refl _⟩) ?_
        refine any_op (fun c => ow_geq rfl rfl ⟨rfl, List.Perm.refl _⟩) ?_
        refine any_op (fun c => ow_move rfl ⟨rfl, List.Perm.refl _⟩) ?_
        refine any_guardN rfl (by first | assumption | exact decide_eq_true (by first | assumption | omega) | exact decide_eq_false (by first | assumption | omega) | with_reducible rfl | exact (rfl : false = !true) | exact (rfl : true = !false)) ?_
        refine any_guardN rfl (by first | assumption | exact decide_eq_true (by first | assumption | omega) | exact decide_eq_false (by first | assumption | omega) | with_reducible rfl | exact (rfl : false = !true) | exact (rfl : true = !false)) ?_
        refine any_guardN rfl (by first | assumption | exact decide_eq_true (by first | assumption | omega) | exact decide_eq_false (by first | assumption | omega) | with_reducible rfl | exact (rfl : false = !true) | exact (rfl : true = !false)) ?_
        refine any_guardN rfl (by first | assumption | exact decide_eq_true (by first | assumption | omega) | exact decide_eq_false (by first | assumption | omega) | with_reducible rfl | exact (rfl : false = !true) | exact (rfl : true = !false)) ?_
        refine any_guardN rfl (by first | assumption | exact decide_eq_true (by first | assumption | omega) | exact decide_eq_false (by first | assumption | omega) | with_reducible rfl | exact (rfl : false = !true) | exact (rfl : true = !false)) ?_
        refine any_guardN rfl (by first | assumption | exact decide_eq_true (by first | assumption | omega) | exact decide_eq_false (by first | assumption | omega) | with_reducible rfl | exact (rfl : false = !true) | exact (rfl : true = !false)) ?_
        refine any_guardN rfl (by first | assumption | exact decide_eq_true (by first | assumption | omega) | exact decide_eq_false (by first | assumption | omega) | with_reducible rfl | exact (rfl : false = !true) | exact (rfl : true = !false)) ?_
        refine any_guardN rfl (by first | assumption | exact decide_eq_true (by first | assumption | omega) | exact decide_eq_false (by first | assumption | omega) | with_reducible rfl | exact (rfl : false = !true) | exact (rfl : true = !false)) ?_
        refine any_guardN rfl (by first | assumption | exact decide_eq_true (by first | assumption | omega) | exact decide_eq_false (by first | assumption | omega) | with_reducible rfl | exact (rfl : false = !true) | exact (rfl : true = !false)) ?_
        refine any_guardN rfl (by first | assumption | exact decide_eq_true (by first | assumption | omega) | exact decide_eq_false (by first | assumption | omega) | with_reducible rfl | exact (rfl : false = !true) | exact (rfl : true = !false)) ?_
        refine any_guardN rfl (by first | assumption | exact decide_eq_true (by first | assumption | omega) | exact decide_eq_false (by first | assumption | omega) | with_reducible rfl | exact (rfl : false = !true) | exact (rfl : true = !false)) ?_
        refine any_guardN rfl (by first | assumption | exact decide_eq_true (by first | assumption | omega) | exact decide_eq_false (by first | assumption | omega) | with_reducible rfl | exact (rfl : false = !true) | exact (rfl : true = !false)) ?_
        refine any_op (fun c => ow_pickF rfl (by first | assumption | exact decide_eq_true (by first | assumption | omega) | exact decide_eq_false (by first | assumption | omega) | with_reducible rfl | exact (rfl : false = !true) | exact (rfl : true = !false)) rfl ⟨rfl, List.Perm.refl _⟩) ?_
        refine any_nil ?_
        refine jq_then ?_
        refine jc_cond rfl (fun h => by cases h) (fun _ => ?_)
        refine jc_skip ?_
        refine jq_block ?_
        refine jq_then ?_
        refine jc_region ?_
        refine jl_op ?_ (nb rfl)
        refine ow_move rfl ?_
        refine jl_op ?_ (nb rfl)
        refine ow_add64 rfl rfl (by omega) ?_
        refine jl_op ?_ (nb rfl)
        refine ow_assign rfl ?_
        refine jl_nil ?_
        refine jq_againS (k + 1) ⟨by omega, fun j hj hjk => by
          by_cases e : j < k
          · exact hno j hj e
          · obtain rfl : j = k := by omega
            exact hf⟩ (by omega) ?_ ?_
        · exact sub_end
        · (repeat (first | exact True.intro | refine ⟨rfl, ?_⟩))
    · have e : rsign s = ⟨#[]⟩ := by
        rw [hr, List.find?_eq_none.2 (fun x hx => by obtain ⟨j, hj, rfl⟩ := List.mem_iff_getElem.1 hx; rw [hno j hj (by omega)]; simp)]
        rfl
      refine jc_exit ?_
      refine jq_then_exit ?_
      refine jq_then_exit ?_
      refine jq_block_exit ?_
      refine jq_then ?_
      refine jc_seq ?_
      refine jc_region ?_
      refine jl_op ?_ (nb rfl)
      refine ow_assign rfl ?_
      refine jl_nil ?_
      refine jq_then ?_
      refine jc_ret ?_
      refine jq_ret1 rfl rfl [] rfl (fun K h => by rw [e] at h; exact h)
end Go.Proofs.YtccojifhaoadbaaDoor
