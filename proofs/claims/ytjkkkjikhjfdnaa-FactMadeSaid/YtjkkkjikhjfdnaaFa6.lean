import Derived.Test.YtjkkkjikhjfdnaaFa5
import Derived.Test.YtjkkkjikhjfdnaaVcm
namespace Go.Proofs.Ytjkkkjikhjfdnaa
open Go.Vc
attribute [local irreducible] JL JC JQ OpWp Con ConN
attribute [local irreducible] isSmall isBlock
set_option maxHeartbeats 4000000

theorem two : Two Try.prog 44 3 .i64 :=
  ⟨by kernel_rfl, by kernel_rfl, by kernel_rfl, ⟨(Try.prog.fieldsOf 44)[0]!, (Try.prog.fieldsOf 44)[1]!, by kernel_rfl, by rw [show ((Try.prog.fieldsOf 44)[0]!).name = "Of" by kernel_rfl]; decide, by rw [show ((Try.prog.fieldsOf 44)[1]!).name = "Coef" by kernel_rfl]; decide, by kernel_rfl, by kernel_rfl, by kernel_rfl, by kernel_rfl⟩, by kernel_rfl⟩
def sameF (f g : Fct) : Bool := decide (f.most = g.most ∧ f.terms = g.terms)
theorem SameM_c (l r : List Tm) (m n : Int) : Con Try.prog 20 [.row [.list (l.map TR), .val (.int .i64 m)], .row [.list (r.map TR), .val (.int .i64 n)]] [] (fun K => K (Bl (sameF ⟨l, m⟩ ⟨r, n⟩)) []) := by
  have eL : (l.map TR).length = l.length := List.length_map _
  have eR : (r.map TR).length = r.length := List.length_map _
  refine con_intro Try.func20 rfl rfl (Nat.le_of_ble_eq_true rfl) (fun c hc => ?_)
  by_cases h1 : m = n
  · subst h1
    refine jc_seq ?_
    refine jc_region ?_
    refine jl_op ?_ (nb rfl)
    refine ow_box rfl (fun bx => ?_)
    refine jl_op ?_ (nb rfl)
    refine ow_box rfl (fun bx => ?_)
    refine jl_op ?_ (nb rfl)
    refine ow_assign rfl ?_
    refine jl_nil ?_
    refine jq_then ?_
    refine jc_seq ?_
    refine jc_seq ?_
    refine jc_region ?_
    refine jl_op ?_ (nb rfl)
    refine ow_fieldAddr rfl rfl rfl (nb rfl) ?_
    refine jl_op ?_ (nb rfl)
    refine ow_load 1 rfl rfl rfl rfl ?_
    refine jl_op ?_ (nb rfl)
    refine ow_fieldAddr rfl rfl rfl (nb rfl) ?_
    refine jl_op ?_ (nb rfl)
    refine ow_load 0 rfl rfl rfl rfl ?_
    refine jl_op ?_ (nb rfl)
    refine ow_neq rfl rfl ?_
    refine jl_op ?_ (nb rfl)
    refine ow_move rfl ?_
    refine jl_guardY rfl (by first | assumption | exact decide_eq_true rfl | exact decide_eq_true (by first | assumption | omega) | exact decide_eq_false (by first | assumption | omega) | with_reducible rfl | exact (rfl : false = !true) | exact (rfl : true = !false)) (nb rfl) ?_
    refine ow_fieldAddr rfl rfl rfl (nb rfl) ?_
    refine jl_guardY rfl (by first | assumption | exact decide_eq_true rfl | exact decide_eq_true (by first | assumption | omega) | exact decide_eq_false (by first | assumption | omega) | with_reducible rfl | exact (rfl : false = !true) | exact (rfl : true = !false)) (nb rfl) ?_
    refine ow_load 1 rfl rfl rfl rfl ?_
    refine jl_guardY rfl (by first | assumption | exact decide_eq_true rfl | exact decide_eq_true (by first | assumption | omega) | exact decide_eq_false (by first | assumption | omega) | with_reducible rfl | exact (rfl : false = !true) | exact (rfl : true = !false)) (nb rfl) ?_
    refine ow_len rfl (fun hlen => ?_)
    refine jl_guardY rfl (by first | assumption | exact decide_eq_true rfl | exact decide_eq_true (by first | assumption | omega) | exact decide_eq_false (by first | assumption | omega) | with_reducible rfl | exact (rfl : false = !true) | exact (rfl : true = !false)) (nb rfl) ?_
    refine ow_fieldAddr rfl rfl rfl (nb rfl) ?_
    refine jl_guardY rfl (by first | assumption | exact decide_eq_true rfl | exact decide_eq_true (by first | assumption | omega) | exact decide_eq_false (by first | assumption | omega) | with_reducible rfl | exact (rfl : false = !true) | exact (rfl : true = !false)) (nb rfl) ?_
    refine ow_load 0 rfl rfl rfl rfl ?_
    refine jl_guardY rfl (by first | assumption | exact decide_eq_true rfl | exact decide_eq_true (by first | assumption | omega) | exact decide_eq_false (by first | assumption | omega) | with_reducible rfl | exact (rfl : false = !true) | exact (rfl : true = !false)) (nb rfl) ?_
    refine ow_len rfl (fun hlen => ?_)
    refine jl_guardY rfl (by first | assumption | exact decide_eq_true rfl | exact decide_eq_true (by first | assumption | omega) | exact decide_eq_false (by first | assumption | omega) | with_reducible rfl | exact (rfl : false = !true) | exact (rfl : true = !false)) (nb rfl) ?_
    refine ow_neq rfl rfl ?_
    refine jl_op ?_ (nb rfl)
    refine ow_pickF rfl (by first | assumption | exact decide_eq_true rfl | exact decide_eq_true (by first | assumption | omega) | exact decide_eq_false (by first | assumption | omega) | with_reducible rfl | exact (rfl : false = !true) | exact (rfl : true = !false)) rfl ?_
    refine jl_nil ?_
    refine jq_then ?_
    rename_i bF hlenF
    refine jc_condd rfl (fun hne => ?_) (fun heq => ?_)
    · have e : sameF ⟨l, m⟩ ⟨r, m⟩ = false := decide_eq_false (fun h => hne (by have h2 : l = r := h.2; rw [h2]))
      refine jc_seq ?_
      refine jc_region ?_
      refine jl_op ?_ (nb rfl)
      refine ow_assign rfl ?_
      refine jl_nil ?_
      refine jq_then ?_
      refine jc_ret ?_
      refine jq_then_ret ?_
      refine jq_ret1 rfl rfl [] rfl (fun K h => by rw [e] at h; exact h)
    · have hlr : l.length = r.length := by omega
      refine jc_skip ?_
      refine jq_then ?_
      refine jc_seq ?_
      refine jc_seq ?_
      refine jc_region ?_
      refine jl_op ?_ (nb rfl)
      refine ow_assign rfl ?_
      refine jl_nil ?_
      refine jq_then ?_
      refine jc_block ?_
      refine jc_loopS (ι := Nat) [] (fun k => k ≤ l.length ∧ l.take k = r.take k) (fun k => [(2, .cell (.val (.pointer (some ⟨bF, 0, none⟩)))), (3, .cell (.val (.pointer (some ⟨bx, 0, none⟩)))), (5, In .i64 (k : Int))]) (fun _ => [.blk bx 30 [.list (r.map TR), .val (.int .i64 m)], .blk bF 30 [.list (l.map TR), .val (.int .i64 m)]]) (fun k => l.length - k) 0 ⟨Nat.zero_le _, rfl⟩ ?_ ?_ ?_
      · refine sub_step 0 rfl ?_
        refine sub_step 0 rfl ?_
        exact sub_end
      · (repeat (first | exact True.intro | refine ⟨rfl, ?_⟩))
      · rintro k ⟨hk, hke⟩
        refine jc_reset [(2, .cell (.val (.pointer (some ⟨bF, 0, none⟩)))), (3, .cell (.val (.pointer (some ⟨bx, 0, none⟩)))), (5, In .i64 (k : Int))] [.blk bx 30 [.list (r.map TR), .val (.int .i64 m)], .blk bF 30 [.list (l.map TR), .val (.int .i64 m)]] ?_ ⟨[0, 0], [], rfl⟩ ?_
        · (repeat (first | exact True.intro | refine ⟨rfl, ?_⟩))
        refine jc_seq ?_
        refine jc_seq ?_
        refine jc_region ?_
        refine jl_op ?_ (nb rfl)
        refine ow_move rfl ?_
        refine jl_op ?_ (nb rfl)
        refine ow_fieldAddr rfl rfl rfl (nb rfl) ?_
        refine jl_op ?_ (nb rfl)
        refine ow_load 1 rfl rfl rfl rfl ?_
        refine jl_op ?_ (nb rfl)
        refine ow_len rfl (fun hlen => ?_)
        refine jl_op ?_ (nb rfl)
        refine ow_lss rfl rfl ?_
        refine jl_nil ?_
        refine jq_then ?_
        refine jc_condd rfl (fun hlt => ?_) (fun hge => ?_)
        · have hlt' : k < l.length := by omega
          have hltr : k < r.length := by omega
          refine jc_skip ?_
          refine jq_then ?_
          refine jc_seq ?_
          refine jc_block ?_
          refine jc_seq ?_
          refine jc_any rfl rfl (by kernel_rfl) (by kernel_rfl) ?_
          refine any_op (fun c => ow_fieldAddr rfl rfl rfl (nb rfl) ⟨rfl, List.Perm.refl _⟩) ?_
          refine any_op (fun c => ow_load 1 rfl rfl rfl rfl ⟨rfl, List.Perm.refl _⟩) ?_
          refine any_op (fun c => ow_move rfl ⟨rfl, List.Perm.refl _⟩) ?_
          refine any_op (fun c => ow_indexAddrMapE rfl rfl (by omega) rfl rfl (nb rfl) ⟨rfl, List.Perm.refl _⟩) ?_
          refine any_op (fun c => ow_loadPlaceN rfl rfl rfl ⟨rfl, List.Perm.refl _⟩) ?_
          refine any_op (fun c => ow_fieldAddr rfl rfl rfl (nb rfl) ⟨rfl, List.Perm.refl _⟩) ?_
          refine any_op (fun c => ow_load 0 rfl rfl rfl rfl ⟨rfl, List.Perm.refl _⟩) ?_
          refine any_op (fun c => ow_move rfl ⟨rfl, List.Perm.refl _⟩) ?_
          refine any_op (fun c => ow_indexAddrMapE rfl rfl (by omega) rfl rfl (nb rfl) ⟨rfl, List.Perm.refl _⟩) ?_
          refine any_op (fun c => ow_loadPlaceN rfl rfl rfl ⟨rfl, List.Perm.refl _⟩) ?_
          refine any_op (fun c => ow_neqTwo two rfl rfl rfl ⟨rfl, List.Perm.refl _⟩) ?_
          refine any_nil ?_
          refine jq_then ?_
          refine jc_condd rfl (fun hne => ?_) (fun hee => ?_)
          · have e : sameF ⟨l, m⟩ ⟨r, m⟩ = false := decide_eq_false (fun h => hne (by have h2 : l = r := h.2; subst h2; exact ⟨rfl, rfl⟩))
            refine jc_seq ?_
            refine jc_region ?_
            refine jl_op ?_ (nb rfl)
            refine ow_assign rfl ?_
            refine jl_nil ?_
            refine jq_then ?_
            refine jc_ret ?_
            refine jq_block_ret ?_
            refine jq_then_ret ?_
            refine jq_then_ret ?_
            refine jq_block_ret ?_
            refine jq_then_ret ?_
            refine jq_ret1 rfl rfl [] rfl (fun K h => by rw [e] at h; exact h)
          · have hee' : l[k] = r[k] := by
              have h2 := Classical.not_not.1 hee
              exact Prod.ext h2.1 h2.2
            refine jc_skip ?_
            refine jq_block ?_
            refine jq_then ?_
            refine jc_region ?_
            refine jl_op ?_ (nb rfl)
            refine ow_move rfl ?_
            refine jl_op ?_ (nb rfl)
            refine ow_add64 rfl rfl (by omega) ?_
            refine jl_op ?_ (nb rfl)
            refine ow_assign rfl ?_
            refine jl_nil ?_
            refine jq_againS (k + 1) ⟨by omega, by rw [List.take_succ_eq_append_getElem hlt', List.take_succ_eq_append_getElem hltr, hke, hee']⟩ (by omega) ?_ ?_
            · refine sub_step 0 rfl ?_
              refine sub_step 0 rfl ?_
              exact sub_end
            · (repeat (first | exact True.intro | refine ⟨rfl, ?_⟩))
        · have e : sameF ⟨l, m⟩ ⟨r, m⟩ = true := by
            rw [List.take_of_length_le (by omega), List.take_of_length_le (by omega)] at hke
            exact decide_eq_true ⟨rfl, hke⟩
          refine jc_exit ?_
          refine jq_then_exit ?_
          refine jq_then_exit ?_
          refine jq_block_exit ?_
          refine jq_then ?_
          refine jc_seq ?_
          refine jc_region ?_
          refine jl_op ?_ (nb rfl)
          refine ow_assign rfl ?_
          refine jl_nil ?_
          refine jq_then ?_
          refine jc_ret ?_
          refine jq_ret1 rfl rfl [] rfl (fun K h => by rw [e] at h; exact h)
  · have e : sameF ⟨l, m⟩ ⟨r, n⟩ = false := decide_eq_false (fun h => h1 h.1)
    refine jc_seq ?_
    refine jc_region ?_
    refine jl_op ?_ (nb rfl)
    refine ow_box rfl (fun bx => ?_)
    refine jl_op ?_ (nb rfl)
    refine ow_box rfl (fun bx => ?_)
    refine jl_op ?_ (nb rfl)
    refine ow_assign rfl ?_
    refine jl_nil ?_
    refine jq_then ?_
    refine jc_seq ?_
    refine jc_seq ?_
    refine jc_region ?_
    refine jl_op ?_ (nb rfl)
    refine ow_fieldAddr rfl rfl rfl (nb rfl) ?_
    refine jl_op ?_ (nb rfl)
    refine ow_load 1 rfl rfl rfl rfl ?_
    refine jl_op ?_ (nb rfl)
    refine ow_fieldAddr rfl rfl rfl (nb rfl) ?_
    refine jl_op ?_ (nb rfl)
    refine ow_load 0 rfl rfl rfl rfl ?_
    refine jl_op ?_ (nb rfl)
    refine ow_neq rfl rfl ?_
    refine jl_op ?_ (nb rfl)
    refine ow_move rfl ?_
    refine jl_guardN rfl (by first | assumption | exact decide_eq_true rfl | exact decide_eq_true (by first | assumption | omega) | exact decide_eq_false (by first | assumption | omega) | with_reducible rfl | exact (rfl : false = !true) | exact (rfl : true = !false)) (nb rfl) ?_
    refine jl_guardN rfl (by first | assumption | exact decide_eq_true rfl | exact decide_eq_true (by first | assumption | omega) | exact decide_eq_false (by first | assumption | omega) | with_reducible rfl | exact (rfl : false = !true) | exact (rfl : true = !false)) (nb rfl) ?_
    refine jl_guardN rfl (by first | assumption | exact decide_eq_true rfl | exact decide_eq_true (by first | assumption | omega) | exact decide_eq_false (by first | assumption | omega) | with_reducible rfl | exact (rfl : false = !true) | exact (rfl : true = !false)) (nb rfl) ?_
    refine jl_guardN rfl (by first | assumption | exact decide_eq_true rfl | exact decide_eq_true (by first | assumption | omega) | exact decide_eq_false (by first | assumption | omega) | with_reducible rfl | exact (rfl : false = !true) | exact (rfl : true = !false)) (nb rfl) ?_
    refine jl_guardN rfl (by first | assumption | exact decide_eq_true rfl | exact decide_eq_true (by first | assumption | omega) | exact decide_eq_false (by first | assumption | omega) | with_reducible rfl | exact (rfl : false = !true) | exact (rfl : true = !false)) (nb rfl) ?_
    refine jl_guardN rfl (by first | assumption | exact decide_eq_true rfl | exact decide_eq_true (by first | assumption | omega) | exact decide_eq_false (by first | assumption | omega) | with_reducible rfl | exact (rfl : false = !true) | exact (rfl : true = !false)) (nb rfl) ?_
    refine jl_guardN rfl (by first | assumption | exact decide_eq_true rfl | exact decide_eq_true (by first | assumption | omega) | exact decide_eq_false (by first | assumption | omega) | with_reducible rfl | exact (rfl : false = !true) | exact (rfl : true = !false)) (nb rfl) ?_
    refine jl_op ?_ (nb rfl)
    refine ow_pickT rfl (by first | assumption | exact decide_eq_true rfl | exact decide_eq_true (by first | assumption | omega) | exact decide_eq_false (by first | assumption | omega) | with_reducible rfl | exact (rfl : false = !true) | exact (rfl : true = !false)) rfl ?_
    refine jl_nil ?_
    refine jq_then ?_
    refine jc_cond rfl (fun _ => ?_) (fun h => by cases h)
    refine jc_seq ?_
    refine jc_region ?_
    refine jl_op ?_ (nb rfl)
    refine ow_assign rfl ?_
    refine jl_nil ?_
    refine jq_then ?_
    refine jc_ret ?_
    refine jq_then_ret ?_
    refine jq_ret1 rfl rfl [] rfl (fun K h => by rw [e] at h; exact h)
theorem Same_c (f g : Fct) : Con Try.prog 20 [.row (FR f), .row (FR g)] [] (fun K => K (Bl (sameF f g)) []) := SameM_c f.terms g.terms f.most g.most

/-! Map -/
def toAt (to : List (List Int)) (t : Tm) : List Int := to.getD t.1.toNat []
def mapT (to : List (List Int)) : List Tm → List Tm
  | [] => []
  | t :: r => (toAt to t).map (fun n => (n, t.2)) ++ mapT to r
theorem mapT_append (to : List (List Int)) (a b : List Tm) : mapT to (a ++ b) = mapT to a ++ mapT to b := by
  induction a with
  | nil => rfl
  | cons t a ih => simp only [List.cons_append, mapT, ih, List.append_assoc]
def outT (to : List (List Int)) (t : Tm) : Bool := decide ((to.length : Int) ≤ t.1)
def mapF (f : Fct) (to : List (List Int)) : Fct × Int :=
  if checkF f ≠ 0 then (F0, checkF f) else if mappedF to = false then (F0, 10) else if f.terms.any (outT to) = true then (F0, 11) else ofF (mapT to f.terms) f.most
theorem toAt_len {to : List (List Int)} (h : mappedF to = true) (t : Tm) : (toAt to t).length ≤ 256 := by
  unfold mappedF at h
  simp only [Bool.and_eq_true, Bool.not_eq_true'] at h
  unfold toAt
  rw [List.getD_eq_getElem?_getD]
  by_cases hx : t.1.toNat < to.length
  · rw [List.getElem?_eq_getElem hx, Option.getD_some]
    have := List.any_eq_false.1 h.2 to[t.1.toNat] (List.getElem_mem hx)
    unfold badList at this
    simp only [Bool.or_eq_true, decide_eq_true_eq, not_or] at this
    omega
  · rw [List.getElem?_eq_none (by omega), Option.getD_none]
    simp
theorem mapT_len {to : List (List Int)} (h : mappedF to = true) (l : List Tm) : (mapT to l).length ≤ 256 * l.length := by
  induction l with
  | nil => simp [mapT]
  | cons t l ih =>
    have := toAt_len h t
    simp only [mapT, List.length_append, List.length_map, List.length_cons]
    omega
theorem Map_c (f : Fct) (to : List (List Int)) : Con Try.prog 15 [.row (FR f), .cell (.list (to.map Lrow))] [] (fun K => K (.tup [.row (FR (mapF f to).1), In .i64 (mapF f to).2]) []) := by
  have hC := Check_c f
  have hO := Of_c (mapT to f.terms) f.most
  obtain ⟨l, most⟩ := f
  dsimp only at hO
  have eT : (l.map TR).length = l.length := List.length_map _
  have eL : (to.map Lrow).length = to.length := List.length_map _
  have fin0 : ∀ (e : Int) {c : Cx Try.prog Try.f15.ntmps} {env : Env} {bl : Nat} {Q : Ch}, mapF ⟨l, most⟩ to = (F0, e) → env.lookup 4 = some (.cell (.val (.pointer (some ⟨bl, 0, none⟩)))) → env.lookup 5 = some (In .i64 e) →
      JQ c (bodyPost Try.prog Try.f15 (RR c (fun K => K (.tup [.row (FR (mapF ⟨l, most⟩ to).1), In .i64 (mapF ⟨l, most⟩ to).2]) []))) .ret env [.blk bl 30 [.val (.slice none 0 0), .val (.int .i64 0)], Q] := by
    intro e c env bl Q he h4 h5
    refine jq_row 0 (FR F0) rfl (.cons .nil (.cons (.refl _) .nil)) ?_
    refine jq_retRowT rfl rfl rfl h4 h5 0 rfl (fun K h => by rw [he] at h; exact h) ?_
    exact sub_end
  have fin1 : ∀ (e : Int) {c : Cx Try.prog Try.f15.ntmps} {env : Env} {bl : Nat} {Q Q' Q2 : Ch}, mapF ⟨l, most⟩ to = (F0, e) → env.lookup 4 = some (.cell (.val (.pointer (some ⟨bl, 0, none⟩)))) → env.lookup 5 = some (In .i64 e) →
      JQ c (bodyPost Try.prog Try.f15 (RR c (fun K => K (.tup [.row (FR (mapF ⟨l, most⟩ to).1), In .i64 (mapF ⟨l, most⟩ to).2]) []))) .ret env [.blk bl 30 [.val (.slice none 0 0), .val (.int .i64 0)], Q, Q', Q2] := by
    intro e c env bl Q Q' Q2 he h4 h5
    refine jq_row 0 (FR F0) rfl (.cons .nil (.cons (.refl _) .nil)) ?_
    refine jq_retRowT rfl rfl rfl h4 h5 0 rfl (fun K h => by rw [he] at h; exact h) ?_
    exact sub_end
  refine con_intro Try.func15 rfl rfl (Nat.le_of_ble_eq_true rfl) (fun c hc => ?_)
  refine jc_seq ?_
  refine jc_region ?_
  refine jl_op ?_ (nb rfl)
  refine ow_box rfl (fun bx => ?_)
  refine jl_op ?_ (nb rfl)
  refine ow_alloc rfl rfl (fun bl => ?_)
  refine jl_op ?_ (nb rfl)
  refine ow_assign rfl ?_
  refine jl_nil ?_
  refine jq_then ?_
  refine jc_seq ?_
  refine jc_seq ?_
  refine jc_region ?_
  refine jl_op ?_ (nb rfl)
  refine ow_loadAll 1 rfl rfl rfl rfl ?_
  refine jl_op ?_ (nb rfl)
  refine ow_call0 rfl (hC) ?_
  refine jl_op ?_ (nb rfl)
  refine ow_assign rfl ?_
  refine jl_nil ?_
  refine jq_then ?_
  refine jc_seq ?_
  refine jc_region ?_
  refine jl_op ?_ (nb rfl)
  refine ow_move rfl ?_
  refine jl_op ?_ (nb rfl)
  refine ow_neq rfl rfl ?_
  refine jl_nil ?_
  refine jq_then ?_
  refine jc_condd rfl (fun hne => ?_) (fun heq => ?_)
  · have e : mapF ⟨l, most⟩ to = (F0, checkF ⟨l, most⟩) := by unfold mapF; rw [if_pos hne]
    refine jc_seq ?_
    refine jc_region ?_
    refine jl_op ?_ (nb rfl)
    refine ow_build rfl rfl rfl rfl rfl ?_
    refine jl_op ?_ (nb rfl)
    refine ow_move rfl ?_
    refine jl_op0 ?_
    refine ow_storeAll 0 rfl rfl rfl rfl rfl rfl ?_
    refine jl_op ?_ (nb rfl)
    refine ow_assign rfl ?_
    refine jl_nil ?_
    refine jq_then ?_
    refine jc_ret ?_
    refine jq_then_ret ?_
    exact fin0 _ e rfl rfl
  · have h0 : checkF ⟨l, most⟩ = 0 := by omega
    have hv := valid_of h0
    cases hm : mappedF to with
    | false =>
      have hm' : (!mappedF to) = true := by rw [hm]; rfl
      have e : mapF ⟨l, most⟩ to = (F0, 10) := by unfold mapF; rw [if_neg (by omega), if_pos hm]
      refine jc_skip ?_
      refine jq_then ?_
      refine jc_seq ?_
      refine jc_seq ?_
      refine jc_region ?_
      refine jl_op ?_ (nb rfl)
      refine ow_move rfl ?_
      refine jl_op ?_ (nb rfl)
      refine ow_call0 rfl (mapped_c to) ?_
      refine jl_op ?_ (nb rfl)
      refine ow_not rfl ?_
      refine jl_nil ?_
      refine jq_then ?_
      refine jc_cond rfl (fun _ => ?_) (fun h => by rw [hm'] at h; cases h)
      refine jc_seq ?_
      refine jc_region ?_
      refine jl_op ?_ (nb rfl)
      refine ow_build rfl rfl rfl rfl rfl ?_
      refine jl_op0 ?_
      refine ow_storeAll 0 rfl rfl rfl rfl rfl rfl ?_
      refine jl_op ?_ (nb rfl)
      refine ow_assign rfl ?_
      refine jl_nil ?_
      refine jq_then ?_
      refine jc_ret ?_
      refine jq_then_ret ?_
      exact fin0 _ e rfl rfl
    | true =>
      have hm' : (!mappedF to) = false := by rw [hm]; rfl
      have hlen64 : l.length ≤ 64 := hv.len
      refine jc_skip ?_
      refine jq_then ?_
      refine jc_seq ?_
      refine jc_seq ?_
      refine jc_region ?_
      refine jl_op ?_ (nb rfl)
      refine ow_move rfl ?_
      refine jl_op ?_ (nb rfl)
      refine ow_call0 rfl (mapped_c to) ?_
      refine jl_op ?_ (nb rfl)
      refine ow_not rfl ?_
      refine jl_nil ?_
      refine jq_then ?_
      refine jc_cond rfl (fun h => by rw [hm'] at h; cases h) (fun _ => ?_)
      refine jc_skip ?_
      refine jq_then ?_
      refine jc_seq ?_
      refine jc_region ?_
      refine jl_op ?_ (nb rfl)
      refine ow_assign rfl ?_
      refine jl_nil ?_
      refine jq_then ?_
      refine jc_seq ?_
      refine jc_seq ?_
      refine jc_region ?_
      refine jl_op ?_ (nb rfl)
      refine ow_fieldAddr rfl rfl rfl (nb rfl) ?_
      refine jl_op ?_ (nb rfl)
      refine ow_load 1 rfl rfl rfl rfl ?_
      refine jl_op ?_ (nb rfl)
      refine ow_len rfl (fun hlen => ?_)
      refine jl_op ?_ (nb rfl)
      refine ow_move rfl ?_
      refine jl_nil ?_
      refine jq_then ?_
      refine jc_block ?_
      revert bl
      intro bR
      refine jc_ownNil 44 2 (by omega) ?_
      refine jc_loopS (ι := Nat × Value) [] (fun i => i.1 ≤ l.length ∧ i.2.oneCell' = true ∧ ((l.take i.1).any (outT to) = false)) (fun i => [(1, .cell (.list (to.map Lrow))), (2, .cell (.val (.pointer (some ⟨bx, 0, none⟩)))), (4, .cell (.val (.pointer (some ⟨bR, 0, none⟩)))), (7, .cell (.val i.2)), (23, .cell (.list (l.map TR))), (24, In .i64 ((l.map TR).length : Int)), (25, In .i64 (i.1 : Int))]) (fun i => [Ow i.2 (mapT to (l.take i.1)), .blk bR 30 [.val (.slice none 0 0), .val (.int .i64 0)], .blk bx 30 (FR ⟨l, most⟩)]) (fun i => l.length - i.1) (0, .slice none 0 0) ⟨Nat.zero_le _, rfl, by rw [List.take_zero]; rfl⟩ ?_ ?_ ?_
      · show Vc.Sub _ (Ow _ (mapT to (l.take 0)) :: _)
        rw [List.take_zero]
        refine sub_step 0 rfl ?_
        refine sub_step 0 rfl ?_
        refine sub_step 0 rfl ?_
        exact sub_end
      · (repeat (first | exact True.intro | refine ⟨rfl, ?_⟩))
      · rintro ⟨k, W⟩ ⟨hk, hW, hin⟩
        dsimp only at hk hW hin ⊢
        refine jc_reset [(1, .cell (.list (to.map Lrow))), (2, .cell (.val (.pointer (some ⟨bx, 0, none⟩)))), (4, .cell (.val (.pointer (some ⟨bR, 0, none⟩)))), (7, .cell (.val W)), (23, .cell (.list (l.map TR))), (24, In .i64 ((l.map TR).length : Int)), (25, In .i64 (k : Int))] [Ow W (mapT to (l.take k)), .blk bR 30 [.val (.slice none 0 0), .val (.int .i64 0)], .blk bx 30 (FR ⟨l, most⟩)] ?_ ⟨[0, 0, 0], [], rfl⟩ ?_
        · (repeat (first | exact True.intro | refine ⟨rfl, ?_⟩))
        refine jc_seq ?_
        refine jc_region ?_
        refine jl_op ?_ (nb rfl)
        refine ow_lss rfl rfl ?_
        refine jl_nil ?_
        refine jq_then ?_
        refine jc_seq ?_
        refine jc_condd rfl (fun hlt => ?_) (fun hge => ?_)
        · have hlt' : k < l.length := by omega
          have hp := okB_parts (hv.ok l[k] (List.getElem_mem hlt')).1
          refine jc_skip ?_
          refine jq_then ?_
          refine jc_seq ?_
          refine jc_block ?_
          refine jc_seq ?_
          refine jc_region ?_
          refine jl_op ?_ (nb rfl)
          refine ow_indexAddrMapE rfl rfl (by omega) rfl rfl (nb rfl) ?_
          refine jl_op ?_ (nb rfl)
          refine ow_loadPlaceN rfl rfl rfl ?_
          refine jl_op ?_ (nb rfl)
          refine ow_alloc rfl rfl (fun bl => ?_)
          refine jl_op0 ?_
          refine ow_storeAll 0 rfl rfl rfl rfl rfl rfl ?_
          refine jl_nil ?_
          refine jq_then ?_
          refine jc_seq ?_
          refine jc_seq ?_
          refine jc_region ?_
          refine jl_op ?_ (nb rfl)
          refine ow_fieldAddr rfl rfl rfl (nb rfl) ?_
          refine jl_op ?_ (nb rfl)
          refine ow_load 0 rfl rfl rfl rfl ?_
          refine jl_op ?_ (nb rfl)
          refine ow_move rfl ?_
          refine jl_op ?_ (nb rfl)
          refine ow_len rfl (fun hlen => ?_)
          refine jl_op ?_ (nb rfl)
          refine ow_geq rfl rfl ?_
          refine jl_nil ?_
          refine jq_then ?_
          refine jc_condd rfl (fun hout => ?_) (fun hnout => ?_)
          · have e : mapF ⟨l, most⟩ to = (F0, 11) := by
              unfold mapF
              rw [if_neg (by omega), hm, if_neg (by decide), if_pos (List.any_eq_true.2 ⟨l[k], List.getElem_mem hlt', decide_eq_true (by omega)⟩)]
            refine jc_seq ?_
            refine jc_region ?_
            refine jl_op ?_ (nb rfl)
            refine ow_build rfl rfl rfl rfl rfl ?_
            refine jl_op0 ?_
            refine ow_storeAll 2 rfl rfl rfl rfl rfl rfl ?_
            refine jl_op ?_ (nb rfl)
            refine ow_assign rfl ?_
            refine jl_nil ?_
            refine jq_then ?_
            refine jc_ret ?_
            refine jq_then_ret ?_
            refine jq_block_ret ?_
            refine jq_then_ret ?_
            refine jq_then_ret ?_
            refine jq_block_ret ?_
            refine jq_then_ret ?_
            exact fin1 _ e rfl rfl
          · have hx : l[k].1.toNat < to.length := by omega
            have ea : toAt to l[k] = to[l[k].1.toNat] := by unfold toAt; rw [List.getD_eq_getElem?_getD, List.getElem?_eq_getElem hx, Option.getD_some]
            have hta := toAt_len hm l[k]
            have hml := mapT_len hm (l.take k)
            rw [List.length_take] at hml
            refine jc_skip ?_
            refine jq_then ?_
            refine jc_seq ?_
            refine jc_region ?_
            refine jl_op ?_ (nb rfl)
            refine ow_move rfl ?_
            refine jl_op ?_ (nb rfl)
            refine ow_fieldAddr rfl rfl rfl (nb rfl) ?_
            refine jl_op ?_ (nb rfl)
            refine ow_load 0 rfl rfl rfl rfl ?_
            refine jl_op ?_ (nb rfl)
            refine ow_indexAddrMapI rfl rfl (by omega) (by omega) rfl rfl (nb rfl) ?_
            refine jl_op ?_ (nb rfl)
            refine ow_loadPlace rfl rfl ?_
            refine jl_op ?_ (nb rfl)
            refine ow_len rfl (fun hlen => ?_)
            refine jl_op ?_ (nb rfl)
            refine ow_move rfl ?_
            refine jl_nil ?_
            refine jq_then ?_
            refine jc_block ?_
            rw [ea] at hta
            have estep : mapT to (l.take (k + 1)) = mapT to (l.take k) ++ (to[l[k].1.toNat]).map (fun n => (n, l[k].2)) := by
              rw [List.take_succ_eq_append_getElem hlt', mapT_append]
              simp only [mapT, List.append_nil, ea]
            generalize to[l[k].1.toNat] = x at ea hta estep ⊢
            generalize mapT to (l.take k) = O at hml estep ⊢
            have eX : (x.map Irow).length = x.length := List.length_map _
            have eO : (O.map TR).length = O.length := List.length_map _
            refine jc_loopS (ι := Nat × Value) [] (fun i => i.1 ≤ x.length ∧ i.2.oneCell' = true) (fun i => [(1, .cell (.list (to.map Lrow))), (2, .cell (.val (.pointer (some ⟨bx, 0, none⟩)))), (4, .cell (.val (.pointer (some ⟨bR, 0, none⟩)))), (7, .cell (.val i.2)), (9, .cell (.val (.pointer (some ⟨bl, 0, none⟩)))), (23, .cell (.list (l.map TR))), (24, In .i64 ((l.map TR).length : Int)), (25, In .i64 (k : Int)), (39, .cell (.list (x.map Irow))), (40, In .i64 ((x.map Irow).length : Int)), (41, In .i64 (i.1 : Int))]) (fun i => [.blk bl 44 (TR l[k]), Ow i.2 (O ++ (x.take i.1).map (fun n => (n, l[k].2))), .blk bR 30 [.val (.slice none 0 0), .val (.int .i64 0)], .blk bx 30 (FR ⟨l, most⟩)]) (fun i => x.length - i.1) (0, W) ⟨Nat.zero_le _, hW⟩ ?_ ?_ ?_
            · show Vc.Sub _ (_ :: Ow _ (O ++ (x.take 0).map _) :: _)
              rw [List.take_zero, List.map_nil, List.append_nil]
              refine sub_step 0 rfl ?_
              refine sub_step 0 rfl ?_
              refine sub_step 0 rfl ?_
              refine sub_step 0 rfl ?_
              exact sub_end
            · (repeat (first | exact True.intro | refine ⟨rfl, ?_⟩))
            · rintro ⟨j, V⟩ ⟨hj, hV⟩
              dsimp only at hj hV ⊢
              refine jc_reset [(1, .cell (.list (to.map Lrow))), (2, .cell (.val (.pointer (some ⟨bx, 0, none⟩)))), (4, .cell (.val (.pointer (some ⟨bR, 0, none⟩)))), (7, .cell (.val V)), (9, .cell (.val (.pointer (some ⟨bl, 0, none⟩)))), (23, .cell (.list (l.map TR))), (24, In .i64 ((l.map TR).length : Int)), (25, In .i64 (k : Int)), (39, .cell (.list (x.map Irow))), (40, In .i64 ((x.map Irow).length : Int)), (41, In .i64 (j : Int))] [.blk bl 44 (TR l[k]), Ow V (O ++ (x.take j).map (fun n => (n, l[k].2))), .blk bR 30 [.val (.slice none 0 0), .val (.int .i64 0)], .blk bx 30 (FR ⟨l, most⟩)] ?_ ⟨[0, 0, 0, 0], [], rfl⟩ ?_
              · (repeat (first | exact True.intro | refine ⟨rfl, ?_⟩))
              refine jc_seq ?_
              refine jc_region ?_
              refine jl_op ?_ (nb rfl)
              refine ow_lss rfl rfl ?_
              refine jl_nil ?_
              refine jq_then ?_
              refine jc_seq ?_
              refine jc_condd rfl (fun hjlt => ?_) (fun hjge => ?_)
              · have hj' : j < x.length := by omega
                have ej : O ++ (x.take (j + 1)).map (fun n => (n, l[k].2)) = (O ++ (x.take j).map (fun n => (n, l[k].2))) ++ [(x[j], l[k].2)] := by
                  rw [List.take_succ_eq_append_getElem hj', List.map_append, List.append_assoc]
                  rfl
                have hOl : (O ++ (x.take j).map (fun n => (n, l[k].2))).length ≤ 256 * 64 + 256 := by
                  rw [List.length_append, List.length_map, List.length_take]
                  omega
                generalize O ++ (x.take j).map (fun n => (n, l[k].2)) = O2 at ej hOl ⊢
                have eO2 : (O2.map TR).length = O2.length := List.length_map _
                refine jc_skip ?_
                refine jq_then ?_
                refine jc_seq ?_
                refine jc_block ?_
                refine jc_seq ?_
                refine jc_region ?_
                refine jl_op ?_ (nb rfl)
                refine ow_indexAddrMapE rfl rfl (by omega) rfl rfl (nb rfl) ?_
                refine jl_op ?_ (nb rfl)
                refine ow_loadPlace rfl rfl ?_
                refine jl_op ?_ (nb rfl)
                refine ow_assign rfl ?_
                refine jl_nil ?_
                refine jq_then ?_
                refine jc_region ?_
                refine jl_op ?_ (nb rfl)
                refine ow_move rfl ?_
                refine jl_op ?_ (nb rfl)
                refine ow_move rfl ?_
                refine jl_op ?_ (nb rfl)
                refine ow_fieldAddr rfl rfl rfl (nb rfl) ?_
                refine jl_op ?_ (nb rfl)
                refine ow_load 0 rfl rfl rfl rfl ?_
                refine jl_op ?_ (nb rfl)
                refine ow_build rfl rfl rfl rfl rfl ?_
                refine jl_op ?_ (nb rfl)
                refine ow_buildSlice rfl rfl (nb rfl) rfl rfl (nb rfl) ?_
                refine jl_op (ow_append1 1 ((x[j], l[k].2)) rfl rfl rfl rfl rfl rfl rfl (fun _ => rfl) (by show (_ + _) * 16 ≤ _; first | omega | (simp only [List.length_append]; omega)) (by first | omega | (simp only [List.length_append]; omega)) (fun V2 hV2 => ?_)) (nb rfl)
                refine jl_op ?_ (nb rfl)
                refine ow_assign rfl ?_
                refine jl_nil ?_
                refine jq_block ?_
                refine jq_then ?_
                refine jc_region ?_
                refine jl_op ?_ (nb rfl)
                refine ow_add64 rfl rfl (by omega) ?_
                refine jl_op ?_ (nb rfl)
                refine ow_move rfl ?_
                refine jl_nil ?_
                refine jq_againS (i := (j, V)) (j + 1, V2) ⟨by dsimp only; omega, hV2⟩ (by dsimp only; omega) ?_ ?_
                · dsimp only
                  rw [ej]
                  refine sub_step 1 rfl ?_
                  refine sub_step 0 rfl ?_
                  refine sub_step 0 rfl ?_
                  refine sub_step 0 rfl ?_
                  exact sub_end
                · (repeat (first | exact True.intro | refine ⟨rfl, ?_⟩))
              · obtain rfl : j = x.length := by omega
                rw [List.take_length, ← estep]
                refine jc_exit ?_
                refine jq_then_exit ?_
                refine jq_then_exit ?_
                refine jq_block_exit ?_
                refine jq_block ?_
                refine jq_then ?_
                refine jc_region ?_
                refine jl_op ?_ (nb rfl)
                refine ow_add64 rfl rfl (by omega) ?_
                refine jl_op ?_ (nb rfl)
                refine ow_move rfl ?_
                refine jl_nil ?_
                refine jq_againS (i := (k, W)) (k + 1, V) ⟨by dsimp only; omega, hV, ?_⟩ (by dsimp only; omega) ?_ ?_
                · dsimp only
                  rw [List.take_succ_eq_append_getElem hlt', List.any_append, hin]
                  simp only [List.any_cons, List.any_nil, Bool.or_false, Bool.false_or]
                  exact decide_eq_false (by omega)
                · dsimp only
                  refine sub_step 1 rfl ?_
                  refine sub_step 1 rfl ?_
                  refine sub_step 1 rfl ?_
                  exact sub_end
                · (repeat (first | exact True.intro | refine ⟨rfl, ?_⟩))
        · obtain rfl : k = l.length := by omega
          rw [List.take_length] at hin ⊢
          have hml := mapT_len hm l
          have e : mapF ⟨l, most⟩ to = ofF (mapT to l) most := by
            unfold mapF
            rw [if_neg (by omega), hm, if_neg (by decide), hin, if_neg (by decide)]
          refine jc_exit ?_
          refine jq_then_exit ?_
          refine jq_then_exit ?_
          refine jq_block_exit ?_
          refine jq_then ?_
          refine jc_seq ?_
          refine jc_freeze 7 0 rfl rfl (by rw [hc]; simp [hb]) ?_
          refine jc_region ?_
          refine jl_op ?_ (nb rfl)
          refine ow_move rfl ?_
          refine jl_op ?_ (nb rfl)
          refine ow_fieldAddr rfl rfl rfl (nb rfl) ?_
          refine jl_op ?_ (nb rfl)
          refine ow_load 1 rfl rfl rfl rfl ?_
          refine jl_op ?_ (nb rfl)
          refine ow_call0 rfl (hO) ?_
          refine jl_op ?_ (nb rfl)
          refine ow_extract rfl rfl ?_
          refine jl_op ?_ (nb rfl)
          refine ow_extract rfl rfl ?_
          refine jl_op0 ?_
          refine ow_storeAll 0 rfl rfl rfl rfl rfl rfl ?_
          refine jl_op ?_ (nb rfl)
          refine ow_assign rfl ?_
          refine jl_nil ?_
          refine jq_then ?_
          refine jc_ret ?_
          refine jq_retRowT rfl rfl rfl rfl rfl 0 rfl (fun K h => by rw [e] at h; exact h) ?_
          exact sub_end
end Go.Proofs.Ytjkkkjikhjfdnaa
