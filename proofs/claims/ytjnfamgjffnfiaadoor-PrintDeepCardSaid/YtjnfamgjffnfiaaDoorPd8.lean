import Derived.Test.YtjnfamgjffnfiaaDoorPd7
import Derived.Test.YtjnfamgjffnfiaaDoorLay
import Derived.Lib.ItoaLen
namespace Go.Proofs.YtjnfamgjffnfiaaDoor
open Go.Vc
attribute [local irreducible] JL JC JQ OpWp
attribute [local irreducible] byteAt runLen isL isD isName hasW
set_option maxHeartbeats 4000000

/-! Numbers and texts -/
def numS (n : Int) : ByteArray := ⟨(Lib.itoa n).toArray⟩
theorem itoa_c (n : Int) (h0 : -2147483647 ≤ n) (h1 : n ≤ 2147483647) : Con Tryd.prog 19 [In .i64 n] [] (fun K => K (Str (numS n)) []) := by
  rintro vs w A _ _ _ ⟨v, r, rfl, ⟨rfl, _⟩, hr⟩ _ ⟨⟨g, hg1, hg2, htab⟩, _, _⟩
  simp only [SOks] at hr
  subst hr
  refine (Any.strconv_Itoa laysItoa n (by omega) (by omega) w htab).mono ?_
  rintro e w' ⟨rfl, k, os, rfl⟩
  refine ⟨_, _, [], rfl, fun K h => h, ⟨?_, rfl⟩, by simp, by simp [hb], by simp [hb], ⟨rfl, rfl, rfl, ?_, ?_⟩⟩
  · unfold numS
    rfl
  · simp [Sort.grow]
  · intro j hj _
    show (w.heap ++ os)[j]? = _
    rw [Array.getElem?_append_left hj]
attribute [local irreducible] Con ConN
theorem numS_size (n : Int) (h0 : -2147483647 ≤ n) (h1 : n ≤ 2147483647) : (numS n).size ≤ 21 := by
  have := Lib.itoa_length_le n (by omega) (by omega)
  unfold numS
  simpa [ByteArray.size] using this
theorem numS_nonneg (n : Int) (h : 0 ≤ n) : numS n = decS n.toNat := by
  obtain ⟨u, rfl⟩ : ∃ u : Nat, n = u := ⟨n.toNat, by omega⟩
  unfold numS decS
  rw [Lib.itoa_nonneg, Int.toNat_natCast]
theorem numS_neg (n : Int) (h : n < 0) : numS n = ⟨#[45]⟩ ++ decS (-n).toNat := by
  obtain ⟨u, rfl⟩ : ∃ u : Nat, n = -(u : Int) := ⟨(-n).toNat, by omega⟩
  unfold numS decS
  rw [Lib.itoa_neg u (by omega), show (- -(u : Int)).toNat = u by omega]
  apply ByteArray.ext
  rw [ByteArray.data_append]
  simp
theorem number_c (n : Int) (h : -2147483647 ≤ n ∧ n ≤ 2147483647) : Con Tryd.prog 23 [In .i64 n] [] (fun K => K (Str (numS n)) []) := by
  refine con_intro Tryd.func23 rfl rfl (Nat.le_of_ble_eq_true rfl) (fun c hc => ?_)
  refine jc_seq ?_
  refine jc_region ?_
  refine jl_op ?_ (nb rfl)
  refine ow_assign rfl ?_
  refine jl_nil ?_
  refine jq_then ?_
  refine jc_seq ?_
  refine jc_seq ?_
  refine jc_region ?_
  refine jl_op ?_ (nb rfl)
  refine ow_move rfl ?_
  refine jl_op ?_ (nb rfl)
  refine ow_lss rfl rfl ?_
  refine jl_nil ?_
  refine jq_then ?_
  refine jc_condd rfl (fun hn => ?_) (fun hn => ?_)
  · have hD := Decimal_c (-n).toNat (by omega)
    rw [show (((-n).toNat : Nat) : Int) = -n by omega] at hD
    have h45 : (⟨#[45]⟩ : ByteArray).size = 1 := rfl
    have hz := decS_le (-n).toNat (by omega)
    refine jc_seq ?_
    refine jc_region ?_
    refine jl_op ?_ (nb rfl)
    refine ow_move rfl ?_
    refine jl_op ?_ (nb rfl)
    refine ow_neg64 rfl (by omega) ?_
    refine jl_op ?_ (nb rfl)
    refine ow_call0 rfl (hD) ?_
    refine jl_op ?_ (nb rfl)
    refine ow_strcat rfl rfl (by omega) ?_
    refine jl_op ?_ (nb rfl)
    refine ow_assign rfl ?_
    refine jl_nil ?_
    refine jq_then ?_
    refine jc_ret ?_
    refine jq_then_ret ?_
    refine jq_ret1 rfl rfl [] rfl (fun K h => by rw [numS_neg n hn] at h; exact h)
  · have hD := Decimal_c n.toNat (by omega)
    rw [show ((n.toNat : Nat) : Int) = n by omega] at hD
    refine jc_skip ?_
    refine jq_then ?_
    refine jc_seq ?_
    refine jc_region ?_
    refine jl_op ?_ (nb rfl)
    refine ow_move rfl ?_
    refine jl_op ?_ (nb rfl)
    refine ow_call0 rfl (hD) ?_
    refine jl_op ?_ (nb rfl)
    refine ow_assign rfl ?_
    refine jl_nil ?_
    refine jq_then ?_
    refine jc_ret ?_
    refine jq_ret1 rfl rfl [] rfl (fun K h => by rw [numS_nonneg n (by omega)] at h; exact h)
def textT : T → ByteArray
  | .nu n => if n < 0 then (⟨#[40]⟩ ++ numS n) ++ ⟨#[41]⟩ else numS n
  | .nm s => s
  | .ix s t => ((s ++ ⟨#[91]⟩) ++ textT t) ++ ⟨#[93]⟩
  | .bn o a b => (((((⟨#[40]⟩ ++ textT a) ++ ⟨#[32]⟩) ++ signT o) ++ ⟨#[32]⟩) ++ textT b) ++ ⟨#[41]⟩
theorem one_size (c : UInt8) : (⟨#[c]⟩ : ByteArray).size = 1 := rfl
theorem sign_size {o : Int} (h : 1 ≤ o ∧ o ≤ 14) : (signT o).size ≤ 2 := by
  rcases op14 h with rfl | rfl | rfl | rfl | rfl | rfl | rfl | rfl | rfl | rfl | rfl | rfl | rfl | rfl <;> decide
theorem expr_c : ∀ (t : T), t.ok → (textT t).size ≤ 1000000000 → Con Tryd.prog 12 [.row t.row'] [] (fun K => K (Str (textT t)) []) := by
  intro t
  induction t with
  | nu n =>
    intro hok hz
    have hI := itoa_c n hok.1 hok.2
    have hz := numS_size n hok.1 hok.2
    have h40 := one_size 40
    have h41 := one_size 41
    have h2 : (⟨#[40]⟩ ++ numS n).size ≤ 30 := by rw [ByteArray.size_append]; omega
    show Con _ _ [.row [.val (.int .i64 1), .val (.int .i64 n), .val (.string ⟨#[]⟩), .val (.int .i64 0), .list (([] : List T).map T.row)]] [] _
    refine con_intro Tryd.func12 rfl rfl (Nat.le_of_ble_eq_true rfl) (fun c hc => ?_)
    refine jc_seq ?_
    refine jc_region ?_
    refine jl_op ?_ (nb rfl)
    refine ow_box rfl (fun bx => ?_)
    refine jl_op ?_ (nb rfl)
    refine ow_assign rfl ?_
    refine jl_nil ?_
    refine jq_then ?_
    refine jc_seq ?_
    refine jc_seq ?_
    refine jc_region ?_
    refine jl_op ?_ (nb rfl)
    refine ow_fieldAddr rfl rfl rfl (nb rfl) ?_
    refine jl_op ?_ (nb rfl)
    refine ow_load 0 rfl rfl rfl rfl ?_
    refine jl_nil ?_
    refine jq_then ?_
    refine jc_block ?_
    refine jc_seq ?_
    refine jc_region ?_
    refine jl_op ?_ (nb rfl)
    refine ow_eql rfl rfl ?_
    refine jl_op ?_ (nb rfl)
    refine ow_assign rfl ?_
    refine jl_nil ?_
    refine jq_then ?_
    refine jc_condd rfl (fun _ => ?_) (fun h => absurd rfl h)
    refine jc_seq ?_
    refine jc_seq ?_
    refine jc_region ?_
    refine jl_op ?_ (nb rfl)
    refine ow_fieldAddr rfl rfl rfl (nb rfl) ?_
    refine jl_op ?_ (nb rfl)
    refine ow_load 0 rfl rfl rfl rfl ?_
    refine jl_op ?_ (nb rfl)
    refine ow_lss rfl rfl ?_
    refine jl_nil ?_
    refine jq_then ?_
    refine jc_condd rfl (fun hn => ?_) (fun hn => ?_)
    · have e : textT (.nu n) = (⟨#[40]⟩ ++ numS n) ++ ⟨#[41]⟩ := by unfold textT; rw [if_pos hn]
      refine jc_seq ?_
      refine jc_region ?_
      refine jl_op ?_ (nb rfl)
      refine ow_fieldAddr rfl rfl rfl (nb rfl) ?_
      refine jl_op ?_ (nb rfl)
      refine ow_load 0 rfl rfl rfl rfl ?_
      refine jl_op ?_ (nb rfl)
      refine ow_call0 rfl (hI) ?_
      refine jl_op ?_ (nb rfl)
      refine ow_strcat rfl rfl (by omega) ?_
      refine jl_op ?_ (nb rfl)
      refine ow_strcat rfl rfl (by omega) ?_
      refine jl_op ?_ (nb rfl)
      refine ow_assign rfl ?_
      refine jl_nil ?_
      refine jq_then ?_
      refine jc_ret ?_
      refine jq_then_ret ?_
      refine jq_block_ret ?_
      refine jq_then_ret ?_
      refine jq_ret1 rfl rfl [] rfl (fun K h => by rw [e] at h; exact h)
    · have e : textT (.nu n) = numS n := by unfold textT; rw [if_neg hn]
      refine jc_skip ?_
      refine jq_then ?_
      refine jc_seq ?_
      refine jc_region ?_
      refine jl_op ?_ (nb rfl)
      refine ow_fieldAddr rfl rfl rfl (nb rfl) ?_
      refine jl_op ?_ (nb rfl)
      refine ow_load 0 rfl rfl rfl rfl ?_
      refine jl_op ?_ (nb rfl)
      refine ow_call0 rfl (hI) ?_
      refine jl_op ?_ (nb rfl)
      refine ow_assign rfl ?_
      refine jl_nil ?_
      refine jq_then ?_
      refine jc_ret ?_
      refine jq_block_ret ?_
      refine jq_then_ret ?_
      refine jq_ret1 rfl rfl [] rfl (fun K h => by rw [e] at h; exact h)
  | nm s =>
    intro hok hz
    show Con _ _ [.row [.val (.int .i64 2), .val (.int .i64 0), .val (.string s), .val (.int .i64 0), .list (([] : List T).map T.row)]] [] _
    refine con_intro Tryd.func12 rfl rfl (Nat.le_of_ble_eq_true rfl) (fun c hc => ?_)
    refine jc_seq ?_
    refine jc_region ?_
    refine jl_op ?_ (nb rfl)
    refine ow_box rfl (fun bx => ?_)
    refine jl_op ?_ (nb rfl)
    refine ow_assign rfl ?_
    refine jl_nil ?_
    refine jq_then ?_
    refine jc_seq ?_
    refine jc_seq ?_
    refine jc_region ?_
    refine jl_op ?_ (nb rfl)
    refine ow_fieldAddr rfl rfl rfl (nb rfl) ?_
    refine jl_op ?_ (nb rfl)
    refine ow_load 0 rfl rfl rfl rfl ?_
    refine jl_nil ?_
    refine jq_then ?_
    refine jc_block ?_
    refine jc_seq ?_
    refine jc_region ?_
    refine jl_op ?_ (nb rfl)
    refine ow_eql rfl rfl ?_
    refine jl_op ?_ (nb rfl)
    refine ow_assign rfl ?_
    refine jl_nil ?_
    refine jq_then ?_
    refine jc_condd rfl (fun h => by cases h) (fun _ => ?_)
    refine jc_seq ?_
    refine jc_region ?_
    refine jl_op ?_ (nb rfl)
    refine ow_eql rfl rfl ?_
    refine jl_op ?_ (nb rfl)
    refine ow_assign rfl ?_
    refine jl_nil ?_
    refine jq_then ?_
    refine jc_condd rfl (fun _ => ?_) (fun h => absurd rfl h)
    refine jc_seq ?_
    refine jc_region ?_
    refine jl_op ?_ (nb rfl)
    refine ow_fieldAddr rfl rfl rfl (nb rfl) ?_
    refine jl_op ?_ (nb rfl)
    refine ow_load 0 rfl rfl rfl rfl ?_
    refine jl_op ?_ (nb rfl)
    refine ow_assign rfl ?_
    refine jl_nil ?_
    refine jq_then ?_
    refine jc_ret ?_
    refine jq_block_ret ?_
    refine jq_then_ret ?_
    refine jq_ret1 rfl rfl [] rfl (fun K h => h)
  | ix s t ih =>
    intro hok hz
    have e : textT (.ix s t) = ((s ++ ⟨#[91]⟩) ++ textT t) ++ ⟨#[93]⟩ := by rw [textT]
    rw [e] at hz
    have h91 := one_size 91
    have h93 := one_size 93
    have hz1 := hz
    rw [ByteArray.size_append] at hz1
    have hz2 := hz1
    rw [ByteArray.size_append] at hz2
    have hz3 := hz2
    rw [ByteArray.size_append] at hz3
    have hI := ih hok.2 (by omega)
    have e1 : [t].length = 1 := rfl
    show Con _ _ [.row [.val (.int .i64 3), .val (.int .i64 0), .val (.string s), .val (.int .i64 0), .list ([t].map T.row)]] [] _
    refine con_intro Tryd.func12 rfl rfl (Nat.le_of_ble_eq_true rfl) (fun c hc => ?_)
    refine jc_seq ?_
    refine jc_region ?_
    refine jl_op ?_ (nb rfl)
    refine ow_box rfl (fun bx => ?_)
    refine jl_op ?_ (nb rfl)
    refine ow_assign rfl ?_
    refine jl_nil ?_
    refine jq_then ?_
    refine jc_seq ?_
    refine jc_seq ?_
    refine jc_region ?_
    refine jl_op ?_ (nb rfl)
    refine ow_fieldAddr rfl rfl rfl (nb rfl) ?_
    refine jl_op ?_ (nb rfl)
    refine ow_load 0 rfl rfl rfl rfl ?_
    refine jl_nil ?_
    refine jq_then ?_
    refine jc_block ?_
    refine jc_seq ?_
    refine jc_region ?_
    refine jl_op ?_ (nb rfl)
    refine ow_eql rfl rfl ?_
    refine jl_op ?_ (nb rfl)
    refine ow_assign rfl ?_
    refine jl_nil ?_
    refine jq_then ?_
    refine jc_condd rfl (fun h => by cases h) (fun _ => ?_)
    refine jc_seq ?_
    refine jc_region ?_
    refine jl_op ?_ (nb rfl)
    refine ow_eql rfl rfl ?_
    refine jl_op ?_ (nb rfl)
    refine ow_assign rfl ?_
    refine jl_nil ?_
    refine jq_then ?_
    refine jc_condd rfl (fun h => by cases h) (fun _ => ?_)
    refine jc_seq ?_
    refine jc_region ?_
    refine jl_op ?_ (nb rfl)
    refine ow_eql rfl rfl ?_
    refine jl_op ?_ (nb rfl)
    refine ow_assign rfl ?_
    refine jl_nil ?_
    refine jq_then ?_
    refine jc_condd rfl (fun _ => ?_) (fun h => absurd rfl h)
    refine jc_seq ?_
    refine jc_any rfl rfl (by kernel_rfl) (by kernel_rfl) ?_
    refine any_op (fun c => ow_fieldAddr rfl rfl rfl (nb rfl) ⟨rfl, List.Perm.refl _⟩) ?_
    refine any_op (fun c => ow_load 0 rfl rfl rfl rfl ⟨rfl, List.Perm.refl _⟩) ?_
    refine any_op (fun c => ow_strcat rfl rfl (by omega) ⟨rfl, List.Perm.refl _⟩) ?_
    refine any_op (fun c => ow_fieldAddr rfl rfl rfl (nb rfl) ⟨rfl, List.Perm.refl _⟩) ?_
    refine any_op (fun c => ow_load 0 rfl rfl rfl rfl ⟨rfl, List.Perm.refl _⟩) ?_
    refine any_op (fun c => ow_indexAddrMapI rfl rfl (by omega) (by omega) (T.row_eq _) rfl (nb rfl) ⟨rfl, List.Perm.refl _⟩) ?_
    refine any_op (fun c => ow_loadPlaceN rfl rfl rfl ⟨rfl, List.Perm.refl _⟩) ?_
    refine any_op (fun c => ow_call0 rfl (hI) ⟨rfl, List.Perm.refl _⟩) ?_
    refine any_op (fun c => ow_strcat rfl rfl (by omega) ⟨rfl, List.Perm.refl _⟩) ?_
    refine any_op (fun c => ow_strcat rfl rfl (by omega) ⟨rfl, List.Perm.refl _⟩) ?_
    refine any_op (fun c => ow_assign rfl ⟨rfl, List.Perm.refl _⟩) ?_
    refine any_nil ?_
    refine jq_then ?_
    refine jc_ret ?_
    refine jq_block_ret ?_
    refine jq_then_ret ?_
    refine jq_ret1 rfl rfl [] rfl (fun K h => by rw [e] at h; exact h)
  | bn o a b iha ihb =>
    intro hok hz
    have e : textT (.bn o a b) = (((((⟨#[40]⟩ ++ textT a) ++ ⟨#[32]⟩) ++ signT o) ++ ⟨#[32]⟩) ++ textT b) ++ ⟨#[41]⟩ := by rw [textT]
    rw [e] at hz
    have h40 := one_size 40
    have h32 := one_size 32
    have h41 := one_size 41
    have hz1 := hz
    rw [ByteArray.size_append] at hz1
    have hz2 := hz1
    rw [ByteArray.size_append] at hz2
    have hz3 := hz2
    rw [ByteArray.size_append] at hz3
    have hz4 := hz3
    rw [ByteArray.size_append] at hz4
    have hz5 := hz4
    rw [ByteArray.size_append] at hz5
    have hz6 := hz5
    rw [ByteArray.size_append] at hz6
    have hS := Sign_c o hok.1
    have hA := iha hok.2.1 (by omega)
    have hB := ihb hok.2.2 (by omega)
    have e1 : [a, b].length = 2 := rfl
    show Con _ _ [.row [.val (.int .i64 4), .val (.int .i64 0), .val (.string ⟨#[]⟩), .val (.int .i64 o), .list ([a, b].map T.row)]] [] _
    refine con_intro Tryd.func12 rfl rfl (Nat.le_of_ble_eq_true rfl) (fun c hc => ?_)
    refine jc_seq ?_
    refine jc_region ?_
    refine jl_op ?_ (nb rfl)
    refine ow_box rfl (fun bx => ?_)
    refine jl_op ?_ (nb rfl)
    refine ow_assign rfl ?_
    refine jl_nil ?_
    refine jq_then ?_
    refine jc_seq ?_
    refine jc_seq ?_
    refine jc_region ?_
    refine jl_op ?_ (nb rfl)
    refine ow_fieldAddr rfl rfl rfl (nb rfl) ?_
    refine jl_op ?_ (nb rfl)
    refine ow_load 0 rfl rfl rfl rfl ?_
    refine jl_nil ?_
    refine jq_then ?_
    refine jc_block ?_
    refine jc_seq ?_
    refine jc_region ?_
    refine jl_op ?_ (nb rfl)
    refine ow_eql rfl rfl ?_
    refine jl_op ?_ (nb rfl)
    refine ow_assign rfl ?_
    refine jl_nil ?_
    refine jq_then ?_
    refine jc_condd rfl (fun h => by cases h) (fun _ => ?_)
    refine jc_seq ?_
    refine jc_region ?_
    refine jl_op ?_ (nb rfl)
    refine ow_eql rfl rfl ?_
    refine jl_op ?_ (nb rfl)
    refine ow_assign rfl ?_
    refine jl_nil ?_
    refine jq_then ?_
    refine jc_condd rfl (fun h => by cases h) (fun _ => ?_)
    refine jc_seq ?_
    refine jc_region ?_
    refine jl_op ?_ (nb rfl)
    refine ow_eql rfl rfl ?_
    refine jl_op ?_ (nb rfl)
    refine ow_assign rfl ?_
    refine jl_nil ?_
    refine jq_then ?_
    refine jc_condd rfl (fun h => by cases h) (fun _ => ?_)
    refine jc_skip ?_
    refine jq_block ?_
    refine jq_then ?_
    refine jc_seq ?_
    refine jc_any rfl rfl (by kernel_rfl) (by kernel_rfl) ?_
    refine any_op (fun c => ow_fieldAddr rfl rfl rfl (nb rfl) ⟨rfl, List.Perm.refl _⟩) ?_
    refine any_op (fun c => ow_load 0 rfl rfl rfl rfl ⟨rfl, List.Perm.refl _⟩) ?_
    refine any_op (fun c => ow_indexAddrMapI rfl rfl (by omega) (by omega) (T.row_eq _) rfl (nb rfl) ⟨rfl, List.Perm.refl _⟩) ?_
    refine any_op (fun c => ow_loadPlaceN rfl rfl rfl ⟨rfl, List.Perm.refl _⟩) ?_
    refine any_op (fun c => ow_call0 rfl (hA) ⟨rfl, List.Perm.refl _⟩) ?_
    refine any_op (fun c => ow_strcat rfl rfl (by omega) ⟨rfl, List.Perm.refl _⟩) ?_
    refine any_op (fun c => ow_strcat rfl rfl (by omega) ⟨rfl, List.Perm.refl _⟩) ?_
    refine any_op (fun c => ow_fieldAddr rfl rfl rfl (nb rfl) ⟨rfl, List.Perm.refl _⟩) ?_
    refine any_op (fun c => ow_load 0 rfl rfl rfl rfl ⟨rfl, List.Perm.refl _⟩) ?_
    refine any_op (fun c => ow_call0 rfl (hS) ⟨rfl, List.Perm.refl _⟩) ?_
    refine any_op (fun c => ow_strcat rfl rfl (by omega) ⟨rfl, List.Perm.refl _⟩) ?_
    refine any_op (fun c => ow_strcat rfl rfl (by omega) ⟨rfl, List.Perm.refl _⟩) ?_
    refine any_op (fun c => ow_fieldAddr rfl rfl rfl (nb rfl) ⟨rfl, List.Perm.refl _⟩) ?_
    refine any_op (fun c => ow_load 0 rfl rfl rfl rfl ⟨rfl, List.Perm.refl _⟩) ?_
    refine any_op (fun c => ow_indexAddrMapI rfl rfl (by omega) (by omega) (T.row_eq _) rfl (nb rfl) ⟨rfl, List.Perm.refl _⟩) ?_
    refine any_op (fun c => ow_loadPlaceN rfl rfl rfl ⟨rfl, List.Perm.refl _⟩) ?_
    refine any_op (fun c => ow_call0 rfl (hB) ⟨rfl, List.Perm.refl _⟩) ?_
    refine any_op (fun c => ow_strcat rfl rfl (by omega) ⟨rfl, List.Perm.refl _⟩) ?_
    refine any_op (fun c => ow_strcat rfl rfl (by omega) ⟨rfl, List.Perm.refl _⟩) ?_
    refine any_op (fun c => ow_assign rfl ⟨rfl, List.Perm.refl _⟩) ?_
    refine any_nil ?_
    refine jq_then ?_
    refine jc_ret ?_
    refine jq_ret1 rfl rfl [] rfl (fun K h => by rw [e] at h; exact h)
end Go.Proofs.YtjnfamgjffnfiaaDoor
