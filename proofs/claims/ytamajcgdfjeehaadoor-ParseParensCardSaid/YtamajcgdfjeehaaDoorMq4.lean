import Derived.Test.YtamajcgdfjeehaaDoorMq3
import Derived.Lib.ItoaLen
section
namespace Go.Proofs.YtamajcgdfjeehaaDoor
open Go.Vc
attribute [local irreducible] JL JC JQ OpWp Con ConN
attribute [local irreducible] byteAt runLen isL isD isName hasW nameB smallB plainB shpF
set_option maxHeartbeats 4000000

end Go.Proofs.YtamajcgdfjeehaaDoor
end

section
namespace Go.Proofs.YtamajcgdfjeehaaDoor
open Go.Vc
attribute [local irreducible] JL JC JQ OpWp Con ConN
attribute [local irreducible] byteAt runLen isL isD isName hasW
set_option maxHeartbeats 4000000

def nmOk (s : ByteArray) : Prop := isName s = true ∧ hasW s = false
theorem rname_c (s : ByteArray) (h : nmOk s) : Con Tryd.prog 90 [Str s] [] (fun K => K (Bl true) []) := by
  have h1 := rName_c s
  have h2 := RKeyword_c s
  rw [h.1] at h1
  rw [h.2] at h2
  refine con_intro Tryd.func90 rfl rfl (Nat.le_of_ble_eq_true rfl) (fun c hc => R_ (E_ r_ (T_ (R_ (M_ r_ (o_ r_ (bm_ r_ (h1) (M_ r_ (ah_ r_ r_ b_ (bd_ r_ (ah_ r_ r_ b_ (bm_ r_ (h2) (ah_ r_ r_ b_ (cd_ r_ (o_ r_ (bp_ r_ r_ r_ (E_ r_ (T_ (ar_ (jq_ret1 rfl rfl [] rfl (fun K h => h)))))))))))))))))))))
theorem rsmall_c (n : Int) (h : -2147483647 ≤ n ∧ n ≤ 2147483647) : Con Tryd.prog 89 [In .i64 n] [] (fun K => K (Bl true) []) := by
  refine con_intro Tryd.func89 rfl rfl (Nat.le_of_ble_eq_true rfl) (fun c hc => ?_)
  have h0 : (-2147483648 : Int) < n := by omega
  have h1 : n < 2147483648 := by omega
  refine R_ (E_ r_ (T_ (R_ (M_ r_ (o_ r_ (bz_ r_ r_ (M_ r_ (ah_ r_ u_ b_ (bd_ r_ (ah_ r_ u_ b_ (bw_ r_ r_ (o_ r_ (bp_ r_ u_ r_ (E_ r_ (T_ (ar_ (jq_ret1 rfl rfl [] rfl (fun K h => by rw [← decide_eq_true h1] at h; exact h))))))))))))))))))
def T.ok : T → Prop
  | .nu n => -2147483647 ≤ n ∧ n ≤ 2147483647
  | .nm s => nmOk s
  | .ix s t => nmOk s ∧ t.ok
  | .bn o a b => (1 ≤ o ∧ o ≤ 14) ∧ a.ok ∧ b.ok
end Go.Proofs.YtamajcgdfjeehaaDoor
end

section
namespace Go.Proofs.YtamajcgdfjeehaaDoor
open Go.Vc
attribute [local irreducible] JL JC JQ OpWp Con ConN
attribute [local irreducible] byteAt runLen isL isD isName hasW
set_option maxHeartbeats 4000000

end Go.Proofs.YtamajcgdfjeehaaDoor
end

section
namespace Go.Proofs.YtamajcgdfjeehaaDoor
open Go.Vc
attribute [local irreducible] JL JC JQ OpWp Con ConN
attribute [local irreducible] byteAt runLen isL isD isName hasW
set_option maxHeartbeats 4000000

theorem rshaped_c : ∀ (F : Nat) (t : T), F ≤ 20 → t.ok → Con Tryd.prog 54 [.row t.row', In .i64 (21 - (F : Int))] [] (fun K => K (Bl true) []) := by
  intro F
  induction F with
  | zero =>
    intro t _ _
    refine con_intro Tryd.func54 rfl rfl (Nat.le_of_ble_eq_true rfl) (fun c hc => R_ (o_ r_ (ci_ r_ (fun bx => E_ r_ (T_ (am_ (R_ (M_ r_ (o_ r_ (bz_ r_ r_ (T_ (jc_condd rfl (fun _ => R_ (E_ r_ (T_ (ar_ (aw_ ?_))))) (fun h => by omega)))))))))))))
    refine jq_ret1 rfl rfl [] rfl (fun K h => h)
  | succ F ih =>
    intro t hF hok
    have hF1 : (21 - ((F + 1 : Nat) : Int) + 1) = 21 - (F : Int) := by omega
    have hF2 : ¬ 20 < (21 - ((F + 1 : Nat) : Int)) := by omega
    have hF3 : 0 ≤ (21 - ((F + 1 : Nat) : Int)) ∧ (21 - ((F + 1 : Nat) : Int)) ≤ 20 := by omega
    generalize (21 - ((F + 1 : Nat) : Int)) = d at hF1 hF2 hF3 ⊢
    cases t with
    | nu n =>
      have hS := rsmall_c n hok
      refine con_intro Tryd.func54 rfl rfl (Nat.le_of_ble_eq_true rfl) (fun c hc => R_ (o_ r_ (ci_ r_ (fun bx => E_ r_ (T_ (am_ (R_ (M_ r_ (o_ r_ (bz_ r_ r_ (T_ (jc_condd rfl (fun h => absurd h hF2) (fun _ => as_ (al_ (am_ (R_ (F_ r_ ?_)))))))))))))))))
      refine L_ 0 r_ (T_ (au_ (R_ (o_ r_ (bn_ r_ r_ (E_ r_ (T_ (jc_condd rfl (fun _ => R_ (F_ r_ (L_ 0 r_ (o_ r_ (bm_ r_ (hS) (M_ r_ (ah_ r_ r_ b_ (bf_ r_ r_ r_ b_ (ah_ r_ r_ b_ (bg_ 0 r_ r_ r_ r_ (ah_ r_ r_ b_ (cs_ r_ r_ ?_)))))))))))) (fun h => absurd rfl h)))))))))
      refine o_ r_ (bp_ r_ r_ r_ (M_ r_ (ah_ r_ r_ b_ (bf_ r_ r_ r_ b_ (ah_ r_ r_ b_ (bg_ 0 r_ r_ r_ r_ (ah_ r_ r_ b_ (bn_ r_ r_ (o_ r_ (bp_ r_ x_ r_ (M_ r_ (ah_ r_ r_ b_ (bf_ r_ r_ r_ b_ (ah_ r_ r_ b_ (bg_ 0 r_ r_ r_ r_ (ah_ r_ r_ b_ (br_ r_ (fun hlen => ah_ r_ r_ b_ (bn_ r_ r_ (o_ r_ (bp_ r_ x_ r_ (E_ r_ (T_ (ar_ (az_ ?_)))))))))))))))))))))))))
      refine aw_ (jq_ret1 rfl rfl [] rfl (fun K h => h))
    | nm s =>
      have hS := rname_c s hok
      refine con_intro Tryd.func54 rfl rfl (Nat.le_of_ble_eq_true rfl) (fun c hc => R_ (o_ r_ (ci_ r_ (fun bx => E_ r_ (T_ (am_ (R_ (M_ r_ (o_ r_ (bz_ r_ r_ (T_ (jc_condd rfl (fun h => absurd h hF2) (fun _ => as_ (al_ (am_ (R_ (F_ r_ ?_)))))))))))))))))
      refine L_ 0 r_ (T_ (au_ (R_ (o_ r_ (bn_ r_ r_ (E_ r_ (T_ (jc_condd rfl (fun h => by cases h) (fun _ => R_ (o_ r_ (bn_ r_ r_ (E_ r_ (T_ (jc_condd rfl (fun _ => R_ (F_ r_ (L_ 0 r_ ?_))) (fun h => absurd rfl h)))))))))))))))
      refine o_ r_ (bm_ r_ (hS) (M_ r_ (ah_ r_ r_ b_ (bf_ r_ r_ r_ b_ (ah_ r_ r_ b_ (bg_ 0 r_ r_ r_ r_ (ah_ r_ r_ b_ (bn_ r_ r_ (o_ r_ (bp_ r_ r_ r_ (M_ r_ (ah_ r_ r_ b_ (bf_ r_ r_ r_ b_ (ah_ r_ r_ b_ (bg_ 0 r_ r_ r_ r_ (ah_ r_ r_ b_ (bn_ r_ r_ (o_ r_ (bp_ r_ x_ r_ (M_ r_ (ah_ r_ r_ b_ (bf_ r_ r_ r_ b_ (ah_ r_ r_ b_ (bg_ 0 r_ r_ r_ r_ (ah_ r_ r_ b_ (br_ r_ (fun hlen => ah_ r_ r_ b_ (bn_ r_ r_ ?_))))))))))))))))))))))))))))
      refine o_ r_ (bp_ r_ x_ r_ (E_ r_ (T_ (ar_ (az_ (aw_ (jq_ret1 rfl rfl [] rfl (fun K h => h))))))))
    | ix s t =>
      have hS := rname_c s hok.1
      have hI := ih t (by omega) hok.2
      rw [← hF1] at hI
      have e1 : [t].length = 1 := rfl
      show Con _ _ [.row [.val (.int .i64 3), .val (.int .i64 0), .val (.string s), .val (.int .i64 0), .list ([t].map T.row)], In .i64 d] [] _
      refine con_intro Tryd.func54 rfl rfl (Nat.le_of_ble_eq_true rfl) (fun c hc => R_ (o_ r_ (ci_ r_ (fun bx => E_ r_ (T_ (am_ (R_ (M_ r_ (o_ r_ (bz_ r_ r_ (T_ (jc_condd rfl (fun h => absurd h hF2) (fun _ => as_ (al_ (am_ (R_ (F_ r_ ?_)))))))))))))))))
      refine L_ 0 r_ (T_ (au_ (R_ (o_ r_ (bn_ r_ r_ (E_ r_ (T_ (jc_condd rfl (fun h => by cases h) (fun _ => R_ (o_ r_ (bn_ r_ r_ (E_ r_ (T_ (jc_condd rfl (fun h => by cases h) (fun _ => R_ (o_ r_ (bn_ r_ r_ (E_ r_ ?_))))))))))))))))))
      refine T_ (jc_condd rfl (fun _ => R_ (F_ r_ (L_ 0 r_ (o_ r_ (bm_ r_ (hS) (M_ r_ (ah_ r_ r_ b_ (bf_ r_ r_ r_ b_ (ah_ r_ r_ b_ (bg_ 0 r_ r_ r_ r_ (ah_ r_ r_ b_ (bn_ r_ r_ (o_ r_ (bp_ r_ r_ r_ (M_ r_ (ah_ r_ r_ b_ (bf_ r_ r_ r_ b_ (ah_ r_ r_ b_ (bg_ 0 r_ r_ r_ r_ (ah_ r_ r_ b_ (bn_ r_ r_ (o_ r_ (bp_ r_ x_ r_ ?_))))))))))))))))))))))) (fun h => absurd rfl h))
      refine M_ r_ (ah_ r_ r_ b_ (bf_ r_ r_ r_ b_ (ah_ r_ r_ b_ (bg_ 0 r_ r_ r_ r_ (ah_ r_ r_ b_ (br_ r_ (fun hlen => ah_ r_ r_ b_ (bn_ r_ r_ (o_ r_ (bp_ r_ x_ r_ (M_ r_ (ah_ r_ r_ b_ (bf_ r_ r_ r_ b_ (ah_ r_ r_ b_ (bg_ 0 r_ r_ r_ r_ (ah_ r_ r_ b_ (cv_ r_ r_ g_ g_ (T.row_eq _) r_ b_ (ah_ r_ r_ b_ (cr_ r_ r_ r_ (ah_ r_ r_ b_ (bd_ r_ (ah_ r_ r_ b_ (bj_ r_ r_ g_ (ah_ r_ r_ b_ (bm_ r_ (hI) ?_)))))))))))))))))))))))))
      refine o_ r_ (bp_ r_ x_ r_ (E_ r_ (T_ (ar_ (az_ (aw_ (jq_ret1 rfl rfl [] rfl (fun K h => h))))))))
    | bn o a b =>
      have hI1 := ih a (by omega) hok.2.1
      have hI2 := ih b (by omega) hok.2.2
      rw [← hF1] at hI1 hI2
      have ho := hok.1
      have ho1 : o ≤ 14 := ho.2
      have e1 : [a, b].length = 2 := rfl
      show Con _ _ [.row [.val (.int .i64 4), .val (.int .i64 0), .val (.string ⟨#[]⟩), .val (.int .i64 o), .list ([a, b].map T.row)], In .i64 d] [] _
      refine con_intro Tryd.func54 rfl rfl (Nat.le_of_ble_eq_true rfl) (fun c hc => R_ (o_ r_ (ci_ r_ (fun bx => E_ r_ (T_ (am_ (R_ (M_ r_ (o_ r_ (bz_ r_ r_ (T_ (jc_condd rfl (fun h => absurd h hF2) (fun _ => as_ (al_ (am_ (R_ (F_ r_ ?_)))))))))))))))))
      refine L_ 0 r_ (T_ (au_ (R_ (o_ r_ (bn_ r_ r_ (E_ r_ (T_ (jc_condd rfl (fun h => by cases h) (fun _ => R_ (o_ r_ (bn_ r_ r_ (E_ r_ (T_ (jc_condd rfl (fun h => by cases h) (fun _ => R_ (o_ r_ (bn_ r_ r_ (E_ r_ ?_))))))))))))))))))
      refine T_ (jc_condd rfl (fun h => by cases h) (fun _ => R_ (o_ r_ (bn_ r_ r_ (E_ r_ (T_ (jc_condd rfl (fun _ => R_ (F_ r_ (L_ 0 r_ (o_ r_ (cs_ r_ r_ (M_ r_ (ah_ r_ r_ b_ (bf_ r_ r_ r_ b_ (ah_ r_ r_ b_ (bg_ 0 r_ r_ r_ r_ (ah_ r_ r_ b_ (bn_ r_ r_ (o_ r_ (bp_ r_ x_ r_ ?_)))))))))))))) (fun h => absurd rfl h))))))))
      refine M_ r_ (ah_ r_ r_ b_ (bf_ r_ r_ r_ b_ (ah_ r_ r_ b_ (bg_ 0 r_ r_ r_ r_ (ah_ r_ r_ b_ (cn_ r_ r_ (o_ r_ (bp_ r_ x_ r_ (M_ r_ (ah_ r_ t_ b_ (bf_ r_ r_ r_ b_ (ah_ r_ t_ b_ (bg_ 0 r_ r_ r_ r_ (ah_ r_ t_ b_ (cu_ r_ r_ (o_ r_ (bp_ r_ t_ r_ (M_ r_ (ah_ r_ t_ b_ (bf_ r_ r_ r_ b_ (ah_ r_ t_ b_ (bg_ 0 r_ r_ r_ r_ (ah_ r_ t_ b_ (br_ r_ (fun hlen => ah_ r_ t_ b_ (bn_ r_ r_ (o_ r_ (bp_ r_ u_ r_ ?_))))))))))))))))))))))))))))
      refine M_ r_ (ah_ r_ r_ b_ (bf_ r_ r_ r_ b_ (ah_ r_ r_ b_ (bg_ 0 r_ r_ r_ r_ (ah_ r_ r_ b_ (cv_ r_ r_ g_ g_ (T.row_eq _) r_ b_ (ah_ r_ r_ b_ (cr_ r_ r_ r_ (ah_ r_ r_ b_ (bd_ r_ (ah_ r_ r_ b_ (bj_ r_ r_ g_ (ah_ r_ r_ b_ (bm_ r_ (hI1) (o_ r_ (bp_ r_ x_ r_ (M_ r_ (ah_ r_ r_ b_ (bf_ r_ r_ r_ b_ (ah_ r_ r_ b_ (bg_ 0 r_ r_ r_ r_ (ah_ r_ r_ b_ (cv_ r_ r_ g_ g_ (T.row_eq _) r_ b_ ?_)))))))))))))))))))))))
      refine ah_ r_ r_ b_ (cr_ r_ r_ r_ (ah_ r_ r_ b_ (bd_ r_ (ah_ r_ r_ b_ (bj_ r_ r_ g_ (ah_ r_ r_ b_ (bm_ r_ (hI2) (o_ r_ (bp_ r_ r_ r_ (E_ r_ (T_ (ar_ (az_ (aw_ (jq_ret1 rfl rfl [] rfl (fun K h => h))))))))))))))))
end Go.Proofs.YtamajcgdfjeehaaDoor
end

section
namespace Go.Proofs.YtamajcgdfjeehaaDoor
open Go.Vc
attribute [local irreducible] JL JC JQ OpWp
attribute [local irreducible] byteAt runLen isL isD isName hasW
set_option maxHeartbeats 4000000

def numS (n : Int) : ByteArray := ⟨(Lib.itoa n).toArray⟩
attribute [local irreducible] Con ConN
theorem numS_size (n : Int) (h0 : -2147483647 ≤ n) (h1 : n ≤ 2147483647) : (numS n).size ≤ 21 := by
  have := Lib.itoa_length_le n (by omega) (by omega)
  unfold numS
  simpa [ByteArray.size] using this
theorem numS_nonneg (n : Int) (h : 0 ≤ n) : numS n = decS n.toNat := by
  obtain ⟨u, rfl⟩ : ∃ u : Nat, n = u := ⟨n.toNat, by omega⟩
  unfold numS decS
  rw [Lib.itoa_nonneg, Int.toNat_natCast]
theorem numS_neg (n : Int) (h : n < 0) : numS n = ⟨#[45]⟩ ++ decS (-n).toNat := by
  obtain ⟨u, rfl⟩ : ∃ u : Nat, n = -(u : Int) := ⟨(-n).toNat, by omega⟩
  unfold numS decS
  rw [Lib.itoa_neg u (by omega), show (- -(u : Int)).toNat = u by omega]
  apply ByteArray.ext
  rw [ByteArray.data_append]
  simp
theorem refNumber_c (n : Int) (h : -2147483647 ≤ n ∧ n ≤ 2147483647) : Con Tryd.prog 61 [In .i64 n] [] (fun K => K (Str (numS n)) []) := by
  refine con_intro Tryd.func61 rfl rfl (Nat.le_of_ble_eq_true rfl) (fun c hc => R_ (E_ r_ (T_ (am_ (R_ (M_ r_ (o_ r_ (bw_ r_ r_ (T_ (jc_condd rfl (fun hn => ?_) (fun hn => ?_)))))))))))
  · have hD := Decimal_c (-n).toNat (by omega)
    rw [show (((-n).toNat : Nat) : Int) = -n by omega] at hD
    have h45 : (⟨#[45]⟩ : ByteArray).size = 1 := rfl
    have hz := decS_le (-n).toNat (by omega)
    refine R_ (M_ r_ (o_ r_ (cy_ r_ g_ (o_ r_ (bm_ r_ (hD) (o_ r_ (ow_strcat r_ r_ g_ (E_ r_ (T_ (ar_ (aw_ (jq_ret1 rfl rfl [] rfl (fun K h => by rw [numS_neg n hn] at h; exact h)))))))))))))
  · have hD := Decimal_c n.toNat (by omega)
    rw [show ((n.toNat : Nat) : Int) = n by omega] at hD
    refine as_ (al_ (R_ (M_ r_ (o_ r_ (bm_ r_ (hD) (E_ r_ (T_ (ar_ (jq_ret1 rfl rfl [] rfl (fun K h => by rw [numS_nonneg n g_] at h; exact h))))))))))
def textT : T → ByteArray
  | .nu n => if n < 0 then (⟨#[40]⟩ ++ numS n) ++ ⟨#[41]⟩ else numS n
  | .nm s => s
  | .ix s t => ((s ++ ⟨#[91]⟩) ++ textT t) ++ ⟨#[93]⟩
  | .bn o a b => (((((⟨#[40]⟩ ++ textT a) ++ ⟨#[32]⟩) ++ signT o) ++ ⟨#[32]⟩) ++ textT b) ++ ⟨#[41]⟩
theorem one_size (c : UInt8) : (⟨#[c]⟩ : ByteArray).size = 1 := rfl
theorem sign_size {o : Int} (h : 1 ≤ o ∧ o ≤ 14) : (signT o).size ≤ 2 := by
  rcases op14 h with rfl | rfl | rfl | rfl | rfl | rfl | rfl | rfl | rfl | rfl | rfl | rfl | rfl | rfl <;> decide
end Go.Proofs.YtamajcgdfjeehaaDoor
end

section
namespace Go.Proofs.YtamajcgdfjeehaaDoor
open Go.Vc
attribute [local irreducible] JL JC JQ OpWp Con ConN
attribute [local irreducible] byteAt runLen isL isD isName hasW
set_option maxHeartbeats 4000000

theorem rtext_c : ∀ (t : T), t.ok → (textT t).size ≤ 1000000000 → Con Tryd.prog 55 [.row t.row'] [] (fun K => K (Str (textT t)) []) := by
  intro t
  induction t with
  | nu n =>
    intro hok hz
    have hI := refNumber_c n hok
    have hz := numS_size n hok.1 hok.2
    have h40 := one_size 40
    have h41 := one_size 41
    have h2 : (⟨#[40]⟩ ++ numS n).size ≤ 30 := by rw [ByteArray.size_append]; omega
    show Con _ _ [.row [.val (.int .i64 1), .val (.int .i64 n), .val (.string ⟨#[]⟩), .val (.int .i64 0), .list (([] : List T).map T.row)]] [] _
    refine con_intro Tryd.func55 rfl rfl (Nat.le_of_ble_eq_true rfl) (fun c hc => R_ (o_ r_ (ci_ r_ (fun bx => E_ r_ (T_ (am_ (R_ (F_ r_ (L_ 0 r_ (T_ (au_ (R_ (o_ r_ (bn_ r_ r_ (E_ r_ (T_ (jc_condd rfl (fun _ => ?_) (fun h => absurd rfl h))))))))))))))))))
    refine am_ (R_ (F_ r_ (L_ 0 r_ (o_ r_ (bw_ r_ r_ (T_ (jc_condd rfl (fun hn => ?_) (fun hn => ?_))))))))
    · have e : textT (.nu n) = (⟨#[40]⟩ ++ numS n) ++ ⟨#[41]⟩ := by unfold textT; rw [if_pos hn]
      refine R_ (F_ r_ (L_ 0 r_ (o_ r_ (bm_ r_ (hI) (o_ r_ (ow_strcat r_ r_ g_ (o_ r_ (ow_strcat r_ r_ g_ (E_ r_ (T_ (ar_ (aw_ (az_ (aw_ (jq_ret1 rfl rfl [] rfl (fun K h => by rw [e] at h; exact h))))))))))))))))
    · have e : textT (.nu n) = numS n := by unfold textT; rw [if_neg hn]
      refine as_ (al_ (R_ (F_ r_ (L_ 0 r_ (o_ r_ (bm_ r_ (hI) (E_ r_ (T_ (ar_ (az_ (aw_ (jq_ret1 rfl rfl [] rfl (fun K h => by rw [e] at h; exact h)))))))))))))
  | nm s =>
    intro hok hz
    show Con _ _ [.row [.val (.int .i64 2), .val (.int .i64 0), .val (.string s), .val (.int .i64 0), .list (([] : List T).map T.row)]] [] _
    refine con_intro Tryd.func55 rfl rfl (Nat.le_of_ble_eq_true rfl) (fun c hc => R_ (o_ r_ (ci_ r_ (fun bx => E_ r_ (T_ (am_ (R_ (F_ r_ (L_ 0 r_ (T_ (au_ (R_ (o_ r_ (bn_ r_ r_ (E_ r_ (T_ (jc_condd rfl (fun h => by cases h) (fun _ => ?_))))))))))))))))))
    refine R_ (o_ r_ (bn_ r_ r_ (E_ r_ (T_ (jc_condd rfl (fun _ => R_ (F_ r_ (L_ 0 r_ (E_ r_ (T_ (ar_ (az_ (aw_ (jq_ret1 rfl rfl [] rfl (fun K h => h)))))))))) (fun h => absurd rfl h))))))
  | ix s t ih =>
    intro hok hz
    have e : textT (.ix s t) = ((s ++ ⟨#[91]⟩) ++ textT t) ++ ⟨#[93]⟩ := by rw [textT]
    rw [e] at hz
    have h91 := one_size 91
    have h93 := one_size 93
    have hz1 := hz
    rw [ByteArray.size_append] at hz1
    have hz2 := hz1
    rw [ByteArray.size_append] at hz2
    have hz3 := hz2
    rw [ByteArray.size_append] at hz3
    have hI := ih hok.2 (by omega)
    have e1 : [t].length = 1 := rfl
    show Con _ _ [.row [.val (.int .i64 3), .val (.int .i64 0), .val (.string s), .val (.int .i64 0), .list ([t].map T.row)]] [] _
    refine con_intro Tryd.func55 rfl rfl (Nat.le_of_ble_eq_true rfl) (fun c hc => R_ (o_ r_ (ci_ r_ (fun bx => E_ r_ (T_ (am_ (R_ (F_ r_ (L_ 0 r_ (T_ (au_ (R_ (o_ r_ (bn_ r_ r_ (E_ r_ (T_ (jc_condd rfl (fun h => by cases h) (fun _ => ?_))))))))))))))))))
    refine R_ (o_ r_ (bn_ r_ r_ (E_ r_ (T_ (jc_condd rfl (fun h => by cases h) (fun _ => R_ (o_ r_ (bn_ r_ r_ (E_ r_ (T_ (jc_condd rfl (fun _ => am_ (ao_ r_ r_ k_ k_ (yF_ r_ (yL_ 0 r_ (aa_ (fun c => ow_strcat r_ r_ g_ p_) (yF_ r_ ?_)))))) (fun h => absurd rfl h))))))))))))
    refine yL_ 0 r_ (aa_ (fun c => cv_ r_ r_ g_ g_ (T.row_eq _) r_ b_ p_) (aa_ (fun c => cr_ r_ r_ r_ p_) (aa_ (fun c => bm_ r_ (hI) p_) (aa_ (fun c => ow_strcat r_ r_ g_ p_) (aa_ (fun c => ow_strcat r_ r_ g_ p_) (yE_ r_ (ae_ (al_ (ar_ (az_ (aw_ (jq_ret1 rfl rfl [] rfl (fun K h => by rw [e] at h; exact h)))))))))))))
  | bn o a b iha ihb =>
    intro hok hz
    have e : textT (.bn o a b) = (((((⟨#[40]⟩ ++ textT a) ++ ⟨#[32]⟩) ++ signT o) ++ ⟨#[32]⟩) ++ textT b) ++ ⟨#[41]⟩ := by rw [textT]
    rw [e] at hz
    have h40 := one_size 40
    have h32 := one_size 32
    have h41 := one_size 41
    have hz1 := hz
    rw [ByteArray.size_append] at hz1
    have hz2 := hz1
    rw [ByteArray.size_append] at hz2
    have hz3 := hz2
    rw [ByteArray.size_append] at hz3
    have hz4 := hz3
    rw [ByteArray.size_append] at hz4
    have hz5 := hz4
    rw [ByteArray.size_append] at hz5
    have hz6 := hz5
    rw [ByteArray.size_append] at hz6
    have hS := RSign_c o hok.1
    have hA := iha hok.2.1 (by omega)
    have hB := ihb hok.2.2 (by omega)
    have e1 : [a, b].length = 2 := rfl
    show Con _ _ [.row [.val (.int .i64 4), .val (.int .i64 0), .val (.string ⟨#[]⟩), .val (.int .i64 o), .list ([a, b].map T.row)]] [] _
    refine con_intro Tryd.func55 rfl rfl (Nat.le_of_ble_eq_true rfl) (fun c hc => R_ (o_ r_ (ci_ r_ (fun bx => E_ r_ (T_ (am_ (R_ (F_ r_ (L_ 0 r_ (T_ (au_ (R_ (o_ r_ (bn_ r_ r_ (E_ r_ (T_ (jc_condd rfl (fun h => by cases h) (fun _ => ?_))))))))))))))))))
    refine R_ (o_ r_ (bn_ r_ r_ (E_ r_ (T_ (jc_condd rfl (fun h => by cases h) (fun _ => R_ (o_ r_ (bn_ r_ r_ (E_ r_ (T_ (jc_condd rfl (fun h => by cases h) (fun _ => as_ (ay_ (al_ (am_ (ao_ r_ r_ k_ k_ (yF_ r_ ?_)))))))))))))))))
    refine yL_ 0 r_ (aa_ (fun c => cv_ r_ r_ g_ g_ (T.row_eq _) r_ b_ p_) (aa_ (fun c => cr_ r_ r_ r_ p_) (aa_ (fun c => bm_ r_ (hA) p_) (aa_ (fun c => ow_strcat r_ r_ g_ p_) (aa_ (fun c => ow_strcat r_ r_ g_ p_) (yF_ r_ (yL_ 0 r_ (aa_ (fun c => bm_ r_ (hS) p_) (aa_ (fun c => ow_strcat r_ r_ g_ p_) (aa_ (fun c => ow_strcat r_ r_ g_ p_) (yF_ r_ (yL_ 0 r_ (aa_ (fun c => cv_ r_ r_ g_ g_ (T.row_eq _) r_ b_ p_) ?_)))))))))))))
    refine aa_ (fun c => cr_ r_ r_ r_ p_) (aa_ (fun c => bm_ r_ (hB) p_) (aa_ (fun c => ow_strcat r_ r_ g_ p_) (aa_ (fun c => ow_strcat r_ r_ g_ p_) (yE_ r_ (ae_ (al_ (ar_ (jq_ret1 rfl rfl [] rfl (fun K h => by rw [e] at h; exact h)))))))))

theorem name_size {s : ByteArray} (h : nmOk s) : s.size ≤ 12 := by
  have := h.1
  unfold isName at this
  simp only [Bool.and_eq_true, decide_eq_true_eq] at this
  exact this.1.2
theorem text_size : ∀ (t : T), t.ok → (textT t).size + 50 ≤ 100 * 2 ^ t.dep
  | .nu n, h => by
    have := numS_size n h.1 h.2
    have h40 := one_size 40
    have h41 := one_size 41
    unfold textT
    simp only [T.dep]
    split
    · rw [ByteArray.size_append, ByteArray.size_append]; omega
    · omega
  | .nm s, h => by
    have := name_size h
    simp only [textT, T.dep]
    omega
  | .ix s t, h => by
    have := name_size h.1
    have := text_size t h.2
    have h91 := one_size 91
    have h93 := one_size 93
    simp only [textT, T.dep, ByteArray.size_append, Nat.pow_succ]
    omega
  | .bn o a b, h => by
    have h1 := text_size a h.2.1
    have h2 := text_size b h.2.2
    have h3 := sign_size h.1
    have h40 := one_size 40
    have h32 := one_size 32
    have h41 := one_size 41
    have e1 : 2 ^ a.dep ≤ 2 ^ max a.dep b.dep := Nat.pow_le_pow_right (by decide) (by omega)
    have e2 : 2 ^ b.dep ≤ 2 ^ max a.dep b.dep := Nat.pow_le_pow_right (by decide) (by omega)
    simp only [textT, T.dep, ByteArray.size_append, Nat.pow_succ]
    omega
theorem text_small {t : T} (h : t.ok) (hd : t.dep ≤ 8) : (textT t).size ≤ 1000000000 := by
  have h1 := text_size t h
  have h2 : 2 ^ t.dep ≤ 2 ^ 8 := Nat.pow_le_pow_right (by decide) hd
  omega
def exprF (t : T) : ByteArray × Int := if 8 < t.dep then (⟨#[]⟩, 4) else (textT t, 0)
theorem RExpr_c (t : T) (h : t.ok) : Con Tryd.prog 32 [.row t.row'] [] (fun K => K (.tup [Str (exprF t).1, In .i64 (exprF t).2]) []) := by
  have hD := RDepth_c t
  have hS := rshaped_c 20 t (by omega) h
  rw [rd_eq 20 t (by omega)] at hD
  rw [show (21 - ((20 : Nat) : Int)) = 1 by omega] at hS
  refine con_intro Tryd.func32 rfl rfl (Nat.le_of_ble_eq_true rfl) (fun c hc => R_ (o_ r_ (ci_ r_ (fun bx => E_ r_ (E_ r_ (T_ (am_ (R_ (A_ 0 r_ (o_ r_ (bm_ r_ (hD) (o_ r_ (bz_ r_ r_ (T_ (jc_condd rfl (fun hd => ?_) (fun hd => ?_))))))))))))))))
  · have e : exprF t = (⟨#[]⟩, 4) := by unfold exprF; rw [if_pos (by omega)]
    refine R_ (E_ r_ (E_ r_ (T_ (ar_ (aw_ (jq_ret2 rfl rfl rfl [] rfl (fun K h => by rw [e] at h; exact h)))))))
  · have hd8 : t.dep ≤ 8 := by omega
    have e : exprF t = (textT t, 0) := by unfold exprF; rw [if_neg (by omega)]
    have hT := rtext_c t h (text_small h hd8)
    refine as_ (al_ (am_ (R_ (A_ 0 r_ (o_ r_ (bm_ r_ (hS) (o_ r_ (cd_ r_ (T_ (jc_cond rfl (fun h => by cases h) (fun _ => as_ (al_ (R_ (A_ 0 r_ (o_ r_ (bm_ r_ (hT) (E_ r_ (E_ r_ ?_))))))))))))))))))
    refine T_ (ar_ (jq_ret2 rfl rfl rfl [] rfl (fun K h => by rw [e] at h; exact h)))

end Go.Proofs.YtamajcgdfjeehaaDoor
end

section
namespace Go.Proofs.YtamajcgdfjeehaaDoor
open Go.Vc
attribute [local irreducible] JL JC JQ OpWp Con ConN
attribute [local irreducible] byteAt runLen isL isD isName hasW
set_option maxHeartbeats 4000000

def Fx (x : T) : Prop := x.ok ∧ x.dep ≤ 8
def Pl (n : Int) : Prop := 0 ≤ n ∧ n ≤ 2147483647
def fineS : Nat → Sm → Prop
  | 0, _ => False
  | n + 1, s =>
    (s.kind = 1 ∧ nmOk s.name ∧ ∃ x, s.value = [x] ∧ Fx x) ∨
    (s.kind = 2 ∧ nmOk s.name ∧ ∃ y x, s.index = [y] ∧ s.value = [x] ∧ Fx y ∧ Fx x) ∨
    (s.kind = 3 ∧ (∃ x, s.value = [x] ∧ Fx x) ∧ Pl s.label ∧ (∀ t ∈ s.thn, fineS n t) ∧ ∀ t ∈ s.els, fineS n t) ∨
    (s.kind = 4 ∧ (∃ x, s.value = [x] ∧ Fx x) ∧ Pl s.max ∧ Pl s.label ∧ (∀ t ∈ s.thn, fineS n t) ∧ s.els = []) ∨
    (s.kind = 5 ∧ nmOk s.name ∧ (∀ t ∈ s.thn, fineS n t) ∧ s.els = [])
theorem Fx.size {x : T} (h : Fx x) : (textT x).size ≤ 25600 := by
  have h1 := text_size x h.1
  have h2 : 2 ^ x.dep ≤ 2 ^ 8 := Nat.pow_le_pow_right (by decide) h.2
  omega
theorem Pl.size {n : Int} (h : Pl n) : (numS n).size ≤ 21 := numS_size n (by have := h.1; omega) h.2
end Go.Proofs.YtamajcgdfjeehaaDoor
end

section
namespace Go.Proofs.YtamajcgdfjeehaaDoor
open Go.Vc

theorem nmOk_lit {s : ByteArray} (h : (isName s && !hasW s) = true) : nmOk s := by
  simp only [Bool.and_eq_true, Bool.not_eq_true'] at h
  exact h
theorem ExG.fine {V U : List ByteArray} (hV : ∀ s ∈ V, nmOk s) (hU : ∀ s ∈ U, nmOk s) : ∀ {d : Nat} {t : T}, ExG V U d t → t.ok ∧ t.dep ≤ d + 1 := by
  intro d t h
  induction h with
  | nu d n h => exact ⟨h, by simp [T.dep]⟩
  | nm d s h => exact ⟨hV s h, by simp [T.dep]⟩
  | ix d s t h _ ih => exact ⟨⟨hU s h, ih.1⟩, by simp only [T.dep]; omega⟩
  | bn d o a b ho _ _ iha ihb => exact ⟨⟨ho, iha.1, ihb.1⟩, by simp only [T.dep]; omega⟩
theorem pc_all {St : Int → Int → List Sm → Prop} {P : Sm → Prop} (h : ∀ a b l, St a b l → 0 ≤ a → a ≤ b ∧ ∀ s ∈ l, P s) {k : Nat} {a b : Int} {l : List Sm} (hp : PcG St k a b l) (h0 : 0 ≤ a) : a ≤ b ∧ ∀ s ∈ l, P s := by
  induction hp with
  | nil => exact ⟨Int.le_refl _, by simp⟩
  | snoc k _ _ _ l l2 _ h2 ih =>
    obtain ⟨i1, i2⟩ := ih h0
    obtain ⟨j1, j2⟩ := h _ _ _ h2 (by omega)
    refine ⟨by omega, fun s hs => ?_⟩
    rcases List.mem_append.1 hs with hs | hs
    · exact i2 s hs
    · exact j2 s hs
theorem bl_all {St : Int → Int → List Sm → Prop} {P : Sm → Prop} (h : ∀ a b l, St a b l → 0 ≤ a → a ≤ b ∧ ∀ s ∈ l, P s) {m : Int} {a b : Int} {l : List Sm} (hp : BlG St m a b l) (h0 : 0 ≤ a) : a ≤ b ∧ ∀ s ∈ l, P s := by
  obtain ⟨k, _, hp⟩ := hp
  exact pc_all h hp h0
/-- An expression as makers make it. -/
def Fm (x : T) : Prop := x.ok ∧ x.dep ≤ 3
theorem Fm.fx {x : T} (h : Fm x) : Fx x := ⟨h.1, Nat.le_trans h.2 (by decide)⟩
/-- A statement as the grammar has it: of at most a depth. -/
def mdS : Nat → Sm → Prop
  | 0, _ => False
  | n + 1, s =>
    (∃ v x, nmOk v ∧ Fm x ∧ s = .mk 1 v [] [x] 0 0 [] []) ∨
    (∃ v y x, nmOk v ∧ Fm y ∧ Fm x ∧ s = .mk 2 v [y] [x] 0 0 [] []) ∨
    (∃ x lab t e, Fm x ∧ Pl lab ∧ (∀ u ∈ t, mdS n u) ∧ (∀ u ∈ e, mdS n u) ∧ s = .mk 3 E0 [] [x] 0 lab t e) ∨
    (∃ x mx lab t, Fm x ∧ Pl mx ∧ Pl lab ∧ (∀ u ∈ t, mdS n u) ∧ s = .mk 4 E0 [] [x] mx lab t []) ∨
    (∃ v t, nmOk v ∧ (∀ u ∈ t, mdS n u) ∧ s = .mk 5 v [] [] 0 0 t [])
theorem mdS.fine : ∀ {n : Nat} {s : Sm}, mdS n s → fineS n s
  | 0, _, h => h.elim
  | n + 1, s, h => by
    unfold mdS at h
    unfold fineS
    rcases h with ⟨v, x, hv, hx, rfl⟩ | ⟨v, y, x, hv, hy, hx, rfl⟩ | ⟨x, lab, t, e, hx, hl, ht, he, rfl⟩ | ⟨x, mx, lab, t, hx, hm, hl, ht, rfl⟩ | ⟨v, t, hv, ht, rfl⟩
    · exact .inl ⟨rfl, hv, x, rfl, hx.fx⟩
    · exact .inr (.inl ⟨rfl, hv, y, x, rfl, rfl, hy.fx, hx.fx⟩)
    · exact .inr (.inr (.inl ⟨rfl, ⟨x, rfl, hx.fx⟩, hl, fun u hu => (ht u hu).fine, fun u hu => (he u hu).fine⟩))
    · exact .inr (.inr (.inr (.inl ⟨rfl, ⟨x, rfl, hx.fx⟩, hm, hl, fun u hu => (ht u hu).fine, rfl⟩)))
    · exact .inr (.inr (.inr (.inr ⟨rfl, hv, fun u hu => (ht u hu).fine, rfl⟩)))
theorem md_set {n : Nat} {v : ByteArray} {x : T} (hv : nmOk v) (hx : Fm x) : mdS (n + 1) (.mk 1 v [] [x] 0 0 [] []) := .inl ⟨v, x, hv, hx, rfl⟩
theorem StG.md {V A : List ByteArray} {Sh : List Shd} (hV : ∀ s ∈ V, nmOk s) (hU : ∀ hs, ∀ s ∈ usableF A Sh hs, nmOk s) (hR : ∀ x ∈ Sh, nmOk x.2.2) : ∀ (d : Nat) (il : Int) (hs : ByteArray) (a b : Int) (l : List Sm), StG V A Sh d il hs a b l → 0 ≤ a → a ≤ b ∧ ∀ s ∈ l, mdS (d + 1) s := by
  have ex : ∀ {hs : ByteArray} {d : Nat} {t : T}, ExG V (usableF A Sh hs) d t → d ≤ 2 → Fm t := fun h hd => ⟨(h.fine hV (hU _)).1, by have := (h.fine hV (hU _)).2; omega⟩
  have leaf : ∀ {n : Nat} {hs : ByteArray} {a b : Int} {l : List Sm}, LeafG V (usableF A Sh hs) a b l → a ≤ b ∧ ∀ s ∈ l, mdS (n + 1) s := by
    rintro n hs a b l ⟨rfl, ⟨s, e, h1, h2, rfl⟩ | ⟨s, e1, e2, h1, h2, h3, rfl⟩⟩
    · refine ⟨Int.le_refl _, fun t ht => ?_⟩
      rw [List.mem_singleton.1 ht]
      exact md_set (hV s h1) (ex h2 (by omega))
    · refine ⟨Int.le_refl _, fun t ht => ?_⟩
      rw [List.mem_singleton.1 ht]
      exact .inr (.inl ⟨s, e1, e2, hU _ s h1, ex h2 (by omega), ex h3 (by omega), rfl⟩)
  intro d
  induction d with
  | zero => intro il hs a b l h _; exact leaf h
  | succ d ih =>
    intro il hs a b l h h0
    rcases h with h | ⟨hl, c, l1, l2, lab1, hc, hb1, hb2, rfl⟩ | ⟨_, hl, ⟨c, mx, l1, hc, hm, hb, rfl⟩ | ⟨v, n, op, top, mx, l1, st, hv, hn, ho, ht, hm, hst, hb, rfl⟩⟩ | ⟨_, sh, hsh, l1, hb, rfl⟩
    · exact leaf h
    · obtain ⟨g1, g2⟩ := bl_all (ih il hs) hb1 (by omega)
      have g3 : lab1 ≤ b ∧ ∀ s ∈ l2, mdS (d + 1) s := by
        rcases hb2 with ⟨rfl, rfl⟩ | hb2
        · exact ⟨Int.le_refl _, by simp⟩
        · exact bl_all (ih il hs) hb2 (by omega)
      refine ⟨by omega, fun t ht => ?_⟩
      rw [List.mem_singleton.1 ht]
      exact .inr (.inr (.inl ⟨c, a + 1, l1, l2, ex hc (by omega), ⟨by omega, by omega⟩, g2, g3.2, rfl⟩))
    · obtain ⟨g1, g2⟩ := bl_all (ih (il + 1) hs) hb (by omega)
      refine ⟨by omega, fun t ht => ?_⟩
      rw [List.mem_singleton.1 ht]
      exact .inr (.inr (.inr (.inl ⟨c, mx, a + 1, l1, ex hc (by omega), ⟨by omega, by omega⟩, ⟨by omega, by omega⟩, g2, rfl⟩)))
    · obtain ⟨g1, g2⟩ := bl_all (ih (il + 1) hs) hb (by omega)
      have hv2 := hV v hv
      have htop : top.ok ∧ top.dep ≤ 1 := by
        rcases ht with ⟨t, ht, rfl⟩ | ⟨s, hs, rfl⟩
        · exact ⟨by show _ ∧ _; omega, by simp [T.dep]⟩
        · exact ⟨hV s hs, by simp [T.dep]⟩
      have hfn : Fm (.nu n) := ⟨by show _ ∧ _; omega, by simp [T.dep]⟩
      have hfc : Fm (.bn (11 + op) (.nm v) top) := ⟨⟨by omega, hv2, htop.1⟩, by simp only [T.dep]; omega⟩
      have hfs : Fm (.bn 1 (.nm v) (.nu st)) := ⟨⟨by omega, hv2, by show _ ∧ _; omega⟩, by simp [T.dep]⟩
      refine ⟨by omega, fun t ht => ?_⟩
      rcases List.mem_cons.1 ht with rfl | ht
      · exact md_set hv2 hfn
      · rw [List.mem_singleton.1 ht]
        refine .inr (.inr (.inr (.inl ⟨_, mx, a + 1, _, hfc, ⟨by omega, by omega⟩, ⟨by omega, by omega⟩, fun s hs => ?_, rfl⟩)))
        rcases List.mem_append.1 hs with hs | hs
        · exact g2 s hs
        · rw [List.mem_singleton.1 hs]
          exact md_set hv2 hfs
    · obtain ⟨g1, g2⟩ := bl_all (ih il sh.2.2) hb h0
      refine ⟨g1, fun t ht => ?_⟩
      rw [List.mem_singleton.1 ht]
      exact .inr (.inr (.inr (.inr ⟨sh.2.2, l1, hR sh hsh, g2, rfl⟩)))
/-- The names of a made task. -/
structure NmsG (Sh : List Shd) (t : Tk) : Prop where
  vars : ∀ s ∈ t.inputs.map (·.1) ++ VS, nmOk s
  usable : ∀ hs, ∀ s ∈ usableF (t.arrays.map (·.1)) Sh hs, nmOk s
  locks : ∀ x ∈ Sh, nmOk x.2.2
theorem RS_ok {n : Nat} : ∀ s ∈ RSl n, nmOk s := by
  rcases n with _ | _ | n
  · simp [RSl]
  · intro s hs
    simp only [RSl, List.mem_singleton] at hs
    subst hs
    exact nmOk_lit (by decide +kernel)
  · intro s hs
    simp only [RSl, List.mem_cons, List.not_mem_nil, or_false] at hs
    rcases hs with rfl | rfl <;> exact nmOk_lit (by decide +kernel)
theorem nms_of {R : List ByteArray} {n : Nat} {Sh : List Shd} {nm : ByteArray} {W : Int} {t : Tk} (hR : R = RSl n) (hSh : ShG R Sh) (h : TaskG Sh nm W t) : NmsG Sh t := by
  have hshN : ∀ x ∈ Sh, nmOk x.1 ∧ nmOk x.2.2 := by
    rcases hSh with rfl | ⟨r, k, hr, _, rfl⟩
    · simp
    · intro x hx
      rw [List.mem_singleton.1 hx]
      exact ⟨nmOk_lit (s := ⟨#[98, 117, 102]⟩) (by decide +kernel), RS_ok (n := n) r (by rw [← hR]; exact List.mem_of_getElem? hr)⟩
  refine ⟨?_, ?_, fun x hx => (hshN x hx).2⟩
  · intro s hs
    rcases List.mem_append.1 hs with hs | hs
    · rw [h.inputs.2.1] at hs
      have := List.mem_of_mem_take hs
      simp only [List.mem_cons, List.not_mem_nil, or_false] at this
      rcases this with rfl | rfl <;> exact nmOk_lit (by decide +kernel)
    · simp only [List.mem_cons, List.not_mem_nil, or_false] at hs
      rcases hs with rfl | rfl | rfl <;> exact nmOk_lit (by decide +kernel)
  · intro hs s hm
    unfold usableF at hm
    rcases List.mem_append.1 hm with hm | hm
    · rcases h.arrays with e | ⟨k, _, e⟩
      · rw [e] at hm; simp at hm
      · rw [e] at hm
        simp only [List.map_cons, List.map_nil, List.mem_singleton] at hm
        subst hm
        exact nmOk_lit (by decide +kernel)
    · obtain ⟨x, hx, he⟩ := List.mem_filterMap.1 hm
      split at he
      · rw [← Option.some.inj he]
        exact (hshN x hx).1
      · cases he
theorem TaskG.md {Sh : List Shd} {nm : ByteArray} {W : Int} {t : Tk} (hN : NmsG Sh t) (h : TaskG Sh nm W t) : ∀ s ∈ t.body, mdS 4 s := by
  obtain ⟨lab, l, n, hl, hb⟩ := h.body
  obtain ⟨_, g⟩ := bl_all (StG.md hN.vars hN.usable hN.locks 3 0 E0) hl (Int.le_refl _)
  intro s hs
  rw [hb] at hs
  exact g s (List.mem_of_mem_take hs)
theorem PgG.md {T : Nat} {W : Int} {p : Pg} (h : PgG T W p) : ∀ t ∈ p.tasks, ∀ s ∈ t.body, mdS 4 s := by
  intro t ht
  obtain ⟨i, hi, rfl⟩ := List.mem_iff_getElem.1 ht
  obtain ⟨n, _, hR⟩ := h.res
  exact (h.tasks i hi).md (nms_of hR h.shared (h.tasks i hi))
end Go.Proofs.YtamajcgdfjeehaaDoor
end

section
namespace Go.Proofs.YtamajcgdfjeehaaDoor
open Go.Vc
theorem scanGo_tok2 {s : ByteArray} {k : Nat} {line : Int} {out : List Tok} {t : Int × Int × ByteArray} {n : Nat} (hk : k < s.size) (h1 : ¬ byteAt s k = 10) (h2 : ¬ (byteAt s k = 32 ∨ byteAt s k = 9)) (hn : nextT (s.extract k s.size) = (t, n)) (h0 : ¬ n = 0) :
    scanGo s k line out = scanGo s (k + n) line (out ++ [⟨t.1, t.2.1, line, t.2.2⟩]) := by
  rw [scanGo, dif_pos hk, if_neg h1, if_neg h2, hn, dif_neg h0]
end Go.Proofs.YtamajcgdfjeehaaDoor
end

section
namespace Go.Proofs.YtamajcgdfjeehaaDoor
open Go.Vc

def isW (n : Int) : Prop := n = 32 ∨ n = 9 ∨ n = 10
theorem isW_not {n : Int} (h : isW n) : isLD n = false ∧ isD n = false ∧ isL n = false := by
  rcases h with rfl | rfl | rfl <;> decide
theorem bytesI_app (s t : ByteArray) : bytesI (s ++ t) = bytesI s ++ bytesI t := by simp [bytesI]
theorem bytesI_full (s : ByteArray) (a : Nat) : bytesI (s.extract a s.size) = (bytesI s).drop a := by
  rw [extract_bytes, List.take_of_length_le (by rw [List.length_drop, bytesI_len]; omega)]
theorem ext_ext (s : ByteArray) (a n : Nat) : (s.extract a s.size).extract n (s.extract a s.size).size = s.extract (a + n) s.size := by
  apply bytesI_inj
  rw [bytesI_full, bytesI_full, bytesI_full, List.drop_drop]
theorem ext_app (x r : ByteArray) (n : Nat) (h : n ≤ x.size) : (x ++ r).extract n (x ++ r).size = x.extract n x.size ++ r := by
  apply bytesI_inj
  rw [bytesI_full, bytesI_app, bytesI_app, bytesI_full, List.drop_append_of_le_length (by rw [bytesI_len]; exact h)]
theorem ext_app_right (x r : ByteArray) : (x ++ r).extract x.size (x ++ r).size = r := by
  apply bytesI_inj
  rw [bytesI_full, bytesI_app, List.drop_append, List.drop_of_length_le (by rw [bytesI_len]; exact Nat.le_refl _), bytesI_len]
  simp
theorem byteAt_app (x r : ByteArray) (n : Nat) (h : n < x.size) : byteAt (x ++ r) n = byteAt x n := by
  rw [byteAt_getD, byteAt_getD, bytesI_app, List.getD_eq_getElem?_getD, List.getD_eq_getElem?_getD, List.getElem?_append_left (by rw [bytesI_len]; exact h)]
theorem pre_app (x r : ByteArray) (n : Nat) (h : n ≤ x.size) : (x ++ r).extract 0 n = x.extract 0 n := by
  apply bytesI_inj
  rw [extract_bytes, extract_bytes, bytesI_app, List.drop_zero, List.drop_zero, List.take_append_of_le_length (by rw [bytesI_len]; omega)]
theorem pre_all (x : ByteArray) : x.extract 0 x.size = x := by
  apply bytesI_inj
  rw [bytesI_full, List.drop_zero]
theorem takeWhile_app {α : Type} {p : α → Bool} : ∀ (l m : List α), (∀ a ∈ m.head?, p a = false) → ((l ++ m).takeWhile p).length = (l.takeWhile p).length
  | [], [], _ => rfl
  | [], a :: m, h => by simp [h a (by simp)]
  | a :: l, m, h => by
    have := takeWhile_app l m h
    rw [List.cons_append, List.takeWhile_cons, List.takeWhile_cons]
    split
    · simp [this]
    · rfl
/-- A text that is empty or begins with a blank. -/
def blankLed (r : ByteArray) : Prop := r.size = 0 ∨ isW (byteAt r 0)
theorem head_bytes {r : ByteArray} {n : Int} (h : n ∈ (bytesI r).head?) : 0 < r.size ∧ n = byteAt r 0 := by
  rw [byteAt_getD]
  cases hb : bytesI r with
  | nil => rw [hb] at h; simp at h
  | cons a l =>
    rw [hb] at h
    simp only [List.head?_cons, Option.mem_def, Option.some.injEq] at h
    refine ⟨by rw [← bytesI_len, hb]; simp, by simp [h]⟩
theorem runLen_app (p : Int → Bool) (hp : ∀ n, isW n → p n = false) (x r : ByteArray) (hr : blankLed r) : runLen p (x ++ r) = runLen p x := by
  unfold runLen
  rw [bytesI_app]
  refine takeWhile_app _ _ (fun n hn => ?_)
  obtain ⟨h0, rfl⟩ := head_bytes hn
  rcases hr with hr | hr
  · omega
  · exact hp _ hr
theorem SG_blank : ∀ t ∈ SG, (decide (t.size = 2) && (decide (byteAt t 1 = 32) || decide (byteAt t 1 = 9) || decide (byteAt t 1 = 10))) = false := by decide +kernel
theorem signLen_app (x r : ByteArray) (hx : 0 < x.size) (hr : blankLed r) : signLen (x ++ r) = signLen x := by
  have e1 : (1 ≤ x.size + r.size ∧ hasS SG ((x ++ r).extract 0 1) = true) ↔ (1 ≤ x.size ∧ hasS SG (x.extract 0 1) = true) := by
    rw [pre_app _ _ _ hx]
    exact ⟨fun h => ⟨hx, h.2⟩, fun h => ⟨by omega, h.2⟩⟩
  have e2 : (2 ≤ x.size + r.size ∧ hasS SG ((x ++ r).extract 0 2) = true) ↔ (2 ≤ x.size ∧ hasS SG (x.extract 0 2) = true) := by
    by_cases h2 : 2 ≤ x.size
    · rw [pre_app _ _ _ h2]
      exact ⟨fun h => ⟨h2, h.2⟩, fun h => ⟨by omega, h.2⟩⟩
    · have h1 : x.size = 1 := by omega
      refine ⟨?_, fun h => absurd h.1 h2⟩
      rintro ⟨ha, hb⟩
      exfalso
      have hm := SG_blank _ (hasS_iff.1 hb)
      have hsz : ((x ++ r).extract 0 2).size = 2 := by rw [extract_size _ _ _ (by rw [ByteArray.size_append]; omega)]
      have hby : byteAt ((x ++ r).extract 0 2) 1 = byteAt r 0 := by
        rw [byteAt_getD, extract_bytes, bytesI_app, List.drop_zero, byteAt_getD, List.getD_eq_getElem?_getD, List.getD_eq_getElem?_getD, List.getElem?_take_of_lt (by omega), List.getElem?_append_right (by rw [bytesI_len]; omega), bytesI_len, h1]
      rw [decide_eq_true hsz, hby] at hm
      rcases hr with hr | hr
      · omega
      · rcases hr with hr | hr | hr <;> rw [hr] at hm <;> simp at hm
  unfold signLen
  rw [ByteArray.size_append]
  simp only [e1, e2]
theorem nameLen_app (x r : ByteArray) (hx : 0 < x.size) (hr : blankLed r) : nameLen (x ++ r) = nameLen x := by
  unfold nameLen
  rw [ByteArray.size_append, byteAt_app _ _ _ hx, runLen_app isLD (fun n h => (isW_not h).1) _ _ hr]
  by_cases h : isL (byteAt x 0) = true
  · rw [if_pos ⟨by omega, h⟩, if_pos ⟨hx, h⟩]
  · rw [if_neg (fun hh => h hh.2), if_neg (fun hh => h hh.2)]
/-- What begins with a blank behind a text does not change its first token. -/
theorem next_blank (x r : ByteArray) (hx : 0 < x.size) (hr : blankLed r) : nextT (x ++ r) = nextT x := by
  unfold nextT
  rw [nameLen_app x r hx hr, runLen_app isD (fun n h => (isW_not h).2.1) x r hr, signLen_app x r hx hr, pre_app _ _ _ (nameLen_le x), pre_app _ _ _ (runLen_le _ x), pre_app _ _ _ (signLen_le x)]

inductive SC : ByteArray → Int → List Tok → Prop
  | nil {x : ByteArray} {line : Int} : x.size = 0 → SC x line []
  | nl {x : ByteArray} {line : Int} {l : List Tok} : 0 < x.size → byteAt x 0 = 10 → SC (x.extract 1 x.size) (line + 1) l → SC x line l
  | sp {x : ByteArray} {line : Int} {l : List Tok} : 0 < x.size → byteAt x 0 = 32 ∨ byteAt x 0 = 9 → SC (x.extract 1 x.size) line l → SC x line l
  | tok {x : ByteArray} {line : Int} {l : List Tok} {t : Int × Int × ByteArray} {n : Nat} : 0 < x.size → ¬ isW (byteAt x 0) → nextT x = (t, n) → n ≠ 0 → SC (x.extract n x.size) line l → SC x line (⟨t.1, t.2.1, line, t.2.2⟩ :: l)
theorem byte0 (s : ByteArray) (a : Nat) : byteAt (s.extract a s.size) 0 = byteAt s a := by rw [byteAt_extract, Nat.add_zero]
theorem size0 (s : ByteArray) (a : Nat) : (s.extract a s.size).size = s.size - a := extract_size _ _ _ (Nat.le_refl _)
theorem sc_to {x : ByteArray} {line : Int} {l : List Tok} (h : SC x line l) : ∀ (s : ByteArray) (a : Nat) (out : List Tok), a ≤ s.size → x = s.extract a s.size → scanGo s a line out = (out ++ l, 0, 0) := by
  induction h with
  | nil h0 =>
    intro s a out ha hx
    rw [hx, size0] at h0
    rw [scanGo, dif_neg (by omega), List.append_nil]
  | nl h0 hb _ ih =>
    intro s a out ha hx
    subst hx
    rw [size0] at h0
    rw [byte0] at hb
    rw [scanGo, dif_pos (by omega), if_pos hb]
    exact ih s (a + 1) out (by omega) (ext_ext s a 1)
  | sp h0 hb _ ih =>
    intro s a out ha hx
    subst hx
    rw [size0] at h0
    rw [byte0] at hb
    rw [scanGo, dif_pos (by omega), if_neg (by omega), if_pos hb]
    exact ih s (a + 1) out (by omega) (ext_ext s a 1)
  | tok h0 hb hn hne _ ih =>
    intro s a out ha hx
    subst hx
    have hle := nextT_le (s.extract a s.size)
    rw [hn] at hle
    rw [size0] at h0 hle
    rw [byte0] at hb
    unfold isW at hb
    rw [scanGo_tok2 (by omega) (by omega) (by omega) hn hne, ih s _ _ (by dsimp only at hle; omega) (ext_ext s a _), List.append_assoc]
    rfl
theorem scan_to {s : ByteArray} {l : List Tok} (hs : s.size ≤ 8192) (h : SC s 1 l) : scan s = (l, 0, 0) := by
  unfold scan
  rw [if_neg (by omega), sc_to h s 0 [] (Nat.zero_le _) (pre_all s).symm]
  rfl
end Go.Proofs.YtamajcgdfjeehaaDoor
end

section
namespace Go.Proofs.YtamajcgdfjeehaaDoor
open Go.Vc

theorem byte0_pre (x : ByteArray) (m : Nat) (h : 0 < m) : byteAt (x.extract 0 m) 0 = byteAt x 0 := by
  rw [byteAt_getD, byteAt_getD, extract_bytes, List.drop_zero, Nat.sub_zero, List.getD_eq_getElem?_getD, List.getD_eq_getElem?_getD, List.getElem?_take_of_lt h]
theorem runLen_zero {p : Int → Bool} {x : ByteArray} (hx : 0 < x.size) (h : p (byteAt x 0) = false) : runLen p x = 0 :=
  runLen_eq (fun j hj => by omega) (by omega) (fun _ => h)
theorem nameLen_zero {x : ByteArray} (h : isL (byteAt x 0) = false) : nameLen x = 0 := by
  unfold nameLen
  rw [if_neg (fun hh => by rw [h] at hh; cases hh.2)]
theorem isL_notW {n : Int} (h : isL n = true) : ¬ isW n := fun hw => by rw [(isW_not hw).2.2] at h; cases h
theorem isD_notW {n : Int} (h : isD n = true) : ¬ isW n := fun hw => by rw [(isW_not hw).2.1] at h; cases h
theorem isD_notL {n : Int} (h : isD n = true) : isL n = false := by
  unfold isD at h
  simp only [Bool.and_eq_true, decide_eq_true_eq] at h
  unfold isL
  rw [decide_eq_false (by omega)]
  rfl

theorem bytesOf_one (n : Int) (h : 0 ≤ n ∧ n ≤ 255) : bytesI (bytesOf [n]) = [n] := by
  show [((UInt8.ofNat n.toNat).toNat : Int)] = [n]
  rw [UInt8.toNat_ofNat', Nat.mod_eq_of_lt (by omega)]
  congr 1
  omega
theorem decS_all (u : Nat) : ∀ c ∈ bytesI (decS u), isD c = true := by
  induction u using Nat.strongRecOn with
  | _ u ih =>
    have hd : ∀ m : Int, 0 ≤ m ∧ m < 10 → isD (48 + m) = true := by
      intro m hm
      unfold isD
      rw [decide_eq_true (by omega), decide_eq_true (by omega)]
      rfl
    by_cases hu : u < 10
    · rw [decS_small u hu, bytesOf_one _ (by omega)]
      intro c hc
      rw [List.mem_singleton] at hc
      subst hc
      exact hd _ (by omega)
    · rw [decS_big u hu, bytesI_app, bytesOf_one _ (by omega)]
      intro c hc
      rcases List.mem_append.1 hc with hc | hc
      · exact ih (u / 10) (by omega) c hc
      · rw [List.mem_singleton] at hc
        subst hc
        exact hd _ (by omega)
theorem decS_num (u : Nat) (hu : u ≤ 2147483647) : numVal (bytesI (decS u)) = (u : Int) := by
  induction u using Nat.strongRecOn with
  | _ u ih =>
    by_cases h : u < 10
    · rw [decS_small u h, bytesOf_one _ (by omega)]
      show min (10 * 0 + (48 + (u : Int) - 48)) 2147483648 = (u : Int)
      omega
    · rw [decS_big u h, bytesI_app, bytesOf_one _ (by omega), numVal_snoc, ih (u / 10) (by omega) (by omega)]
      omega
theorem decS_pos (u : Nat) : 0 < (decS u).size := by
  rw [decS_size]
  exact Lib.nDigits_pos u

abbrev strip (t : Tok) : Int × Int × ByteArray := (t.kind, t.num, t.text)
def PX (x : ByteArray) (L : List (Int × Int × ByteArray)) : Prop := ∀ line, ∃ l, SC x line l ∧ l.map strip = L
theorem px_nil {x : ByteArray} (h : x.size = 0) : PX x [] := fun _ => ⟨[], .nil h, rfl⟩
/-- A text of blanks alone. -/
def blanks (b : ByteArray) : Prop := ∀ c ∈ bytesI b, isW c
theorem px_front : ∀ (m : Nat) (b x : ByteArray) (L : List (Int × Int × ByteArray)), b.size = m → blanks b → PX x L → PX (b ++ x) L
  | 0, b, x, L, hm, _, h => by
    have : b = ⟨#[]⟩ := (empty_iff b).2 hm
    rw [this, show (⟨#[]⟩ : ByteArray) ++ x = x from bytesI_inj (by rw [bytesI_app]; rfl)]
    exact h
  | m + 1, b, x, L, hm, hb, h => by
    have hb0 : isW (byteAt b 0) := by
      rw [← bytesI_get b 0 (by omega)]
      exact hb _ (List.getElem_mem _)
    have ih := px_front m (b.extract 1 b.size) x L (by rw [size0]; omega) (fun c hc => hb c (by rw [bytesI_full] at hc; exact List.mem_of_mem_drop hc)) h
    have e : (b ++ x).extract 1 (b ++ x).size = b.extract 1 b.size ++ x := ext_app b x 1 (by omega)
    intro line
    by_cases h10 : byteAt b 0 = 10
    · obtain ⟨l, hs, el⟩ := ih (line + 1)
      exact ⟨l, .nl (by rw [ByteArray.size_append]; omega) (by rw [byteAt_app _ _ _ (by omega)]; exact h10) (by rw [e]; exact hs), el⟩
    · obtain ⟨l, hs, el⟩ := ih line
      exact ⟨l, .sp (by rw [ByteArray.size_append]; omega) (by rw [byteAt_app _ _ _ (by omega)]; unfold isW at hb0; omega) (by rw [e]; exact hs), el⟩
theorem px_blank {b x : ByteArray} {L : List (Int × Int × ByteArray)} (hb : blanks b) (h : PX x L) : PX (b ++ x) L := px_front b.size b x L rfl hb h
end Go.Proofs.YtamajcgdfjeehaaDoor
end

section
namespace Go.Proofs.YtamajcgdfjeehaaDoor
open Go.Vc

abbrev sgT (c : UInt8) : Int × Int × ByteArray := (3, 0, ⟨#[c]⟩)
def toksT : T → List (Int × Int × ByteArray)
  | .nu n => if n < 0 then [sgT 40, sgT 45, (2, -n, ⟨#[]⟩), sgT 41] else [(2, n, ⟨#[]⟩)]
  | .nm s => [(1, 0, s)]
  | .ix s t => (1, 0, s) :: sgT 91 :: (toksT t ++ [sgT 93])
  | .bn o a b => sgT 40 :: (toksT a ++ (3, 0, signT o) :: (toksT b ++ [sgT 41]))
/-- A text that is empty, or begins with neither a letter nor a digit. -/
def endsW (r : ByteArray) : Prop := r.size = 0 ∨ isLD (byteAt r 0) = false
theorem endsW.dig {r : ByteArray} (h : endsW r) : r.size = 0 ∨ isD (byteAt r 0) = false := by
  rcases h with h | h
  · exact .inl h
  · unfold isLD at h
    exact .inr (by simp only [Bool.or_eq_false_iff] at h; exact h.2)
theorem runLen_ends {p : Int → Bool} (x r : ByteArray) (hr : r.size = 0 ∨ p (byteAt r 0) = false) : runLen p (x ++ r) = runLen p x := by
  unfold runLen
  rw [bytesI_app]
  refine takeWhile_app _ _ (fun n hn => ?_)
  obtain ⟨h0, rfl⟩ := head_bytes hn
  rcases hr with hr | hr
  · omega
  · exact hr
theorem isName_parts {s : ByteArray} (h : isName s = true) : 0 < s.size ∧ s.size ≤ 12 ∧ nameLen s = s.size ∧ isL (byteAt s 0) = true := by
  unfold isName at h
  simp only [Bool.and_eq_true, decide_eq_true_eq] at h
  refine ⟨h.1.1, h.1.2, h.2, ?_⟩
  cases hl : isL (byteAt s 0) with
  | true => rfl
  | false => have := nameLen_zero hl; omega
theorem next_name {s r : ByteArray} (h : isName s = true) (hr : endsW r) : nextT (s ++ r) = ((1, 0, s), s.size) := by
  obtain ⟨h0, h1, h2, h3⟩ := isName_parts h
  have e : nameLen (s ++ r) = s.size := by
    unfold nameLen at h2 ⊢
    rw [ByteArray.size_append, byteAt_app _ _ _ h0, runLen_ends s r hr, if_pos ⟨by omega, h3⟩]
    rw [if_pos ⟨h0, h3⟩] at h2
    exact h2
  unfold nextT
  rw [e, if_pos h0, if_neg (by omega), pre_app _ _ _ (Nat.le_refl _), pre_all]
theorem next_num {n : Int} {r : ByteArray} (h : 0 ≤ n ∧ n ≤ 2147483647) (hr : endsW r) : nextT (decS n.toNat ++ r) = ((2, n, ⟨#[]⟩), (decS n.toNat).size) := by
  have hp := decS_pos n.toNat
  have hall := decS_all n.toNat
  have hd : isD (byteAt (decS n.toNat) 0) = true := hall _ (by
    rw [byteAt_getD, List.getD_eq_getElem?_getD, List.getElem?_eq_getElem (by rw [bytesI_len]; exact hp)]
    exact List.getElem_mem _)
  have hrun : runLen isD (decS n.toNat) = (decS n.toNat).size := by
    unfold runLen
    exact (takeWhile_len (fun j hj _ => hall _ (List.getElem_mem hj)) (by rw [bytesI_len]; omega) (fun hk => absurd hk (by rw [bytesI_len]; omega)))
  have hv := decS_num n.toNat (by omega)
  generalize decS n.toNat = x at hp hd hrun hv
  have hnl : nameLen (x ++ r) = 0 := nameLen_zero (by rw [byteAt_app _ _ _ hp]; exact isD_notL hd)
  unfold nextT
  rw [hnl, if_neg (by omega), runLen_ends x r hr.dig, hrun, if_pos hp, pre_app _ _ _ (Nat.le_refl _), pre_all, hv, if_neg (by omega), show ((n.toNat : Nat) : Int) = n by omega]
theorem SG_one : ∀ t ∈ SG, (decide (t.size = 2) && (decide (byteAt t 0 = 40) || decide (byteAt t 0 = 41) || decide (byteAt t 0 = 91) || decide (byteAt t 0 = 93) || decide (byteAt t 0 = 45) || decide (byteAt t 0 = 123) || decide (byteAt t 0 = 125))) = false := by decide +kernel
theorem next_sg {c : UInt8} (h : c = 40 ∨ c = 41 ∨ c = 91 ∨ c = 93 ∨ c = 45 ∨ c = 123 ∨ c = 125) (r : ByteArray) : nextT ((⟨#[c]⟩ : ByteArray) ++ r) = (sgT c, (⟨#[c]⟩ : ByteArray).size) := by
  have hs : (⟨#[c]⟩ : ByteArray).size = 1 := rfl
  have hb : byteAt ((⟨#[c]⟩ : ByteArray) ++ r) 0 = byteAt (⟨#[c]⟩ : ByteArray) 0 := byteAt_app _ _ _ (by rw [hs]; omega)
  have hb2 : byteAt (⟨#[c]⟩ : ByteArray) 0 = (c.toNat : Int) := by rw [byteAt_getD]; rfl
  have hL : isL (byteAt ((⟨#[c]⟩ : ByteArray) ++ r) 0) = false := by
    rw [hb, hb2]
    rcases h with rfl | rfl | rfl | rfl | rfl | rfl | rfl <;> decide
  have hD : isD (byteAt ((⟨#[c]⟩ : ByteArray) ++ r) 0) = false := by
    rw [hb, hb2]
    rcases h with rfl | rfl | rfl | rfl | rfl | rfl | rfl <;> decide
  have hpos : 0 < ((⟨#[c]⟩ : ByteArray) ++ r).size := by rw [ByteArray.size_append, hs]; omega
  have h1 : ((⟨#[c]⟩ : ByteArray) ++ r).extract 0 1 = ⟨#[c]⟩ := by
    rw [pre_app _ _ 1 (by rw [hs]; omega)]
    exact pre_all ⟨#[c]⟩
  have hsl : signLen ((⟨#[c]⟩ : ByteArray) ++ r) = 1 := by
    unfold signLen
    rw [if_neg, h1, if_pos]
    · refine ⟨by omega, ?_⟩
      rcases h with rfl | rfl | rfl | rfl | rfl | rfl | rfl <;> decide +kernel
    · rintro ⟨h2, h3⟩
      have hm := SG_one _ (hasS_iff.1 h3)
      have e2 : (((⟨#[c]⟩ : ByteArray) ++ r).extract 0 2).size = 2 := by rw [extract_size _ _ _ h2]
      have e0 : byteAt (((⟨#[c]⟩ : ByteArray) ++ r).extract 0 2) 0 = (c.toNat : Int) := by rw [byte0_pre _ _ (by omega), hb, hb2]
      rw [e2, e0] at hm
      rcases h with rfl | rfl | rfl | rfl | rfl | rfl | rfl <;> simp at hm
  unfold nextT
  rw [nameLen_zero hL, if_neg (by omega), runLen_zero hpos hD, if_neg (by omega), hsl, h1, hs]
theorem next_sign {o : Int} (h : 1 ≤ o ∧ o ≤ 14) {r : ByteArray} (hr : blankLed r) : nextT (signT o ++ r) = ((3, 0, signT o), (signT o).size) := by
  have e : nextT (signT o) = ((3, 0, signT o), (signT o).size) ∧ 0 < (signT o).size := by
    rcases op14 h with rfl | rfl | rfl | rfl | rfl | rfl | rfl | rfl | rfl | rfl | rfl | rfl | rfl | rfl <;> decide +kernel
  rw [next_blank _ _ e.2 hr, e.1]
/-- One token in front. -/
theorem px_tok {x r : ByteArray} {t : Int × Int × ByteArray} {L : List (Int × Int × ByteArray)} (hx : 0 < x.size) (hw : ¬ isW (byteAt x 0)) (hn : nextT (x ++ r) = (t, x.size)) (h : PX r L) : PX (x ++ r) (t :: L) := by
  intro line
  obtain ⟨l, hs, e⟩ := h line
  refine ⟨_ :: l, .tok (t := t) (n := x.size) (by rw [ByteArray.size_append]; omega) (by rw [byteAt_app _ _ _ hx]; exact hw) hn (by omega) (by rw [ext_app_right]; exact hs), by rw [List.map_cons, e]⟩
theorem px_name {s r : ByteArray} {L : List (Int × Int × ByteArray)} (hs : isName s = true) (hr : endsW r) (h : PX r L) : PX (s ++ r) ((1, 0, s) :: L) := by
  obtain ⟨h0, _, _, h3⟩ := isName_parts hs
  exact px_tok h0 (isL_notW h3) (next_name hs hr) h
theorem px_num {n : Int} {r : ByteArray} {L : List (Int × Int × ByteArray)} (hn : 0 ≤ n ∧ n ≤ 2147483647) (hr : endsW r) (h : PX r L) : PX (decS n.toNat ++ r) ((2, n, ⟨#[]⟩) :: L) := by
  have hp := decS_pos n.toNat
  refine px_tok hp (isD_notW (decS_all n.toNat _ ?_)) (next_num hn hr) h
  rw [byteAt_getD, List.getD_eq_getElem?_getD, List.getElem?_eq_getElem (by rw [bytesI_len]; exact hp)]
  exact List.getElem_mem _
theorem px_sg {c : UInt8} (hc : c = 40 ∨ c = 41 ∨ c = 91 ∨ c = 93 ∨ c = 45 ∨ c = 123 ∨ c = 125) {r : ByteArray} {L : List (Int × Int × ByteArray)} (h : PX r L) : PX ((⟨#[c]⟩ : ByteArray) ++ r) (sgT c :: L) := by
  refine px_tok (by show 0 < 1; omega) ?_ (next_sg hc r) h
  unfold isW
  rcases hc with rfl | rfl | rfl | rfl | rfl | rfl | rfl <;> decide
theorem px_sign {o : Int} (ho : 1 ≤ o ∧ o ≤ 14) {r : ByteArray} {L : List (Int × Int × ByteArray)} (hr : blankLed r) (h : PX r L) : PX (signT o ++ r) ((3, 0, signT o) :: L) := by
  have e : 0 < (signT o).size ∧ ¬ isW (byteAt (signT o) 0) := by
    unfold isW
    rcases op14 ho with rfl | rfl | rfl | rfl | rfl | rfl | rfl | rfl | rfl | rfl | rfl | rfl | rfl | rfl <;> decide +kernel
  exact px_tok e.1 e.2 (next_sign ho hr) h
theorem blanks_one : blanks ⟨#[32]⟩ := by
  intro c hc
  have : c = 32 := by simpa [bytesI] using hc
  exact .inl this
theorem px_sp {r : ByteArray} {L : List (Int × Int × ByteArray)} (h : PX r L) : PX ((⟨#[32]⟩ : ByteArray) ++ r) L := px_blank blanks_one h
theorem ends_sg {c : UInt8} (hc : isLD (c.toNat : Int) = false) (r : ByteArray) : endsW ((⟨#[c]⟩ : ByteArray) ++ r) := by
  refine .inr ?_
  rw [byteAt_app _ _ _ (by show 0 < 1; omega), byteAt_getD]
  exact hc
theorem led_sp (r : ByteArray) : blankLed ((⟨#[32]⟩ : ByteArray) ++ r) := by
  refine .inr ?_
  rw [byteAt_app _ _ _ (by show 0 < 1; omega), byteAt_getD]
  exact .inl rfl
/-- The tokens of an expression's text. -/
theorem px_text : ∀ (t : T) (r : ByteArray) (L : List (Int × Int × ByteArray)), t.ok → endsW r → PX r L → PX (textT t ++ r) (toksT t ++ L)
  | .nu n, r, L, h, hr, hL => by
    unfold T.ok at h
    unfold textT toksT
    by_cases hn : n < 0
    · rw [if_pos hn, if_pos hn, numS_neg n hn]
      simp only [ByteArray.append_assoc, List.cons_append, List.nil_append]
      refine px_sg (by decide) (px_sg (by decide) (px_num (by omega) (ends_sg (by decide) r) (px_sg (by decide) hL)))
    · rw [if_neg hn, if_neg hn, numS_nonneg n (by omega)]
      exact px_num (by omega) hr hL
  | .nm s, r, L, h, hr, hL => px_name h.1 hr hL
  | .ix s t, r, L, h, hr, hL => by
    unfold textT toksT
    simp only [ByteArray.append_assoc, List.cons_append, List.append_assoc, List.nil_append]
    exact px_name h.1.1 (ends_sg (by decide) _) (px_sg (by decide) (px_text t _ _ h.2 (ends_sg (by decide) _) (px_sg (by decide) hL)))
  | .bn o a b, r, L, h, hr, hL => by
    unfold textT toksT
    simp only [ByteArray.append_assoc, List.cons_append, List.append_assoc, List.nil_append]
    exact px_sg (by decide) (px_text a _ _ h.2.1 (ends_sg (by decide) _) (px_sp (px_sign h.1 (led_sp _) (px_sp (px_text b _ _ h.2.2 (ends_sg (by decide) _) (px_sg (by decide) hL))))))
end Go.Proofs.YtamajcgdfjeehaaDoor
end

section
namespace Go.Proofs.YtamajcgdfjeehaaDoor
open Go.Vc
attribute [local irreducible] JL JC JQ OpWp Con ConN Pan ConE OpPan hasW idxW
set_option maxHeartbeats 4000000

def isA (l : List Tok) (a : Nat) (w : ByteArray) : Bool := match l[a]? with | some t => !decide (t.kind = 2) && decide (t.text = w) | none => false
def isNum (l : List Tok) (a : Nat) : Bool := match l[a]? with | some t => decide (t.kind = 2) | none => false
def isNm (l : List Tok) (a : Nat) : Bool := match l[a]? with | some t => decide (t.kind = 1) && !hasW t.text | none => false
def numAt (l : List Tok) (a : Nat) : Int := match l[a]? with | some t => t.num | none => 0
def txtAt (l : List Tok) (a : Nat) : ByteArray := match l[a]? with | some t => t.text | none => ⟨#[]⟩
def lineAt (l : List Tok) (p : Nat) : Int := match l[min p (l.length - 1)]? with | some t => t.line | none => 1
theorem isA_get {l : List Tok} {a : Nat} (w : ByteArray) (h : a < l.length) : isA l a w = (!decide (l[a].kind = 2) && decide (l[a].text = w)) := by simp [isA, h]
theorem isA_end {l : List Tok} {a : Nat} (w : ByteArray) (h : ¬ a < l.length) : isA l a w = false := by simp [isA, List.getElem?_eq_none (show l.length ≤ a by omega)]
theorem isNum_get {l : List Tok} {a : Nat} (h : a < l.length) : isNum l a = decide (l[a].kind = 2) := by simp [isNum, h]
theorem isNum_end {l : List Tok} {a : Nat} (h : ¬ a < l.length) : isNum l a = false := by simp [isNum, List.getElem?_eq_none (show l.length ≤ a by omega)]
theorem isNm_get {l : List Tok} {a : Nat} (h : a < l.length) : isNm l a = (decide (l[a].kind = 1) && !hasW l[a].text) := by simp [isNm, h]
theorem isNm_end {l : List Tok} {a : Nat} (h : ¬ a < l.length) : isNm l a = false := by simp [isNm, List.getElem?_eq_none (show l.length ≤ a by omega)]
theorem isA_lt {l : List Tok} {a : Nat} {w : ByteArray} (h : isA l a w = true) : a < l.length := by
  rcases Nat.lt_or_ge a l.length with h' | h'
  · exact h'
  · rw [isA_end w (by omega)] at h; cases h
theorem isNum_lt {l : List Tok} {a : Nat} (h : isNum l a = true) : a < l.length := by
  rcases Nat.lt_or_ge a l.length with h' | h'
  · exact h'
  · rw [isNum_end (by omega)] at h; cases h
theorem isNm_lt {l : List Tok} {a : Nat} (h : isNm l a = true) : a < l.length := by
  rcases Nat.lt_or_ge a l.length with h' | h'
  · exact h'
  · rw [isNm_end (by omega)] at h; cases h

abbrev Pz (b : Nat) (l : List Tok) (a : Nat) : Ch := .blk b 72 [.list (l.map Tok.row), .val (.int .i64 (a : Int))]
section
variable {l : List Tok} {a b : Nat} (hl : l.length ≤ 1000000) (ha : a ≤ l.length)
include hl ha
omit hl in
theorem pis_c (w : ByteArray) : Con Tryd.prog 105 [Ptr b, Str w] [Pz b l a] (fun K => K (Bl (isA l a w)) [Pz b l a]) := by
  have eL : (l.map Tok.row).length = l.length := List.length_map _
  refine con_intro Tryd.func105 rfl rfl (Nat.le_of_ble_eq_true rfl) (fun c hc => R_ (E_ r_ (T_ (am_ (am_ (ao_ r_ r_ k_ k_ (yM_ r_ (yN_ r_ (yF_ r_ (yL_ 0 r_ (yM_ r_ (yN_ r_ (yF_ r_ (yL_ 0 r_ (aa_ (fun c => br_ r_ (fun hlen => p_)) ?_)))))))))))))))
  refine aa_ (fun c => cn_ r_ r_ p_) (ae_ (al_ (jc_condd rfl (fun hge => ?_) (fun hlt => ?_))))
  · have e := isA_end w (show ¬ a < l.length by omega)
    refine R_ (E_ r_ (T_ (ar_ (aw_ (jq_ret1 rfl rfl [0] rfl (fun K h => by rw [e] at h; exact h))))))
  · have hlt' : a < l.length := by omega
    have e := isA_get w hlt'
    refine as_ (al_ (am_ (jc_anyB 11 (some 10) rfl k_ k_ (yM_ r_ (yN_ r_ (yF_ r_ (yL_ 0 r_ (yM_ r_ (yN_ r_ (yF_ r_ (yL_ 0 r_ (aa_ (fun c => cc_ r_ r_ g_ r_ r_ b_ p_) (aa_ (fun c => cr_ r_ r_ r_ p_) (af_ (ae_ ?_)))))))))))))))
    refine afin_some rfl rfl rfl (fun bT => ?_)
    by_cases hk : l[a].kind = 2
    · have hkn : ¬ ¬ l[a].kind = 2 := fun h => h hk
      refine S_ 0 r_ (T_ (R_ (F_ r_ (L_ 0 r_ (o_ r_ (bx_ r_ r_ (M_ r_ (ai_ r_ w_ b_ (ai_ r_ w_ b_ (ai_ r_ w_ b_ (ai_ r_ w_ b_ (o_ r_ (bv_ r_ w_ r_ (E_ r_ (T_ (ar_ (jq_ret1 rfl rfl [1] rfl (fun K h => by rw [e, decide_eq_true hk] at h; exact h))))))))))))))))))
    · refine S_ 0 r_ (T_ (R_ (F_ r_ (L_ 0 r_ (o_ r_ (bx_ r_ r_ (M_ r_ (ah_ r_ u_ b_ (bf_ r_ r_ r_ b_ (ah_ r_ u_ b_ (bg_ 0 r_ r_ r_ r_ (ah_ r_ u_ b_ (bd_ r_ (ah_ r_ u_ b_ (cs_ r_ r_ (o_ r_ (bp_ r_ u_ r_ (E_ r_ (T_ (ar_ (jq_ret1 rfl rfl [1] rfl (fun K h => by rw [e, decide_eq_false hk] at h; exact h))))))))))))))))))))))
theorem phas_c (w : ByteArray) : Con Tryd.prog 74 [Ptr b, Str w] [Pz b l a] (fun K => K (Bl (isA l a w)) [Pz b l (if isA l a w then a + 1 else a)]) := by
  refine con_intro Tryd.func74 rfl rfl (Nat.le_of_ble_eq_true rfl) (fun c hc => R_ (E_ r_ (T_ (R_ (M_ r_ (M_ r_ (o_ r_ (bi_ [0] r_ r_ (pis_c ha w) (E_ r_ (T_ (am_ (R_ (M_ r_ (T_ (jc_cond rfl (fun hy => ?_) (fun hn => ?_))))))))))))))))
  · have hlt := isA_lt hy
    refine an_ (M_ r_ (N_ r_ (F_ r_ (L_ 0 r_ (o_ r_ (bj_ r_ r_ g_ (N_ r_ (F_ r_ (W_ 0 r_ (T_ (R_ (M_ r_ (E_ r_ (T_ (ar_ (jq_ret1 rfl rfl [0] rfl (fun K h => by rw [hy] at h; rw [hy]; exact h)))))))))))))))))
  · refine as_ (al_ (R_ (M_ r_ (E_ r_ (T_ (ar_ (jq_ret1 rfl rfl [0] rfl (fun K h => by rw [hn] at h; rw [hn]; exact h))))))))
omit hl in
theorem pnamed_c : Con Tryd.prog 106 [Ptr b] [Pz b l a] (fun K => K (Bl (isNm l a)) [Pz b l a]) := by
  have eL : (l.map Tok.row).length = l.length := List.length_map _
  refine con_intro Tryd.func106 rfl rfl (Nat.le_of_ble_eq_true rfl) (fun c hc => ?_)
  by_cases hlt : a < l.length
  · have e := isNm_get hlt
    by_cases hk : l[a].kind = 1
    · refine R_ (E_ r_ (T_ (am_ (ao_ r_ r_ k_ k_ (yM_ r_ (yN_ r_ (yF_ r_ (yL_ 0 r_ (yM_ r_ (yN_ r_ (yF_ r_ (yL_ 0 r_ (aa_ (fun c => br_ r_ (fun hlen => p_)) (aa_ (fun c => bw_ r_ r_ p_) (yM_ r_ ?_)))))))))))))))
      refine ab_ r_ t_ (fun c => bd_ r_ p_) (ab_ r_ t_ (fun c => bh_ r_ p_) (ab_ r_ t_ (fun c => bf_ r_ r_ r_ b_ p_) (ab_ r_ t_ (fun c => bg_ 0 r_ r_ r_ r_ p_) (ab_ r_ t_ (fun c => bd_ r_ p_) (ab_ r_ t_ (fun c => bh_ r_ p_) (ab_ r_ t_ (fun c => bf_ r_ r_ r_ b_ p_) (ab_ r_ t_ (fun c => bg_ 0 r_ r_ r_ r_ p_) (ab_ r_ t_ (fun c => cc_ r_ r_ g_ r_ r_ b_ p_) (ab_ r_ t_ (fun c => cf_ r_ r_ r_ b_ r_ b_ p_) ?_)))))))))
      refine ab_ r_ t_ (fun c => cb_ r_ r_ p_) (ab_ r_ t_ (fun c => bn_ r_ r_ p_) (aa_ (fun c => bp_ r_ t_ r_ p_) (yM_ r_ (ab_ r_ t_ (fun c => bd_ r_ p_) (ab_ r_ t_ (fun c => bh_ r_ p_) (ab_ r_ t_ (fun c => bf_ r_ r_ r_ b_ p_) (ab_ r_ t_ (fun c => bg_ 0 r_ r_ r_ r_ p_) (ab_ r_ t_ (fun c => bd_ r_ p_) (ab_ r_ t_ (fun c => bh_ r_ p_) (ab_ r_ t_ (fun c => bf_ r_ r_ r_ b_ p_) (ab_ r_ t_ (fun c => bg_ 0 r_ r_ r_ r_ p_) ?_)))))))))))
      refine ab_ r_ t_ (fun c => cc_ r_ r_ g_ r_ r_ b_ p_) (ab_ r_ t_ (fun c => cf_ r_ r_ r_ b_ r_ b_ p_) (ab_ r_ t_ (fun c => cb_ r_ r_ p_) (ab_ r_ t_ (fun c => bm_ r_ (Keyword_c _) p_) (ab_ r_ t_ (fun c => cd_ r_ p_) (aa_ (fun c => bp_ r_ u_ r_ p_) (yE_ r_ (ae_ (al_ (ar_ (jq_ret1 rfl rfl [0] rfl (fun K h => by rw [e, decide_eq_true hk, Bool.true_and] at h; exact h)))))))))))
    · refine R_ (E_ r_ (T_ (am_ (ao_ r_ r_ k_ k_ (yM_ r_ (yN_ r_ (yF_ r_ (yL_ 0 r_ (yM_ r_ (yN_ r_ (yF_ r_ (yL_ 0 r_ (aa_ (fun c => br_ r_ (fun hlen => p_)) (aa_ (fun c => bw_ r_ r_ p_) (yM_ r_ ?_)))))))))))))))
      refine ab_ r_ t_ (fun c => bd_ r_ p_) (ab_ r_ t_ (fun c => bh_ r_ p_) (ab_ r_ t_ (fun c => bf_ r_ r_ r_ b_ p_) (ab_ r_ t_ (fun c => bg_ 0 r_ r_ r_ r_ p_) (ab_ r_ t_ (fun c => bd_ r_ p_) (ab_ r_ t_ (fun c => bh_ r_ p_) (ab_ r_ t_ (fun c => bf_ r_ r_ r_ b_ p_) (ab_ r_ t_ (fun c => bg_ 0 r_ r_ r_ r_ p_) (ab_ r_ t_ (fun c => cc_ r_ r_ g_ r_ r_ b_ p_) (ab_ r_ t_ (fun c => cf_ r_ r_ r_ b_ r_ b_ p_) ?_)))))))))
      refine ab_ r_ t_ (fun c => cb_ r_ r_ p_) (ab_ r_ t_ (fun c => bn_ r_ r_ p_) (aa_ (fun c => bp_ r_ t_ r_ p_) (yM_ r_ (ac_ r_ w_ (ac_ r_ w_ (ac_ r_ w_ (ac_ r_ w_ (ac_ r_ w_ (ac_ r_ w_ (ac_ r_ w_ (ac_ r_ w_ (ac_ r_ w_ (ac_ r_ w_ (ac_ r_ w_ (ac_ r_ w_ ?_)))))))))))))))
      refine ac_ r_ w_ (aa_ (fun c => bv_ r_ w_ r_ p_) (yE_ r_ (ae_ (al_ (ar_ (jq_ret1 rfl rfl [0] rfl (fun K h => by rw [e, decide_eq_false hk] at h; exact h)))))))
  · have e := isNm_end hlt
    have hlt2 : ¬ (a : Int) < l.length := by omega
    refine R_ (E_ r_ (T_ (am_ (ao_ r_ r_ k_ k_ (yM_ r_ (yN_ r_ (yF_ r_ (yL_ 0 r_ (yM_ r_ (yN_ r_ (yF_ r_ (yL_ 0 r_ (aa_ (fun c => br_ r_ (fun hlen => p_)) (aa_ (fun c => bw_ r_ r_ p_) (yM_ r_ ?_)))))))))))))))
    refine ac_ r_ v_ (ac_ r_ v_ (ac_ r_ v_ (ac_ r_ v_ (ac_ r_ v_ (ac_ r_ v_ (ac_ r_ v_ (ac_ r_ v_ (ac_ r_ v_ (ac_ r_ v_ (ac_ r_ v_ (ac_ r_ v_ (aa_ (fun c => bv_ r_ v_ r_ p_) (yM_ r_ (ac_ r_ r_ (ac_ r_ r_ ?_)))))))))))))))
    refine ac_ r_ r_ (ac_ r_ r_ (ac_ r_ r_ (ac_ r_ r_ (ac_ r_ r_ (ac_ r_ r_ (ac_ r_ r_ (ac_ r_ r_ (ac_ r_ r_ (ac_ r_ r_ (ac_ r_ r_ (aa_ (fun c => bv_ r_ r_ r_ p_) (yE_ r_ (ae_ (al_ (ar_ ?_)))))))))))))))
    refine jq_ret1 rfl rfl [0] rfl (fun K h => by rw [e] at h; exact h)
omit hl in
theorem pnumbered_c : Con Tryd.prog 108 [Ptr b] [Pz b l a] (fun K => K (Bl (isNum l a)) [Pz b l a]) := by
  have eL : (l.map Tok.row).length = l.length := List.length_map _
  refine con_intro Tryd.func108 rfl rfl (Nat.le_of_ble_eq_true rfl) (fun c hc => ?_)
  by_cases hlt : a < l.length
  · have e := isNum_get hlt
    refine R_ (E_ r_ (T_ (am_ (ao_ r_ r_ k_ k_ (yM_ r_ (yN_ r_ (yF_ r_ (yL_ 0 r_ (yM_ r_ (yN_ r_ (yF_ r_ (yL_ 0 r_ (aa_ (fun c => br_ r_ (fun hlen => p_)) (aa_ (fun c => bw_ r_ r_ p_) (yM_ r_ ?_)))))))))))))))
    refine ab_ r_ t_ (fun c => bd_ r_ p_) (ab_ r_ t_ (fun c => bh_ r_ p_) (ab_ r_ t_ (fun c => bf_ r_ r_ r_ b_ p_) (ab_ r_ t_ (fun c => bg_ 0 r_ r_ r_ r_ p_) (ab_ r_ t_ (fun c => bd_ r_ p_) (ab_ r_ t_ (fun c => bh_ r_ p_) (ab_ r_ t_ (fun c => bf_ r_ r_ r_ b_ p_) (ab_ r_ t_ (fun c => bg_ 0 r_ r_ r_ r_ p_) (ab_ r_ t_ (fun c => cc_ r_ r_ g_ r_ r_ b_ p_) (ab_ r_ t_ (fun c => cf_ r_ r_ r_ b_ r_ b_ p_) ?_)))))))))
    refine ab_ r_ t_ (fun c => cb_ r_ r_ p_) (ab_ r_ t_ (fun c => bn_ r_ r_ p_) (aa_ (fun c => bp_ r_ t_ r_ p_) (yE_ r_ (ae_ (al_ (ar_ (jq_ret1 rfl rfl [0] rfl (fun K h => by rw [e] at h; exact h))))))))
  · have e := isNum_end hlt
    refine R_ (E_ r_ (T_ (am_ (ao_ r_ r_ k_ k_ (yM_ r_ (yN_ r_ (yF_ r_ (yL_ 0 r_ (yM_ r_ (yN_ r_ (yF_ r_ (yL_ 0 r_ (aa_ (fun c => br_ r_ (fun hlen => p_)) (aa_ (fun c => bw_ r_ r_ p_) (yM_ r_ ?_)))))))))))))))
    refine ac_ r_ v_ (ac_ r_ v_ (ac_ r_ v_ (ac_ r_ v_ (ac_ r_ v_ (ac_ r_ v_ (ac_ r_ v_ (ac_ r_ v_ (ac_ r_ v_ (ac_ r_ v_ (ac_ r_ v_ (ac_ r_ v_ (aa_ (fun c => bv_ r_ v_ r_ p_) (yE_ r_ (ae_ (al_ ?_)))))))))))))))
    refine ar_ (jq_ret1 rfl rfl [0] rfl (fun K h => by rw [e] at h; exact h))
end
end Go.Proofs.YtamajcgdfjeehaaDoor
end

section
namespace Go.Proofs.YtamajcgdfjeehaaDoor
open Go.Vc
attribute [local irreducible] JL JC JQ OpWp Con ConN Pan ConE OpPan hasW idxW isA isNum isNm numAt txtAt lineAt
set_option maxHeartbeats 4000000

theorem numAt_get {l : List Tok} {a : Nat} (h : a < l.length) : numAt l a = l[a].num := by simp [numAt, h]
theorem txtAt_get {l : List Tok} {a : Nat} (h : a < l.length) : txtAt l a = l[a].text := by simp [txtAt, h]
theorem txtAt_getI {l : List Tok} {a : Nat} {m : Int} (h : m.toNat < l.length) (hm : m.toNat = a) : txtAt l a = l[m.toNat].text := by subst hm; exact txtAt_get h
theorem numAt_getI {l : List Tok} {a : Nat} {m : Int} (h : m.toNat < l.length) (hm : m.toNat = a) : numAt l a = l[m.toNat].num := by subst hm; exact numAt_get h
abbrev ngI (n : Int) : Int := IntKind.i64.wrap (-n)
section
variable {l : List Tok} {a b : Nat} (hl : l.length ≤ 1000000) (ha : a ≤ l.length)
include hl
include ha
theorem pname_ok (h : isNm l a = true) : Con Tryd.prog 75 [Ptr b] [Pz b l a] (fun K => K (Str (txtAt l a)) [Pz b l (a + 1)]) := by
  have eL : (l.map Tok.row).length = l.length := List.length_map _
  have hP := pnamed_c (b := b) ha
  rw [h] at hP
  have hlt := isNm_lt h
  have e := txtAt_get hlt
  refine con_intro Tryd.func75 rfl rfl (Nat.le_of_ble_eq_true rfl) (fun c hc => R_ (E_ r_ (T_ (am_ (R_ (M_ r_ (o_ r_ (bi_ [0] r_ r_ hP (o_ r_ (cd_ r_ (T_ (jc_cond rfl (fun h => by cases h) (fun _ => as_ (al_ (R_ (M_ r_ (N_ r_ ?_)))))))))))))))))
  refine F_ r_ (L_ 0 r_ (o_ r_ (bj_ r_ r_ g_ (N_ r_ (F_ r_ (W_ 0 r_ (T_ (am_ (ao_ r_ r_ k_ k_ (yM_ r_ (yN_ r_ (yF_ r_ (yL_ 0 r_ (yM_ r_ (yN_ r_ (yF_ r_ ?_))))))))))))))))
  refine yL_ 0 r_ (aa_ (fun c => cg_ r_ r_ g_ p_) (aa_ (fun c => cv_ r_ r_ g_ g_ r_ r_ b_ p_) (aa_ (fun c => cf_ r_ r_ r_ b_ r_ b_ p_) (aa_ (fun c => cb_ r_ r_ p_) (yE_ r_ (ae_ (al_ (ar_ (jq_ret1 rfl rfl [0] rfl (fun K h => by rw [txtAt_getI (m := (a : Int) + 1 - 1) g_ g_] at h; exact h))))))))))
theorem pnum_ok (h : isNum l a = true) : Con Tryd.prog 76 [Ptr b] [Pz b l a] (fun K => K (In .i64 (numAt l a)) [Pz b l (a + 1)]) := by
  have eL : (l.map Tok.row).length = l.length := List.length_map _
  have hP := pnumbered_c (b := b) ha
  rw [h] at hP
  have hlt := isNum_lt h
  refine con_intro Tryd.func76 rfl rfl (Nat.le_of_ble_eq_true rfl) (fun c hc => R_ (E_ r_ (T_ (am_ (R_ (M_ r_ (o_ r_ (bi_ [0] r_ r_ hP (o_ r_ (cd_ r_ (T_ (jc_cond rfl (fun h => by cases h) (fun _ => as_ (al_ (R_ (M_ r_ (N_ r_ ?_)))))))))))))))))
  refine F_ r_ (L_ 0 r_ (o_ r_ (bj_ r_ r_ g_ (N_ r_ (F_ r_ (W_ 0 r_ (T_ (am_ (ao_ r_ r_ k_ k_ (yM_ r_ (yN_ r_ (yF_ r_ (yL_ 0 r_ (yM_ r_ (yN_ r_ (yF_ r_ ?_))))))))))))))))
  refine yL_ 0 r_ (aa_ (fun c => cg_ r_ r_ g_ p_) (aa_ (fun c => cv_ r_ r_ g_ g_ r_ r_ b_ p_) (aa_ (fun c => cf_ r_ r_ r_ b_ r_ b_ p_) (aa_ (fun c => cb_ r_ r_ p_) (yE_ r_ (ae_ (al_ (ar_ (jq_ret1 rfl rfl [0] rfl (fun K h => by rw [numAt_getI (m := (a : Int) + 1 - 1) g_ g_] at h; exact h))))))))))
end

theorem idxW_bd (L : List ByteArray) (s : ByteArray) : -1 ≤ idxW L s ∧ idxW L s ≤ L.length := by
  unfold idxW
  cases h : L.findIdx? (fun w => decide (w = s)) with
  | none => simp only; omega
  | some i =>
    obtain ⟨hi, _⟩ := List.findIdx?_eq_some_iff_getElem.1 h
    simp only; omega
theorem Operator_c (s : ByteArray) : Con Tryd.prog 81 [Str s] [] (fun K => K (In .i64 (idxW signL s + 1)) []) := by
  have hb := idxW_bd signL s
  have e14 : signL.length = 14 := rfl
  refine con_intro Tryd.func81 rfl rfl (Nat.le_of_ble_eq_true rfl) (fun c hc => R_ (E_ r_ (T_ (R_ (o_ r_ (ow_sliceG (rows := signL.map Wrow) (e := 9) (n := 14) gl_signs rfl rfl rfl b_ (by unfold maxLen; omega) rfl (M_ r_ (o_ r_ (bm_ r_ (Index_c signL s) (o_ r_ (bj_ r_ r_ g_ (E_ r_ (T_ (ar_ (jq_ret1 rfl rfl [] rfl (fun K h => h))))))))))))))))
/-- The operator, of some, that stands at a place. -/
def opAt (l : List Tok) (L : List ByteArray) (a : Nat) : Option Int := match l[a]? with | some t => if t.kind = 3 ∧ (L.any fun w => decide (w = t.text)) = true then some (idxW signL t.text + 1) else none | none => none
theorem one_c (b : Nat) (L : List ByteArray) : Con Tryd.prog 48 [Ptr b, .cell (.list (L.map Wrow))] [] (fun K => ∀ p : Nat × Nat, True → K (.cell (.val (.func (.func 80) #[] #[.pointer (some ⟨p.1, 0, none⟩), .pointer (some ⟨p.2, 0, none⟩)]))) [.blk p.1 36 [.list (L.map Wrow)], .blk p.2 70 [.val (.pointer (some ⟨b, 0, none⟩))]]) := by
  refine con_intro Tryd.func48 rfl rfl (Nat.le_of_ble_eq_true rfl) (fun c hc => R_ (o_ r_ (cj_ r_ (fun bx => o_ r_ (cj_ r_ (fun bx => E_ r_ (T_ (R_ ?_))))))))
  rename_i b1
  refine o_ r_ (ow_makeFunc r_ (E_ r_ (T_ (ar_ (jq_ret1 rfl rfl [0, 0] rfl (fun K h => h (bx, b1) trivial))))))
end Go.Proofs.YtamajcgdfjeehaaDoor
end

section
namespace Go.Proofs.YtamajcgdfjeehaaDoor
open Go.Vc
attribute [local irreducible] JL JC JQ OpWp Con ConN Pan ConE OpPan hasW idxW isA isNum isNm numAt txtAt lineAt
set_option maxHeartbeats 4000000

theorem opAt_end {l : List Tok} {L : List ByteArray} {a : Nat} (h : ¬ a < l.length) : opAt l L a = none := by simp [opAt, List.getElem?_eq_none (show l.length ≤ a by omega)]
theorem opAt_get {l : List Tok} (L : List ByteArray) {a : Nat} (h : a < l.length) : opAt l L a = if l[a].kind = 3 ∧ (L.any fun w => decide (w = l[a].text)) = true then some (idxW signL l[a].text + 1) else none := by simp [opAt, h]
def opV (l : List Tok) (L : List ByteArray) (a : Nat) : Int := (opAt l L a).getD 0
def opN (l : List Tok) (L : List ByteArray) (a : Nat) : Nat := if (opAt l L a).isSome then a + 1 else a
abbrev Cap1 (p : Nat) (L : List ByteArray) : Ch := .blk p 36 [.list (L.map Wrow)]
abbrev Cap2 (p b : Nat) : Ch := .blk p 70 [.val (.pointer (some ⟨b, 0, none⟩))]
theorem op1_c {l : List Tok} {a b p q : Nat} (hl : l.length ≤ 1000000) (ha : a ≤ l.length) (L : List ByteArray) : Con Tryd.prog 80 [Ptr p, Ptr q] [Cap1 p L, Cap2 q b, Pz b l a] (fun K => K (In .i64 (opV l L a)) [Cap1 p L, Cap2 q b, Pz b l (opN l L a)]) := by
  have eL : (L.map Wrow).length = L.length := List.length_map _
  have el : (l.map Tok.row).length = l.length := List.length_map _
  refine con_intro Tryd.func80 rfl rfl (Nat.le_of_ble_eq_true rfl) (fun c hc => R_ (E_ r_ (T_ (am_ (R_ (L_ 0 r_ (o_ r_ (br_ r_ (fun hlen => M_ r_ (T_ (au_ ?_)))))))))))
  refine jc_loopS [] (fun k : Nat => k ≤ L.length ∧ ∀ j (hj : j < L.length), j < k → ∀ (h : a < l.length), l[a].kind = 3 → ¬ l[a].text = L[j]) (fun k => [(0, Ptr p), (1, Ptr q), (5, .cell (.list (L.map Wrow))), (6, In .i64 ((L.map Wrow).length : Int)), (7, In .i64 (k : Int))]) (fun _ => [Cap1 p L, Cap2 q b, Pz b l a]) (fun k => L.length - k) 0 ⟨Nat.zero_le _, fun j _ h => by omega⟩ ?_ ?_ ?_
  · exact bc_ 0 r_ (bc_ 0 r_ (bc_ 0 r_ sub_end))
  · (repeat (first | exact True.intro | refine ⟨rfl, ?_⟩))
  · rintro k ⟨hk, hno⟩
    refine jc_reset [(0, Ptr p), (1, Ptr q), (5, .cell (.list (L.map Wrow))), (6, In .i64 ((L.map Wrow).length : Int)), (7, In .i64 (k : Int))] [Cap1 p L, Cap2 q b, Pz b l a] ?_ ⟨[0, 0, 0], [], rfl⟩ ?_
    · (repeat (first | exact True.intro | refine ⟨rfl, ?_⟩))
    refine R_ (o_ r_ (bw_ r_ r_ (T_ (am_ (jc_condd rfl (fun hlt => ?_) (fun hge => ?_))))))
    · have hlt' : k < L.length := by omega
      by_cases h1 : a < l.length
      · by_cases h2 : l[a].kind = 3
        · refine as_ (al_ (B_ (R_ (o_ r_ (cc_ r_ r_ g_ r_ r_ b_ (o_ r_ (cb_ r_ r_ (E_ r_ (T_ (am_ (ao_ r_ r_ k_ k_ (yL_ 1 r_ (yN_ r_ (yF_ r_ (yL_ 2 r_ (yL_ 1 r_ (yN_ r_ ?_)))))))))))))))))
          refine yF_ r_ (yL_ 2 r_ (aa_ (fun c => br_ r_ (fun hlen => p_)) (aa_ (fun c => bw_ r_ r_ p_) (yM_ r_ (ab_ r_ t_ (fun c => bg_ 1 r_ r_ r_ r_ p_) (ab_ r_ t_ (fun c => bh_ r_ p_) (ab_ r_ t_ (fun c => bf_ r_ r_ r_ b_ p_) (ab_ r_ t_ (fun c => bg_ 2 r_ r_ r_ r_ p_) (ab_ r_ t_ (fun c => bg_ 1 r_ r_ r_ r_ p_) (ab_ r_ t_ (fun c => bh_ r_ p_) (ab_ r_ t_ (fun c => bf_ r_ r_ r_ b_ p_) ?_)))))))))))
          refine ab_ r_ t_ (fun c => bg_ 2 r_ r_ r_ r_ p_) (ab_ r_ t_ (fun c => cc_ r_ r_ g_ r_ r_ b_ p_) (ab_ r_ t_ (fun c => cf_ r_ r_ r_ b_ r_ b_ p_) (ab_ r_ t_ (fun c => cb_ r_ r_ p_) (ab_ r_ t_ (fun c => bn_ r_ r_ p_) (aa_ (fun c => bp_ r_ t_ r_ p_) (yM_ r_ (ab_ r_ t_ (fun c => bg_ 1 r_ r_ r_ r_ p_) (ab_ r_ t_ (fun c => bh_ r_ p_) (ab_ r_ t_ (fun c => bf_ r_ r_ r_ b_ p_) (ab_ r_ t_ (fun c => bg_ 2 r_ r_ r_ r_ p_) ?_))))))))))
          refine ab_ r_ t_ (fun c => bg_ 1 r_ r_ r_ r_ p_) (ab_ r_ t_ (fun c => bh_ r_ p_) (ab_ r_ t_ (fun c => bf_ r_ r_ r_ b_ p_) (ab_ r_ t_ (fun c => bg_ 2 r_ r_ r_ r_ p_) (ab_ r_ t_ (fun c => cc_ r_ r_ g_ r_ r_ b_ p_) (ab_ r_ t_ (fun c => cf_ r_ r_ r_ b_ r_ b_ p_) (ab_ r_ t_ (fun c => cb_ r_ r_ p_) (ab_ r_ t_ (fun c => bd_ r_ p_) (ab_ r_ t_ (fun c => cs_ r_ r_ p_) (aa_ (fun c => bp_ r_ u_ r_ p_) (ae_ (al_ ?_)))))))))))
          refine jc_condd rfl (fun h3 => ?_) (fun h3 => ?_)
          · have e : opAt l L a = some (idxW signL L[k] + 1) := by
              rw [opAt_get L h1, if_pos ⟨h2, List.any_eq_true.2 ⟨L[k], List.getElem_mem hlt', decide_eq_true h3.symm⟩⟩, h3]
            refine R_ (L_ 1 r_ (N_ r_ (F_ r_ (L_ 2 r_ (o_ r_ (bj_ r_ r_ g_ (N_ r_ (F_ r_ (W_ 2 r_ (T_ (R_ (M_ r_ (o_ r_ (bm_ r_ (Operator_c _) (E_ r_ (T_ (ar_ ?_)))))))))))))))))
            refine az_ (aw_ (aw_ (az_ (aw_ (jq_ret1 rfl rfl [1, 1, 0] rfl (fun K h => by rw [opV, opN, e] at h; exact h))))))
          · refine as_ (ay_ (al_ (an_ (o_ r_ (bj_ r_ r_ g_ (M_ r_ (ak_ (jq_againS (k + 1) ⟨by omega, fun j hj hjk h1' h2' => ?_⟩ g_ ?_ ?_))))))))
            · by_cases hjk' : j < k
              · exact hno j hj hjk' h1' h2'
              · obtain rfl : j = k := by omega
                exact h3
            · exact bc_ 0 r_ (bc_ 0 r_ (bc_ 0 r_ sub_end))
            · (repeat (first | exact True.intro | refine ⟨rfl, ?_⟩))
        · refine as_ (al_ (B_ (R_ (o_ r_ (cc_ r_ r_ g_ r_ r_ b_ (o_ r_ (cb_ r_ r_ (E_ r_ (T_ (am_ (ao_ r_ r_ k_ k_ (yL_ 1 r_ (yN_ r_ (yF_ r_ (yL_ 2 r_ (yL_ 1 r_ (yN_ r_ ?_)))))))))))))))))
          refine yF_ r_ (yL_ 2 r_ (aa_ (fun c => br_ r_ (fun hlen => p_)) (aa_ (fun c => bw_ r_ r_ p_) (yM_ r_ (ab_ r_ t_ (fun c => bg_ 1 r_ r_ r_ r_ p_) (ab_ r_ t_ (fun c => bh_ r_ p_) (ab_ r_ t_ (fun c => bf_ r_ r_ r_ b_ p_) (ab_ r_ t_ (fun c => bg_ 2 r_ r_ r_ r_ p_) (ab_ r_ t_ (fun c => bg_ 1 r_ r_ r_ r_ p_) (ab_ r_ t_ (fun c => bh_ r_ p_) (ab_ r_ t_ (fun c => bf_ r_ r_ r_ b_ p_) ?_)))))))))))
          refine ab_ r_ t_ (fun c => bg_ 2 r_ r_ r_ r_ p_) (ab_ r_ t_ (fun c => cc_ r_ r_ g_ r_ r_ b_ p_) (ab_ r_ t_ (fun c => cf_ r_ r_ r_ b_ r_ b_ p_) (ab_ r_ t_ (fun c => cb_ r_ r_ p_) (ab_ r_ t_ (fun c => bn_ r_ r_ p_) (aa_ (fun c => bp_ r_ t_ r_ p_) (yM_ r_ (ac_ r_ w_ (ac_ r_ w_ (ac_ r_ w_ (ac_ r_ w_ (ac_ r_ w_ (ac_ r_ w_ (ac_ r_ w_ (ac_ r_ w_ (ac_ r_ w_ ?_)))))))))))))))
          refine ac_ r_ w_ (ac_ r_ w_ (ac_ r_ w_ (ac_ r_ w_ (aa_ (fun c => bv_ r_ w_ r_ p_) (ae_ (al_ (jc_cond rfl (fun h => by cases h) (fun _ => as_ (ay_ (al_ (an_ (o_ r_ (bj_ r_ r_ g_ (M_ r_ (ak_ (jq_againS (k + 1) ⟨by omega, fun j hj hjk h1' h2' => absurd h2' h2⟩ g_ ?_ ?_))))))))))))))))
          · exact bc_ 0 r_ (bc_ 0 r_ (bc_ 0 r_ sub_end))
          · (repeat (first | exact True.intro | refine ⟨rfl, ?_⟩))
      · refine as_ (al_ (B_ (R_ (o_ r_ (cc_ r_ r_ g_ r_ r_ b_ (o_ r_ (cb_ r_ r_ (E_ r_ (T_ (am_ (ao_ r_ r_ k_ k_ (yL_ 1 r_ (yN_ r_ (yF_ r_ (yL_ 2 r_ (yL_ 1 r_ (yN_ r_ ?_)))))))))))))))))
        refine yF_ r_ (yL_ 2 r_ (aa_ (fun c => br_ r_ (fun hlen => p_)) (aa_ (fun c => bw_ r_ r_ p_) (yM_ r_ (ac_ r_ v_ (ac_ r_ v_ (ac_ r_ v_ (ac_ r_ v_ (ac_ r_ v_ (ac_ r_ v_ (ac_ r_ v_ (ac_ r_ v_ (ac_ r_ v_ (ac_ r_ v_ (ac_ r_ v_ ?_)))))))))))))))
        refine ac_ r_ v_ (aa_ (fun c => bv_ r_ v_ r_ p_) (yM_ r_ (ac_ r_ r_ (ac_ r_ r_ (ac_ r_ r_ (ac_ r_ r_ (ac_ r_ r_ (ac_ r_ r_ (ac_ r_ r_ (ac_ r_ r_ (ac_ r_ r_ (ac_ r_ r_ (ac_ r_ r_ (ac_ r_ r_ (ac_ r_ r_ ?_)))))))))))))))
        refine aa_ (fun c => bv_ r_ r_ r_ p_) (ae_ (al_ (jc_cond rfl (fun h => by cases h) (fun _ => as_ (ay_ (al_ (an_ (o_ r_ (bj_ r_ r_ g_ (M_ r_ (ak_ (jq_againS (k + 1) ⟨by omega, fun j hj hjk h1' h2' => absurd h1' h1⟩ g_ ?_ ?_))))))))))))
        · exact bc_ 0 r_ (bc_ 0 r_ (bc_ 0 r_ sub_end))
        · (repeat (first | exact True.intro | refine ⟨rfl, ?_⟩))
    · have e : opAt l L a = none := by
        by_cases h1 : a < l.length
        · rw [opAt_get L h1, if_neg]
          rintro ⟨h2, h3⟩
          obtain ⟨w, hw, h4⟩ := List.any_eq_true.1 h3
          obtain ⟨j, hj, rfl⟩ := List.mem_iff_getElem.1 hw
          exact hno j hj g_ h1 h2 (of_decide_eq_true h4).symm
        · exact opAt_end h1
      refine av_ (ax_ (ax_ (ba_ (al_ (R_ (E_ r_ (T_ (ar_ (jq_ret1 rfl rfl [0, 0, 0] rfl (fun K h => by rw [opV, opN, e] at h; exact h))))))))))
end Go.Proofs.YtamajcgdfjeehaaDoor
end

section
namespace Go.Proofs.YtamajcgdfjeehaaDoor
open Go.Vc
attribute [local irreducible] JL JC JQ OpWp Con ConN Pan ConE OpPan hasW idxW isA isNum isNm numAt txtAt lineAt opAt
set_option maxHeartbeats 4000000

section
variable {l : List Tok} {a b : Nat}
theorem numbered_y (ha : a ≤ l.length) (h : isNum l a = true) : Con Tryd.prog 108 [Ptr b] [Pz b l a] (fun K => K (Bl true) [Pz b l a]) := by have := pnumbered_c (b := b) ha; rwa [h] at this
theorem numbered_n (ha : a ≤ l.length) (h : isNum l a = false) : Con Tryd.prog 108 [Ptr b] [Pz b l a] (fun K => K (Bl false) [Pz b l a]) := by have := pnumbered_c (b := b) ha; rwa [h] at this
theorem named_y (ha : a ≤ l.length) (h : isNm l a = true) : Con Tryd.prog 106 [Ptr b] [Pz b l a] (fun K => K (Bl true) [Pz b l a]) := by have := pnamed_c (b := b) ha; rwa [h] at this
theorem named_n (ha : a ≤ l.length) (h : isNm l a = false) : Con Tryd.prog 106 [Ptr b] [Pz b l a] (fun K => K (Bl false) [Pz b l a]) := by have := pnamed_c (b := b) ha; rwa [h] at this
theorem has_y {w : ByteArray} (hl : l.length ≤ 1000000) (ha : a ≤ l.length) (h : isA l a w = true) : Con Tryd.prog 74 [Ptr b, Str w] [Pz b l a] (fun K => K (Bl true) [Pz b l (a + 1)]) := by have := phas_c (b := b) hl ha w; rwa [h, if_pos rfl] at this
theorem has_n {w : ByteArray} (hl : l.length ≤ 1000000) (ha : a ≤ l.length) (h : isA l a w = false) : Con Tryd.prog 74 [Ptr b, Str w] [Pz b l a] (fun K => K (Bl false) [Pz b l a]) := by have := phas_c (b := b) hl ha w; rwa [h, if_neg Bool.false_ne_true] at this
end

theorem op1_none {l : List Tok} {a b : Nat} (hl : l.length ≤ 1000000) (ha : a ≤ l.length) {L : List ByteArray} (h : opAt l L a = none) (p q : Nat) : Con Tryd.prog 80 [Ptr p, Ptr q] [Cap1 p L, Cap2 q b, Pz b l a] (fun K => K (In .i64 0) [Cap1 p L, Cap2 q b, Pz b l a]) := by
  have := op1_c (b := b) (p := p) (q := q) hl ha L
  rw [opV, opN, h] at this
  exact this
theorem op1_some {l : List Tok} {a b : Nat} (hl : l.length ≤ 1000000) (ha : a ≤ l.length) {L : List ByteArray} {o : Int} (h : opAt l L a = some o) (p q : Nat) : Con Tryd.prog 80 [Ptr p, Ptr q] [Cap1 p L, Cap2 q b, Pz b l a] (fun K => K (In .i64 o) [Cap1 p L, Cap2 q b, Pz b l (a + 1)]) := by
  have := op1_c (b := b) (p := p) (q := q) hl ha L
  rw [opV, opN, h] at this
  exact this

def lpx (l : List Tok) (L : List ByteArray) (sub : Nat → Option (T × Nat)) : Nat → T → Nat → T × Nat
  | 0, x, a => (x, a)
  | n + 1, x, a => match opAt l L a with
    | none => (x, a)
    | some o => match sub (a + 1) with
      | none => (x, a)
      | some (y, b) => lpx l L sub n (.bn o x y) b
/-- The operators of a line of the grammar: 0 comparisons, 1 sums, 2 terms. -/
def opsL : Nat → List ByteArray
  | 0 => cmpL
  | 1 => addL
  | _ => mulL
abbrev W40 : ByteArray := ⟨#[40]⟩
abbrev W41 : ByteArray := ⟨#[41]⟩
abbrev W45 : ByteArray := ⟨#[45]⟩
abbrev W91 : ByteArray := ⟨#[91]⟩
abbrev W93 : ByteArray := ⟨#[93]⟩
def inx (l : List Tok) (w : ByteArray) : Option (T × Nat) → Option (T × Nat)
  | some (x, b) => if isA l b w = true then some (x, b + 1) else none
  | none => none
def lx (l : List Tok) : Nat → Nat → Nat → Option (T × Nat)
  | 0, _, _ => none
  | F + 1, k, a =>
    if 3 ≤ k then
      if isNum l a = true then some (.nu (numAt l a), a + 1)
      else if isA l a W45 = true then
        if isNum l (a + 1) = true then some (.nu (ngI (numAt l (a + 1))), a + 2)
        else match lx l F 3 (a + 1) with
          | some (x, b) => some (.bn 2 (.nu 0) x, b)
          | none => none
      else if isNm l a = true then
        if isA l (a + 1) W91 = true then
          match inx l W93 (lx l F 0 (a + 2)) with
          | some (x, b) => some (.ix (txtAt l a) x, b)
          | none => some (.nm (txtAt l a), a + 1)
        else some (.nm (txtAt l a), a + 1)
      else if isA l a W40 = true then inx l W41 (lx l F 0 (a + 1))
      else none
    else match lx l F (k + 1) a with
      | none => none
      | some (x, b) => some (lpx l (opsL k) (lx l F (k + 1)) (if k = 0 then 1 else F) x b)
theorem opAt_lt {l : List Tok} {L : List ByteArray} {a : Nat} {o : Int} (h : opAt l L a = some o) : a < l.length := by
  rcases Nat.lt_or_ge a l.length with h' | h'
  · exact h'
  · rw [opAt_end (by omega)] at h; cases h
theorem lpx_none {l : List Tok} {L : List ByteArray} {sub : Nat → Option (T × Nat)} {a : Nat} (h : opAt l L a = none) (n : Nat) (x : T) : lpx l L sub n x a = (x, a) := by cases n <;> simp [lpx, h]
theorem lpx_stop {l : List Tok} {L : List ByteArray} {sub : Nat → Option (T × Nat)} {a : Nat} (h : sub (a + 1) = none) (n : Nat) (x : T) : lpx l L sub n x a = (x, a) := by
  cases n with
  | zero => rfl
  | succ n =>
    rw [lpx]
    split
    · rfl
    · rw [h]
theorem lpx_go {l : List Tok} {L : List ByteArray} {sub : Nat → Option (T × Nat)} {a b : Nat} {o : Int} {y : T} (h : opAt l L a = some o) (hs : sub (a + 1) = some (y, b)) (n : Nat) (x : T) : lpx l L sub (n + 1) x a = lpx l L sub n (.bn o x y) b := by rw [lpx, h]; dsimp only; rw [hs]
theorem ops_signs : ∀ k, ((opsL k).all fun w => signL.any fun u => decide (u = w)) = true
  | 0 => by decide +kernel
  | 1 => by decide +kernel
  | _ + 2 => by show (mulL.all fun w => signL.any fun u => decide (u = w)) = true; decide +kernel
theorem opAt_pos {l : List Tok} {k a : Nat} {o : Int} (h : opAt l (opsL k) a = some o) : ¬ o = 0 := by
  have hlt := opAt_lt h
  rw [opAt_get _ hlt] at h
  split at h
  · rename_i h1
    obtain ⟨w, hw, h2⟩ := List.any_eq_true.1 h1.2
    have h3 := List.all_eq_true.1 (ops_signs k) w hw
    rw [of_decide_eq_true h2, ← idxW_any] at h3
    have h4 := of_decide_eq_true h3
    simp only [Option.some.injEq] at h
    omega
  · cases h
theorem lpx_bd {l : List Tok} {L : List ByteArray} {sub : Nat → Option (T × Nat)} (hs : ∀ a t b, sub a = some (t, b) → a < b ∧ b ≤ l.length) : ∀ (n : Nat) (x : T) (a : Nat), a ≤ l.length → a ≤ (lpx l L sub n x a).2 ∧ (lpx l L sub n x a).2 ≤ l.length
  | 0, x, a, h => ⟨Nat.le_refl _, h⟩
  | n + 1, x, a, h => by
    unfold lpx
    split
    · exact ⟨Nat.le_refl _, h⟩
    · rename_i o _
      split
      · exact ⟨Nat.le_refl _, h⟩
      · rename_i y b hy
        have h1 := hs _ _ _ hy
        have h2 := lpx_bd (L := L) hs n (.bn o x y) b h1.2
        exact ⟨by omega, h2.2⟩
theorem inx_some {l : List Tok} {w : ByteArray} {r : Option (T × Nat)} {x : T} {b : Nat} (h : inx l w r = some (x, b)) : ∃ c, r = some (x, c) ∧ isA l c w = true ∧ b = c + 1 := by
  unfold inx at h
  split at h
  · split at h
    · rename_i h2
      simp only [Option.some.injEq, Prod.mk.injEq] at h
      obtain ⟨rfl, rfl⟩ := h
      exact ⟨_, rfl, h2, rfl⟩
    · cases h
  · cases h
theorem lx_bd {l : List Tok} : ∀ (F k a : Nat) (t : T) (b : Nat), lx l F k a = some (t, b) → a < b ∧ b ≤ l.length
  | 0, _, _, _, _, h => by simp [lx] at h
  | F + 1, k, a, t, b, h => by
    have ih := lx_bd (l := l) F
    rw [lx] at h
    split at h
    · split at h
      · rename_i h1
        have := isNum_lt h1
        simp only [Option.some.injEq, Prod.mk.injEq] at h
        omega
      · split at h
        · split at h
          · rename_i h1
            have := isNum_lt h1
            simp only [Option.some.injEq, Prod.mk.injEq] at h
            omega
          · split at h
            · rename_i x b' h1
              have := ih _ _ _ _ h1
              simp only [Option.some.injEq, Prod.mk.injEq] at h
              omega
            · cases h
        · split at h
          · rename_i h1
            have := isNm_lt h1
            split at h
            · split at h
              · rename_i x b' h2
                obtain ⟨c, h3, h4, rfl⟩ := inx_some h2
                have := ih _ _ _ _ h3
                have := isA_lt h4
                simp only [Option.some.injEq, Prod.mk.injEq] at h
                omega
              · simp only [Option.some.injEq, Prod.mk.injEq] at h
                omega
            · simp only [Option.some.injEq, Prod.mk.injEq] at h
              omega
          · split at h
            · obtain ⟨c, h3, h4, rfl⟩ := inx_some h
              have := ih _ _ _ _ h3
              have := isA_lt h4
              omega
            · cases h
    · split at h
      · cases h
      · rename_i x b' h1
        have h2 := ih _ _ _ _ h1
        have h3 := lpx_bd (L := opsL k) (fun a t b => ih (k + 1) a t b) (if k = 0 then 1 else F) x b' h2.2
        simp only [Option.some.injEq] at h
        rw [h] at h3
        exact ⟨by omega, h3.2⟩
/-- A beginning, as the program has it. -/
def PFX : Option (T × Nat) → List C
  | some (t, a) => [.val (.int .i64 t.kind), .val (.int .i64 t.num), .val (.string t.name), .val (.int .i64 t.op), .list (t.args.map T.row), .val (.int .i64 (a : Int)), .val (.bool true)]
  | none => [.val (.int .i64 0), .val (.int .i64 0), .val (.string ⟨#[]⟩), .val (.int .i64 0), .val (.slice none 0 0), .val (.int .i64 0), .val (.bool false)]
theorem binary_c (o : Int) (x y : T) : Con Tryd.prog 49 [In .i64 o, .row x.row', .row y.row'] [] (fun K => K (.row (T.bn o x y).row') []) := by
  refine con_intro Tryd.func49 rfl rfl (Nat.le_of_ble_eq_true rfl) (fun c hc => R_ (o_ r_ (ci_ r_ (fun bx => o_ r_ (ci_ r_ (fun bx => o_ r_ (bl_ r_ r_ (fun bl => T_ (R_ (M_ r_ (A_ 2 r_ (A_ 1 r_ (o_ r_ (bq_ r_ r_ b_ r_ r_ b_ (o_ r_ (bu_ r_ r_ r_ r_ r_ (S_ 0 r_ (T_ (ar_ (jq_row 0 (T.bn o x y).row' rfl ?_ ?_))))))))))))))))))))
  · (repeat (first | exact RowLe.nil | refine RowLe.cons (CLe.refl _) ?_ | refine RowLe.cons CLe.nil ?_))
    exact RowLe.cons (CLe.eq (by simp [T.row_eq, T.args])) .nil
  · refine jq_retRow rfl rfl rfl rfl 0 rfl [] rfl (fun K h => h)
/-- A number, as it is built, on the left. -/
theorem binaryN_c (o n : Int) (y : T) : Con Tryd.prog 49 [In .i64 o, .row [.val (.int .i64 1), .val (.int .i64 n), .val (.string ⟨#[]⟩), .val (.int .i64 0), .val (.slice none 0 0)], .row y.row'] [] (fun K => K (.row (T.bn o (.nu n) y).row') []) := by
  refine con_intro Tryd.func49 rfl rfl (Nat.le_of_ble_eq_true rfl) (fun c hc => R_ (o_ r_ (ci_ r_ (fun bx => o_ r_ (ci_ r_ (fun bx => o_ r_ (bl_ r_ r_ (fun bl => T_ (R_ (M_ r_ (A_ 2 r_ (A_ 1 r_ (o_ r_ (bq_ r_ r_ b_ r_ r_ b_ (o_ r_ (bu_ r_ r_ r_ r_ r_ (S_ 0 r_ (T_ (ar_ (jq_row 0 (T.bn o (.nu n) y).row' rfl ?_ ?_))))))))))))))))))))
  · (repeat (first | exact RowLe.nil | refine RowLe.cons (CLe.refl _) ?_ | refine RowLe.cons CLe.nil ?_))
    refine RowLe.cons (CLe.list (.cons ?_ (.cons ?_ .nil))) .nil
    · (repeat (first | exact RowLe.nil | refine RowLe.cons (CLe.refl _) ?_ | refine RowLe.cons CLe.nil ?_))
    · rw [T.row_eq]
      (repeat (first | exact RowLe.nil | refine RowLe.cons (CLe.refl _) ?_ | refine RowLe.cons CLe.nil ?_))
  · refine jq_retRow rfl rfl rfl rfl 0 rfl [] rfl (fun K h => h)
end Go.Proofs.YtamajcgdfjeehaaDoor
end

section
namespace Go.Proofs.YtamajcgdfjeehaaDoor
open Go.Vc
set_option maxHeartbeats 1000000

inductive R (α : Type) where
  | ok (a : α) (n : Nat)
  | er (code : Int) (p : Nat)
def dpR (fr : Bool) (t : T) (a : Nat) : R T := if fr = false ∧ 8 < t.dep then .er 4 (a - 1) else .ok t a
def sxp (fr : Bool) (l : List Tok) (L : List ByteArray) (sub : Nat → R T) : Nat → T → Nat → R T
  | 0, x, a => .ok x a
  | n + 1, x, a => match opAt l L a with
    | none => .ok x a
    | some o => match sub (a + 1) with
      | .er c p => .er c p
      | .ok y b => match dpR fr (.bn o x y) b with
        | .er c p => .er c p
        | .ok z b' => sxp fr l L sub n z b'
def sx (fr : Bool) (l : List Tok) : Nat → Nat → Nat → R T
  | 0, _, _ => .er 1 0
  | F + 1, k, a =>
    if 3 ≤ k then
      if isNum l a = true then .ok (.nu (numAt l a)) (a + 1)
      else if isA l a W45 = true then
        if isNum l (a + 1) = true then .ok (.nu (ngI (numAt l (a + 1)))) (a + 2)
        else match sx fr l F 3 (a + 1) with
          | .er c p => .er c p
          | .ok x b => dpR fr (.bn 2 (.nu 0) x) b
      else if isNm l a = true then
        if isA l (a + 1) W91 = true then
          match sx fr l F 0 (a + 2) with
          | .er c p => .er c p
          | .ok x b => if isA l b W93 = true then dpR fr (.ix (txtAt l a) x) (b + 1) else .er 1 b
        else .ok (.nm (txtAt l a)) (a + 1)
      else if isA l a W40 = true then
        match sx fr l F 0 (a + 1) with
        | .er c p => .er c p
        | .ok x b => if isA l b W41 = true then .ok x (b + 1) else .er 1 b
      else .er 1 a
    else match sx fr l F (k + 1) a with
      | .er c p => .er c p
      | .ok x b => sxp fr l (opsL k) (sx fr l F (k + 1)) (if k = 0 then 1 else F) x b

theorem dpR_bd {fr : Bool} {t u : T} {a b : Nat} (h : dpR fr t a = .ok u b) : u = t ∧ b = a := by
  unfold dpR at h
  split at h
  · cases h
  · cases h; exact ⟨rfl, rfl⟩
theorem dpR_free (t : T) (a : Nat) : dpR true t a = .ok t a := by simp [dpR]
theorem sxp_bd {fr : Bool} {l : List Tok} {L : List ByteArray} {sub : Nat → R T} (hs : ∀ a t b, sub a = .ok t b → a < b ∧ b ≤ l.length) : ∀ (n : Nat) (x : T) (a : Nat) (t : T) (b : Nat), a ≤ l.length → sxp fr l L sub n x a = .ok t b → a ≤ b ∧ b ≤ l.length
  | 0, x, a, t, b, h, e => by simp only [sxp, R.ok.injEq] at e; omega
  | n + 1, x, a, t, b, h, e => by
    rw [sxp] at e
    split at e
    · simp only [R.ok.injEq] at e; omega
    · rename_i o _
      split at e
      · cases e
      · rename_i y b1 hy
        have h1 := hs _ _ _ hy
        split at e
        · cases e
        · rename_i z b2 hz
          obtain ⟨rfl, rfl⟩ := dpR_bd hz
          have h2 := sxp_bd hs n _ _ _ _ h1.2 e
          omega
theorem sx_bd {fr : Bool} {l : List Tok} : ∀ (F k a : Nat) (t : T) (b : Nat), sx fr l F k a = .ok t b → a < b ∧ b ≤ l.length
  | 0, _, _, _, _, h => by simp [sx] at h
  | F + 1, k, a, t, b, h => by
    have ih := sx_bd (fr := fr) (l := l) F
    rw [sx] at h
    split at h
    · split at h
      · rename_i h1
        have := isNum_lt h1
        simp only [R.ok.injEq] at h
        omega
      · split at h
        · split at h
          · rename_i h1
            have := isNum_lt h1
            simp only [R.ok.injEq] at h
            omega
          · split at h
            · cases h
            · rename_i x b' h1
              have := ih _ _ _ _ h1
              obtain ⟨rfl, rfl⟩ := dpR_bd h
              omega
        · split at h
          · rename_i h1
            have := isNm_lt h1
            split at h
            · split at h
              · cases h
              · rename_i x b' h2
                have := ih _ _ _ _ h2
                split at h
                · rename_i h4
                  have := isA_lt h4
                  obtain ⟨rfl, rfl⟩ := dpR_bd h
                  omega
                · cases h
            · simp only [R.ok.injEq] at h
              omega
          · split at h
            · split at h
              · cases h
              · rename_i x b' h2
                have := ih _ _ _ _ h2
                split at h
                · rename_i h4
                  have := isA_lt h4
                  simp only [R.ok.injEq] at h
                  omega
                · cases h
            · cases h
    · split at h
      · cases h
      · rename_i x b' h1
        have h2 := ih _ _ _ _ h1
        have h3 := sxp_bd (L := opsL k) (fun a t b => ih (k + 1) a t b) _ _ _ _ _ h2.2 h
        omega

theorem isA_eq {l m : List Tok} {i : Nat} (h : l[i]? = m[i]?) (w : ByteArray) : isA l i w = isA m i w := by simp [isA, h]
theorem isNum_eq {l m : List Tok} {i : Nat} (h : l[i]? = m[i]?) : isNum l i = isNum m i := by simp [isNum, h]
theorem isNm_eq {l m : List Tok} {i : Nat} (h : l[i]? = m[i]?) : isNm l i = isNm m i := by simp [isNm, h]
theorem numAt_eq {l m : List Tok} {i : Nat} (h : l[i]? = m[i]?) : numAt l i = numAt m i := by simp [numAt, h]
theorem txtAt_eq {l m : List Tok} {i : Nat} (h : l[i]? = m[i]?) : txtAt l i = txtAt m i := by simp [txtAt, h]
theorem opAt_eq {l m : List Tok} {i : Nat} (h : l[i]? = m[i]?) (L : List ByteArray) : opAt l L i = opAt m L i := by simp [opAt, h]
def hasOp (k : Nat) (w : ByteArray) : Bool := (opsL k).any fun u => decide (u = w)
theorem no_ops : ∀ k, (hasOp k W91 || hasOp k W93 || hasOp k W41) = false
  | 0 => by decide +kernel
  | 1 => by decide +kernel
  | _ + 2 => by show ((mulL.any fun u => decide (u = W91)) || (mulL.any fun u => decide (u = W93)) || (mulL.any fun u => decide (u = W41))) = false; decide +kernel
theorem ops_apart : ∀ j k, k < j → j ≤ 2 → ((opsL k).all fun w => !hasOp j w) = true := by
  intro j k h1 h2
  rcases (show (j = 1 ∧ k = 0) ∨ (j = 2 ∧ k = 0) ∨ (j = 2 ∧ k = 1) by omega) with ⟨rfl, rfl⟩ | ⟨rfl, rfl⟩ | ⟨rfl, rfl⟩ <;> decide +kernel
theorem opAt_text {l : List Tok} {k a : Nat} {o : Int} (h : opAt l (opsL k) a = some o) : ∃ t, l[a]? = some t ∧ t.kind = 3 ∧ hasOp k t.text = true ∧ t.text ∈ opsL k := by
  have hlt := opAt_lt h
  rw [opAt_get _ hlt] at h
  split at h
  · rename_i h1
    obtain ⟨w, hw, h2⟩ := List.any_eq_true.1 h1.2
    exact ⟨l[a], by simp [hlt], h1.1, h1.2, by rw [← of_decide_eq_true h2]; exact hw⟩
  · cases h
theorem isA_text {l : List Tok} {a : Nat} {w : ByteArray} (h : isA l a w = true) : ∃ t, l[a]? = some t ∧ t.text = w := by
  have hlt := isA_lt h
  rw [isA_get w hlt, Bool.and_eq_true, decide_eq_true_eq] at h
  exact ⟨l[a], by simp [hlt], h.2⟩
theorem isA_not {l : List Tok} {a : Nat} {t : Tok} {w : ByteArray} (h : l[a]? = some t) (hne : ¬ t.text = w) : isA l a w = false := by
  simp [isA, h, hne]
theorem opAt_not {l : List Tok} {a k : Nat} {t : Tok} (h : l[a]? = some t) (hne : hasOp k t.text = false) : opAt l (opsL k) a = none := by
  unfold hasOp at hne
  simp only [opAt, h, hne]
  simp
/-- An expression of level k ends here. -/
def NoExt (l : List Tok) (k b : Nat) : Prop := isA l b W91 = false ∧ ∀ j, k ≤ j → j ≤ 2 → opAt l (opsL j) b = none
theorem noExt_end {l : List Tok} {k b : Nat} (h : l.length ≤ b) : NoExt l k b := ⟨isA_end _ (by omega), fun _ _ _ => opAt_end (by omega)⟩
theorem noExt_mono {l : List Tok} {k b : Nat} (h : NoExt l k b) : NoExt l (k + 1) b := ⟨h.1, fun j hj => h.2 j (by omega)⟩
theorem noExt_close {l : List Tok} {k b : Nat} {w : ByteArray} (hw : w = W93 ∨ w = W41) (h : isA l b w = true) : NoExt l k b := by
  obtain ⟨t, h1, h2⟩ := isA_text h
  refine ⟨isA_not h1 (by rw [h2]; rcases hw with rfl | rfl <;> decide +kernel), fun j _ _ => opAt_not h1 ?_⟩
  have := no_ops j
  simp only [Bool.or_eq_false_iff] at this
  rw [h2]
  rcases hw with rfl | rfl
  · exact this.1.2
  · exact this.2
theorem noExt_op {l : List Tok} {k b : Nat} {o : Int} (h : opAt l (opsL k) b = some o) : NoExt l (k + 1) b := by
  obtain ⟨t, h1, _, h3, h4⟩ := opAt_text h
  refine ⟨isA_not h1 ?_, fun j hj hj2 => opAt_not h1 ?_⟩
  · intro e
    have := no_ops k
    simp only [Bool.or_eq_false_iff] at this
    rw [e] at h3
    rw [this.1.1] at h3
    cases h3
  · have := List.all_eq_true.1 (ops_apart j k (by omega) hj2) _ h4
    simpa using this

/-- What the strict parser takes hangs on no more than that, and the token behind. -/
theorem sxp_loc {l m : List Tok} {L : List ByteArray} {sub sub' : Nat → R T} (hs : ∀ a t b, sub a = .ok t b → a < b ∧ b ≤ l.length) (hs' : ∀ a t b, sub a = .ok t b → (∀ i, i ≤ b → l[i]? = m[i]?) → sub' a = .ok t b) : ∀ (n : Nat) (x : T) (a : Nat) (t : T) (b : Nat), a ≤ l.length → sxp true l L sub n x a = .ok t b → (∀ i, i ≤ b → l[i]? = m[i]?) → sxp true m L sub' n x a = .ok t b
  | 0, x, a, t, b, _, h, _ => h
  | n + 1, x, a, t, b, ha, h, hg => by
    have hb := (sxp_bd hs (n + 1) x a t b ha h).1
    rw [sxp] at h ⊢
    rw [← opAt_eq (hg a hb)]
    cases ho : opAt l L a with
    | none => rw [ho] at h; exact h
    | some o =>
      rw [ho] at h
      dsimp only at h ⊢
      cases hy : sub (a + 1) with
      | er c p => rw [hy] at h; cases h
      | ok y b1 =>
        rw [hy] at h
        dsimp only at h
        rw [dpR_free] at h
        dsimp only at h
        have h1 := hs _ _ _ hy
        have h2 := sxp_bd hs n _ _ _ _ h1.2 h
        rw [hs' _ _ _ hy (fun i hi => hg i (by omega))]
        dsimp only
        rw [dpR_free]
        exact sxp_loc hs hs' n _ _ _ _ h1.2 h hg
theorem sx_loc {l m : List Tok} : ∀ (F k a : Nat) (t : T) (b : Nat), sx true l F k a = .ok t b → (∀ i, i ≤ b → l[i]? = m[i]?) → sx true m F k a = .ok t b
  | 0, _, _, _, _, h, _ => by simp [sx] at h
  | F + 1, k, a, t, b, h, hg => by
    have ih := sx_loc (l := l) (m := m) F
    have hb := (sx_bd _ _ _ _ _ h).1
    have e1 := hg a (by omega)
    have e2 := hg (a + 1) (by omega)
    rw [sx] at h ⊢
    rw [← isNum_eq e1, ← isNum_eq e2, ← isA_eq e1, ← isA_eq e1, ← isNm_eq e1, ← isA_eq e2, ← numAt_eq e1, ← numAt_eq e2, ← txtAt_eq e1]
    split
    · rename_i h3
      rw [if_pos h3] at h
      split
      · rename_i h4; rw [if_pos h4] at h; exact h
      · rename_i h4
        rw [if_neg h4] at h
        split
        · rename_i h5
          rw [if_pos h5] at h
          split
          · rename_i h6; rw [if_pos h6] at h; exact h
          · rename_i h6
            rw [if_neg h6] at h
            cases hy : sx true l F 3 (a + 1) with
            | er c p => rw [hy] at h; cases h
            | ok x b1 =>
              rw [hy] at h
              dsimp only at h
              rw [dpR_free] at h
              cases h
              rw [ih _ _ _ _ hy hg]
              exact dpR_free _ _
        · rename_i h5
          rw [if_neg h5] at h
          split
          · rename_i h6
            rw [if_pos h6] at h
            split
            · rename_i h7
              rw [if_pos h7] at h
              cases hy : sx true l F 0 (a + 2) with
              | er c p => rw [hy] at h; cases h
              | ok x b1 =>
                rw [hy] at h
                dsimp only at h
                split at h
                · rename_i h8
                  rw [dpR_free] at h
                  cases h
                  rw [ih _ _ _ _ hy (fun i hi => hg i (by omega))]
                  dsimp only
                  rw [← isA_eq (hg b1 (by omega)), if_pos h8]
                  exact dpR_free _ _
                · cases h
            · rename_i h7; rw [if_neg h7] at h; exact h
          · rename_i h6
            rw [if_neg h6] at h
            split
            · rename_i h7
              rw [if_pos h7] at h
              cases hy : sx true l F 0 (a + 1) with
              | er c p => rw [hy] at h; cases h
              | ok x b1 =>
                rw [hy] at h
                dsimp only at h
                split at h
                · rename_i h8
                  cases h
                  rw [ih _ _ _ _ hy (fun i hi => hg i (by omega))]
                  dsimp only
                  rw [← isA_eq (hg b1 (by omega)), if_pos h8]
                · cases h
            · rename_i h7; rw [if_neg h7] at h; cases h
    · rename_i h3
      rw [if_neg h3] at h
      cases hy : sx true l F (k + 1) a with
      | er c p => rw [hy] at h; cases h
      | ok x b1 =>
        rw [hy] at h
        dsimp only at h
        have h1 := sx_bd _ _ _ _ _ hy
        have h2 := sxp_bd (fun a t b h => sx_bd F (k + 1) a t b h) _ _ _ _ _ h1.2 h
        rw [ih _ _ _ _ hy (fun i hi => hg i (by omega))]
        dsimp only
        exact sxp_loc (fun a t b h => sx_bd F (k + 1) a t b h) (fun a t b h hg => ih _ _ _ _ h hg) _ _ _ _ _ h1.2 h hg

/-- The longest beginning is taken by the strict parser, where it ends. -/
theorem lpx_sxp {l m : List Tok} {k : Nat} (hk : k ≤ 2) {sub : Nat → Option (T × Nat)} {sub' : Nat → R T} (hs : ∀ a t b, sub a = some (t, b) → a < b ∧ b ≤ l.length) (hs' : ∀ a t b, sub a = some (t, b) → (∀ i, i < b → l[i]? = m[i]?) → NoExt m (k + 1) b → sub' a = .ok t b) : ∀ (n : Nat) (x : T) (a : Nat) (t : T) (b : Nat), a ≤ l.length → lpx l (opsL k) sub n x a = (t, b) → (∀ i, i < b → l[i]? = m[i]?) → NoExt m k b →
      sxp true m (opsL k) sub' n x a = .ok t b
  | 0, x, a, t, b, _, h, _, _ => by simp only [lpx, Prod.mk.injEq] at h; obtain ⟨rfl, rfl⟩ := h; rfl
  | n + 1, x, a, t, b, ha, h, hg, hne => by
    have stop : (x, a) = (t, b) → sxp true m (opsL k) sub' (n + 1) x a = .ok t b := by
      intro e
      simp only [Prod.mk.injEq] at e
      obtain ⟨rfl, rfl⟩ := e
      rw [sxp, hne.2 k (Nat.le_refl _) hk]
    rw [lpx] at h
    split at h
    · exact stop h
    · rename_i o ho
      split at h
      · exact stop h
      · rename_i y b1 hy
        have h1 := hs _ _ _ hy
        have h2 := lpx_bd (L := opsL k) hs n (.bn o x y) b1 h1.2
        rw [h] at h2
        dsimp only at h2
        have hne1 : NoExt m (k + 1) b1 := by
          by_cases hb1 : b1 = b
          · subst hb1; exact noExt_mono hne
          · cases hn : n with
            | zero => subst hn; simp only [lpx, Prod.mk.injEq] at h; omega
            | succ n' =>
              subst hn
              rw [lpx] at h
              split at h
              · simp only [Prod.mk.injEq] at h; omega
              · rename_i o2 ho2
                have := hg b1 (by omega)
                exact noExt_op (o := o2) (by rw [← opAt_eq this]; exact ho2)
        rw [sxp, ← opAt_eq (hg a (by omega)), ho]
        dsimp only
        rw [hs' _ _ _ hy (fun i hi => hg i (by omega)) hne1]
        dsimp only
        rw [dpR_free]
        exact lpx_sxp hk hs hs' n _ _ _ _ h1.2 h hg hne
theorem lx_sx {l m : List Tok} : ∀ (F k a : Nat) (t : T) (b : Nat), lx l F k a = some (t, b) → (∀ i, i < b → l[i]? = m[i]?) → NoExt m k b → sx true m F k a = .ok t b
  | 0, _, _, _, _, h, _, _ => by simp [lx] at h
  | F + 1, k, a, t, b, h, hg, hne => by
    have ih := lx_sx (l := l) (m := m) F
    have hb := lx_bd _ _ _ _ _ h
    have e1 := hg a (by omega)
    rw [lx] at h
    rw [sx, ← isNum_eq e1, ← isA_eq e1, ← isA_eq e1, ← isNm_eq e1, ← numAt_eq e1, ← txtAt_eq e1]
    split
    · rename_i h3
      rw [if_pos h3] at h
      split
      · rename_i h4
        rw [if_pos h4] at h
        cases h; rfl
      · rename_i h4
        rw [if_neg h4] at h
        split
        · rename_i h5
          rw [if_pos h5] at h
          have hlt2 : a + 1 < b := by
            split at h
            · simp only [Option.some.injEq, Prod.mk.injEq] at h; omega
            · split at h
              · rename_i x b1 hy
                have := (lx_bd _ _ _ _ _ hy).1
                simp only [Option.some.injEq, Prod.mk.injEq] at h; omega
              · cases h
          have e2 := hg (a + 1) hlt2
          rw [← isNum_eq e2, ← numAt_eq e2]
          split
          · rename_i h6
            rw [if_pos h6] at h
            cases h; rfl
          · rename_i h6
            rw [if_neg h6] at h
            split at h
            · rename_i x b1 hy
              simp only [Option.some.injEq, Prod.mk.injEq] at h
              obtain ⟨rfl, rfl⟩ := h
              rw [ih _ _ _ _ hy hg ⟨hne.1, fun j hj hj2 => hne.2 j (by omega) hj2⟩]
              exact dpR_free _ _
            · cases h
        · rename_i h5
          rw [if_neg h5] at h
          split
          · rename_i h6
            rw [if_pos h6] at h
            split at h
            · rename_i h7
              split at h
              · rename_i x b1 hy
                obtain ⟨c, h8, h9, rfl⟩ := inx_some hy
                simp only [Option.some.injEq, Prod.mk.injEq] at h
                obtain ⟨rfl, rfl⟩ := h
                have hc := (lx_bd _ _ _ _ _ h8).1
                have h9' : isA m c W93 = true := by rw [← isA_eq (hg c (by omega))]; exact h9
                rw [← isA_eq (hg (a + 1) (by omega)), if_pos h7, ih _ _ _ _ h8 (fun i hi => hg i (by omega)) (noExt_close (.inl rfl) h9')]
                dsimp only
                rw [if_pos h9']
                exact dpR_free _ _
              · simp only [Option.some.injEq, Prod.mk.injEq] at h
                obtain ⟨rfl, rfl⟩ := h
                rw [if_neg (by rw [hne.1]; decide)]
            · simp only [Option.some.injEq, Prod.mk.injEq] at h
              obtain ⟨rfl, rfl⟩ := h
              rw [if_neg (by rw [hne.1]; decide)]
          · rename_i h6
            rw [if_neg h6] at h
            split
            · rename_i h7
              rw [if_pos h7] at h
              obtain ⟨c, h8, h9, rfl⟩ := inx_some h
              have hc := (lx_bd _ _ _ _ _ h8).1
              have h9' : isA m c W41 = true := by rw [← isA_eq (hg c (by omega))]; exact h9
              rw [ih _ _ _ _ h8 (fun i hi => hg i (by omega)) (noExt_close (.inr rfl) h9')]
              dsimp only
              rw [if_pos h9']
            · rename_i h7; rw [if_neg h7] at h; cases h
    · rename_i h3
      rw [if_neg h3] at h
      split at h
      · cases h
      · rename_i x b1 hy
        have h1 := lx_bd _ _ _ _ _ hy
        simp only [Option.some.injEq] at h
        have h2 := lpx_bd (L := opsL k) (fun a t b h => lx_bd F (k + 1) a t b h) (if k = 0 then 1 else F) x b1 h1.2
        rw [h] at h2
        dsimp only at h2
        have hne1 : NoExt m (k + 1) b1 := by
          by_cases hb1 : b1 = b
          · subst hb1; exact noExt_mono hne
          · cases hn : (if k = 0 then 1 else F) with
            | zero => rw [hn] at h; simp only [lpx, Prod.mk.injEq] at h; omega
            | succ n' =>
              rw [hn, lpx] at h
              split at h
              · simp only [Prod.mk.injEq] at h; omega
              · rename_i o2 ho2
                have := hg b1 (by omega)
                exact noExt_op (o := o2) (by rw [← opAt_eq this]; exact ho2)
        rw [ih _ _ _ _ hy (fun i hi => hg i (by omega)) hne1]
        exact lpx_sxp (by omega) (fun a t b h => lx_bd F (k + 1) a t b h) (fun a t b h hg hne => ih _ _ _ _ h hg hne) _ _ _ _ _ h1.2 h hg hne
end Go.Proofs.YtamajcgdfjeehaaDoor
end

section
namespace Go.Proofs.YtamajcgdfjeehaaDoor
open Go.Vc
set_option maxHeartbeats 1000000

/-- Where the strict parser has an end, and the token there is the same, the longest beginning ends too. -/
theorem lx_same {l m : List Tok} {F k a : Nat} {t t2 : T} {b b2 : Nat} (hs : sx true m F k a = .ok t b) (hl : lx l F k a = some (t2, b2)) (hle : b ≤ b2) (hg : ∀ i, i ≤ b → m[i]? = l[i]?) : b2 = b := by
  by_cases hlt : b < b2
  · have hb := lx_bd _ _ _ _ _ hl
    have e : ∀ i, i < b2 → l[i]? = (l.take b2)[i]? := fun i hi => by rw [List.getElem?_take, if_pos hi]
    have h1 := lx_sx (m := l.take b2) _ _ _ _ _ hl e (noExt_end (by rw [List.length_take]; omega))
    have h2 := sx_loc (m := l.take b2) _ _ _ _ _ hs (fun i hi => (hg i hi).trans (e i (by omega)))
    rw [h1] at h2
    cases h2
    rfl
  · omega
theorem sxp_lpx {l m : List Tok} {k : Nat} {sub : Nat → Option (T × Nat)} {sub' : Nat → R T} (hs : ∀ a t b, sub a = some (t, b) → a < b ∧ b ≤ l.length) (hm : ∀ a t b, sub' a = .ok t b → a < b ∧ b ≤ m.length)
    (hB : ∀ a t b, sub' a = .ok t b → (∀ i, i < b → m[i]? = l[i]?) → ∃ t2 b2, sub a = some (t2, b2) ∧ b ≤ b2) (hE : ∀ a t b t2 b2, sub' a = .ok t b → sub a = some (t2, b2) → b ≤ b2 → (∀ i, i ≤ b → m[i]? = l[i]?) → b2 = b) :
    ∀ (n : Nat) (x : T) (a : Nat) (t : T) (b : Nat), a ≤ l.length → a ≤ m.length → sxp true m (opsL k) sub' n x a = .ok t b → (∀ i, i < b → m[i]? = l[i]?) → ∀ y, b ≤ (lpx l (opsL k) sub n y a).2
  | 0, x, a, t, b, _, _, h, _, y => by simp only [sxp, R.ok.injEq] at h; simp only [lpx]; omega
  | n + 1, x, a, t, b, ha, hma, h, hg, y => by
    have hy0 := lpx_bd (L := opsL k) hs (n + 1) y a ha
    rw [sxp] at h
    cases ho : opAt m (opsL k) a with
    | none => rw [ho] at h; simp only [R.ok.injEq] at h; omega
    | some o =>
      rw [ho] at h
      dsimp only at h
      cases hz : sub' (a + 1) with
      | er c p => rw [hz] at h; cases h
      | ok z b1 =>
        rw [hz] at h
        dsimp only at h
        rw [dpR_free] at h
        dsimp only at h
        have h1 := hm _ _ _ hz
        have h2 := sxp_bd hm n _ _ _ _ h1.2 h
        have ho' : opAt l (opsL k) a = some o := by rw [← opAt_eq (hg a (by omega))]; exact ho
        obtain ⟨z2, b2, hz2, hb2⟩ := hB _ _ _ hz (fun i hi => hg i (by omega))
        have h3 := hs _ _ _ hz2
        rw [lpx_go ho' hz2]
        by_cases hb : b1 = b
        · have := lpx_bd (L := opsL k) hs n (.bn o y z2) b2 h3.2
          omega
        · have e := hE _ _ _ _ _ hz hz2 hb2 (fun i hi => hg i (by omega))
          subst e
          exact sxp_lpx hs hm hB hE n _ _ _ _ h3.2 h1.2 h hg _
theorem sx_lx {l m : List Tok} : ∀ (F k a : Nat) (t : T) (b : Nat), sx true m F k a = .ok t b → (∀ i, i < b → m[i]? = l[i]?) → ∃ t2 b2, lx l F k a = some (t2, b2) ∧ b ≤ b2
  | 0, _, _, _, _, h, _ => by simp [sx] at h
  | F + 1, k, a, t, b, h, hg => by
    have ih := sx_lx (l := l) (m := m) F
    have hb := sx_bd _ _ _ _ _ h
    have e1 := hg a (by omega)
    rw [sx] at h
    rw [lx, ← isNum_eq e1, ← isA_eq e1, ← isA_eq e1, ← isNm_eq e1, ← numAt_eq e1, ← txtAt_eq e1]
    split
    · rename_i h3
      rw [if_pos h3] at h
      split
      · rename_i h4
        rw [if_pos h4] at h
        cases h; exact ⟨_, _, rfl, Nat.le_refl _⟩
      · rename_i h4
        rw [if_neg h4] at h
        split
        · rename_i h5
          rw [if_pos h5] at h
          have hlt2 : a + 1 < b := by
            split at h
            · simp only [R.ok.injEq] at h; omega
            · split at h
              · cases h
              · rename_i x b1 hy
                have := (sx_bd _ _ _ _ _ hy).1
                rw [dpR_free] at h
                cases h; omega
          have e2 := hg (a + 1) hlt2
          rw [← isNum_eq e2, ← numAt_eq e2]
          split
          · rename_i h6
            rw [if_pos h6] at h
            cases h; exact ⟨_, _, rfl, Nat.le_refl _⟩
          · rename_i h6
            rw [if_neg h6] at h
            split at h
            · cases h
            · rename_i x b1 hy
              rw [dpR_free] at h
              cases h
              obtain ⟨t2, b2, h7, h8⟩ := ih _ _ _ _ hy hg
              rw [h7]
              exact ⟨_, _, rfl, h8⟩
        · rename_i h5
          rw [if_neg h5] at h
          split
          · rename_i h6
            rw [if_pos h6] at h
            split at h
            · rename_i h7
              split at h
              · cases h
              · rename_i x b1 hy
                split at h
                · rename_i h8
                  rw [dpR_free] at h
                  cases h
                  have hb1 := (sx_bd _ _ _ _ _ hy).1
                  obtain ⟨t2, b2, h9, h10⟩ := ih _ _ _ _ hy (fun i hi => hg i (by omega))
                  have e := lx_same hy h9 h10 (fun i hi => hg i (by omega))
                  subst e
                  rw [← isA_eq (hg (a + 1) (by omega)), if_pos h7, h9, inx, ← isA_eq (hg b2 (by omega)), if_pos h8]
                  exact ⟨_, _, rfl, Nat.le_refl _⟩
                · cases h
            · cases h
              split
              · split
                · rename_i x b1 hy
                  obtain ⟨c, h8, h9, rfl⟩ := inx_some hy
                  have := (lx_bd _ _ _ _ _ h8).1
                  exact ⟨_, _, rfl, by omega⟩
                · exact ⟨_, _, rfl, Nat.le_refl _⟩
              · exact ⟨_, _, rfl, Nat.le_refl _⟩
          · rename_i h6
            rw [if_neg h6] at h
            split
            · rename_i h7
              rw [if_pos h7] at h
              split at h
              · cases h
              · rename_i x b1 hy
                split at h
                · rename_i h8
                  cases h
                  have hb1 := (sx_bd _ _ _ _ _ hy).1
                  obtain ⟨t2, b2, h9, h10⟩ := ih _ _ _ _ hy (fun i hi => hg i (by omega))
                  have e := lx_same hy h9 h10 (fun i hi => hg i (by omega))
                  subst e
                  rw [h9, inx, ← isA_eq (hg b2 (by omega)), if_pos h8]
                  exact ⟨_, _, rfl, Nat.le_refl _⟩
                · cases h
            · rename_i h7; rw [if_neg h7] at h; cases h
    · rename_i h3
      rw [if_neg h3] at h
      split at h
      · cases h
      · rename_i x b1 hy
        have h1 := sx_bd _ _ _ _ _ hy
        have h2 := sxp_bd (fun a t b h => sx_bd F (k + 1) a t b h) _ _ _ _ _ h1.2 h
        obtain ⟨x2, b2, h4, h5⟩ := ih _ _ _ _ hy (fun i hi => hg i (by omega))
        have h6 := lx_bd _ _ _ _ _ h4
        rw [h4]
        dsimp only
        refine ⟨_, _, rfl, ?_⟩
        by_cases hbb : b1 = b
        · have := lpx_bd (L := opsL k) (sub := lx l F (k + 1)) (fun a t b h => lx_bd F (k + 1) a t b h) (if k = 0 then 1 else F) x2 b2 h6.2
          omega
        · have e := lx_same hy h4 h5 (fun i hi => hg i (by omega))
          subst e
          exact sxp_lpx (fun a t b h => lx_bd F (k + 1) a t b h) (fun a t b h => sx_bd F (k + 1) a t b h) (fun a t b h hg => ih _ _ _ _ h hg) (fun a t b t2 b2 h h' hle hg => lx_same h h' hle hg) _ _ _ _ _ h6.2 h1.2 h hg _
/-- The beginning of some length is an expression. -/
def whole (l : List Tok) (F n : Nat) : Option T := match sx true (l.take n) F 0 0 with
  | .ok t b => if b = n then some t else none
  | .er _ _ => none
end Go.Proofs.YtamajcgdfjeehaaDoor
end

section
namespace Go.Proofs.YtamajcgdfjeehaaDoor
open Go.Vc
set_option maxHeartbeats 1000000

/-- Behind a place the tokens are these. -/
def Hs (l : List Tok) (a : Nat) (L : List (Int × Int × ByteArray)) : Prop := (l.drop a).map strip = L
theorem Hs.cons {l : List Tok} {a : Nat} {x : Int × Int × ByteArray} {L : List (Int × Int × ByteArray)} (h : Hs l a (x :: L)) : (∃ t, l[a]? = some t ∧ strip t = x) ∧ Hs l (a + 1) L := by
  unfold Hs at h ⊢
  cases hd : l.drop a with
  | nil => rw [hd] at h; cases h
  | cons t m =>
    rw [hd, List.map_cons, List.cons.injEq] at h
    have e : l[a]? = some t := by rw [← List.head?_drop, hd]; rfl
    refine ⟨⟨t, e, h.1⟩, ?_⟩
    rw [show a + 1 = a + 1 from rfl, ← List.drop_drop, hd]
    exact h.2
theorem Hs.app {l : List Tok} {a : Nat} : ∀ {L M : List (Int × Int × ByteArray)}, Hs l a (L ++ M) → Hs l (a + L.length) M
  | [], M, h => h
  | x :: L, M, h => by
    have := Hs.app (a := a + 1) (L := L) (M := M) h.cons.2
    rw [List.length_cons, show a + (L.length + 1) = a + 1 + L.length by omega]
    exact this
theorem hs_num {l : List Tok} {a : Nat} {k n : Int} {s : ByteArray} {L : List (Int × Int × ByteArray)} (h : Hs l a ((k, n, s) :: L)) : isNum l a = decide (k = 2) ∧ numAt l a = n ∧ txtAt l a = s ∧ (∀ w, isA l a w = (!decide (k = 2) && decide (s = w))) ∧ isNm l a = (decide (k = 1) && !hasW s) ∧ ∀ L', opAt l L' a = if k = 3 ∧ (L'.any fun w => decide (w = s)) = true then some (idxW signL s + 1) else none := by
  obtain ⟨⟨t, e, ht⟩, _⟩ := h.cons
  simp only [Prod.mk.injEq] at ht
  obtain ⟨h1, h2, h3⟩ := ht
  unfold isNum numAt txtAt isA isNm opAt
  simp only [e, h1, h2, h3, and_self, implies_true]
theorem hs_end {l : List Tok} {a : Nat} (h : Hs l a []) : (∀ L', opAt l L' a = none) ∧ ∀ w, isA l a w = false := by
  unfold Hs at h
  have e : l[a]? = none := by
    rw [List.map_eq_nil_iff, List.drop_eq_nil_iff] at h
    exact List.getElem?_eq_none h
  unfold opAt isA
  simp [e]
/-- No operator stands at a place. -/
def NoOp (l : List Tok) (b : Nat) : Prop := ∀ j, j ≤ 2 → opAt l (opsL j) b = none
theorem noOp_sg {l : List Tok} {b : Nat} {c : UInt8} {L : List (Int × Int × ByteArray)} (hc : c = 41 ∨ c = 93) (h : Hs l b (sgT c :: L)) : NoOp l b := by
  intro j hj
  rw [(hs_num h).2.2.2.2.2]
  refine if_neg (fun h => ?_)
  have : j = 0 ∨ j = 1 ∨ j = 2 := by omega
  rcases hc with rfl | rfl <;> rcases this with rfl | rfl | rfl <;> exact absurd h.2 (by decide)
theorem sign_lv {o : Int} (h : 1 ≤ o ∧ o ≤ 14) : ∃ j, j ≤ 2 ∧ ((opsL j).any fun w => decide (w = signT o)) = true ∧ (∀ i, i ≤ 2 → i ≠ j → ((opsL i).any fun w => decide (w = signT o)) = false) ∧ idxW signL (signT o) + 1 = o := by
  have key : ∀ o : Fin 15, 1 ≤ o.1 → ∃ j, j ≤ 2 ∧ ((opsL j).any fun w => decide (w = signT (o.1 : Int))) = true ∧ (∀ i, i ≤ 2 → i ≠ j → ((opsL i).any fun w => decide (w = signT (o.1 : Int))) = false) ∧ idxW signL (signT (o.1 : Int)) + 1 = (o.1 : Int) := by
    intro o ho
    have hl : ((opsL 0).any fun w => decide (w = signT (o.1 : Int))) = decide (11 ≤ o.1) ∧ ((opsL 1).any fun w => decide (w = signT (o.1 : Int))) = (decide (o.1 ≤ 2) || decide (o.1 = 7) || decide (o.1 = 8)) ∧ ((opsL 2).any fun w => decide (w = signT (o.1 : Int))) = (decide (3 ≤ o.1 ∧ o.1 ≤ 6) || decide (o.1 = 9) || decide (o.1 = 10)) ∧ idxW signL (signT (o.1 : Int)) + 1 = (o.1 : Int) := by
      revert o
      decide +kernel
    obtain ⟨h0, h1, h2, h3⟩ := hl
    have ho2 := o.2
    have hall : ∀ i, i ≤ 2 → i = 0 ∨ i = 1 ∨ i = 2 := by omega
    by_cases c0 : 11 ≤ o.1
    · refine ⟨0, by omega, by rw [h0]; simpa using c0, fun i hi hn => ?_, h3⟩
      rcases hall i hi with rfl | rfl | rfl
      · exact absurd rfl hn
      · rw [h1]; simp; omega
      · rw [h2]; simp; omega
    · by_cases c1 : o.1 ≤ 2 ∨ o.1 = 7 ∨ o.1 = 8
      · refine ⟨1, by omega, by rw [h1]; simp; omega, fun i hi hn => ?_, h3⟩
        rcases hall i hi with rfl | rfl | rfl
        · rw [h0]; simp; omega
        · exact absurd rfl hn
        · rw [h2]; simp; omega
      · refine ⟨2, by omega, by rw [h2]; simp; omega, fun i hi hn => ?_, h3⟩
        rcases hall i hi with rfl | rfl | rfl
        · rw [h0]; simp; omega
        · rw [h1]; simp; omega
        · exact absurd rfl hn
  have := key ⟨o.toNat, by omega⟩ (by show 1 ≤ o.toNat; omega)
  rw [show ((⟨o.toNat, by omega⟩ : Fin 15).1 : Int) = o by show ((o.toNat : Nat) : Int) = o; omega] at this
  exact this
variable {fr : Bool} {l : List Tok}
theorem sxp_stop {L : List ByteArray} {sub : Nat → R T} {b : Nat} (h : opAt l L b = none) (n : Nat) (x : T) : sxp fr l L sub n x b = .ok x b := by
  cases n with
  | zero => rfl
  | succ n => rw [sxp, h]
theorem sx_up {F k a b : Nat} {x : T} (hk : k < 3) (h : sx fr l F (k + 1) a = .ok x b) (hn : opAt l (opsL k) b = none) : sx fr l (F + 1) k a = .ok x b := by
  rw [sx, if_neg (by omega), h]
  exact sxp_stop hn _ _
/-- From the lowest line up to another. -/
theorem sx_ups {a b : Nat} {x : T} : ∀ (d k F : Nat), k + d = 3 → sx fr l F 3 a = .ok x b → (∀ j, k ≤ j → j ≤ 2 → opAt l (opsL j) b = none) → sx fr l (F + d) k a = .ok x b
  | 0, k, F, hk, h, _ => by
    obtain rfl : k = 3 := by omega
    exact h
  | d + 1, k, F, hk, h, hn => by
    have := sx_ups d (k + 1) F (by omega) h (fun j h1 h2 => hn j (by omega) h2)
    exact sx_up (by omega) this (hn k (Nat.le_refl _) (by omega))
theorem sx_down {a b : Nat} {x : T} : ∀ (j F : Nat), j ≤ 3 → sx fr l F j a = .ok x b → NoOp l b → sx fr l (F + j) 0 a = .ok x b
  | 0, F, _, h, _ => h
  | j + 1, F, hj, h, hn => by
    have h1 := sx_up (by omega) h (hn j (by omega))
    have := sx_down j (F + 1) (by omega) h1 hn
    rw [show F + (j + 1) = F + 1 + j by omega]
    exact this
theorem toks_len (t : T) : 1 ≤ (toksT t).length := by
  cases t <;> unfold toksT
  · split <;> simp
  all_goals simp
theorem sx_toks : ∀ (t : T) (F a : Nat) (R : List (Int × Int × ByteArray)), t.ok → (fr = true ∨ t.dep ≤ 8) → Hs l a (toksT t ++ R) → isA l (a + (toksT t).length) W91 = false → 4 * t.dep ≤ F → sx fr l (F + 1) 3 a = .ok t (a + (toksT t).length)
  | .nu n, F, a, R, h, hd, hs, _, hF => by
    unfold T.ok at h
    unfold toksT at hs ⊢
    unfold T.dep at hF
    by_cases hn : n < 0
    · rw [if_pos hn] at hs ⊢
      simp only [List.cons_append, List.nil_append] at hs
      have s0 := hs_num hs
      have h1 := hs.cons.2
      have s1 := hs_num h1
      have h2 := h1.cons.2
      have s2 := hs_num h2
      have h3 := h2.cons.2
      have s3 := hs_num h3
      have hin : sx fr l (F - 4 + 1) 3 (a + 1) = .ok (.nu n) (a + 1 + 2) := by
        rw [sx, if_pos (by omega), s1.1, if_neg (by decide), s1.2.2.2.1, if_pos (by decide), s2.1, if_pos (by decide), s2.2.1]
        congr 2
        unfold ngI
        rw [Int.neg_neg]
        simp [IntKind.wrap, IntKind.bits, IntKind.signed, IntKind.min, IntKind.max]
        omega
      have hup := sx_ups 3 0 _ rfl hin (fun j _ hj => noOp_sg (.inl rfl) h3 j hj)
      rw [show F = F - 4 + 1 + 3 by omega, sx, if_pos (by omega), s0.1, if_neg (by decide), s0.2.2.2.1, if_neg (by decide), s0.2.2.2.2.1, if_neg (by decide), s0.2.2.2.1, if_pos (by decide), hup]
      simp only
      rw [s3.2.2.2.1, if_pos (by decide)]
      rfl
    · rw [if_neg hn] at hs ⊢
      simp only [List.cons_append, List.nil_append] at hs
      have s0 := hs_num hs
      rw [sx, if_pos (by omega), s0.1, if_pos (by decide), s0.2.1]
      rfl
  | .nm s, F, a, R, h, hd, hs, h91, hF => by
    unfold toksT at hs h91 ⊢
    simp only [List.cons_append, List.nil_append] at hs
    have s0 := hs_num hs
    have hw : hasW s = false := h.2
    rw [sx, if_pos (by omega), s0.1, if_neg (by decide), s0.2.2.2.1, if_neg (by intro hh; simp at hh; have := (isName_parts h.1).2.2.2; rw [hh] at this; exact absurd this (by decide)), s0.2.2.2.2.1, if_pos (by rw [hw]; rfl), if_neg (by rw [show (1 : Nat) = ([(1, 0, s)] : List (Int × Int × ByteArray)).length from rfl, h91]; decide), s0.2.2.1]
    rfl
  | .ix s t, F, a, R, h, hd, hs, _, hF => by
    unfold T.dep at hd hF
    unfold toksT at hs ⊢
    simp only [List.cons_append, List.append_assoc, List.nil_append] at hs
    have s0 := hs_num hs
    have h1 := hs.cons.2
    have s1 := hs_num h1
    have h2 := h1.cons.2
    have h3 := h2.app
    have s3 := hs_num h3
    have hw : hasW s = false := h.1.2
    have hin := sx_toks t (F - 4) (a + 2) (sgT 93 :: R) h.2 (hd.imp id (by omega)) h2 (by rw [s3.2.2.2.1]; decide) (by omega)
    have hup := sx_ups 3 0 _ rfl hin (fun j _ hj => noOp_sg (.inr rfl) h3 j hj)
    rw [show F = F - 4 + 1 + 3 by omega, sx, if_pos (by omega), s0.1, if_neg (by decide), s0.2.2.2.1, if_neg (by intro hh; simp at hh; have := (isName_parts h.1.1).2.2.2; rw [hh] at this; exact absurd this (by decide)), s0.2.2.2.2.1, if_pos (by rw [hw]; rfl), s1.2.2.2.1, if_pos (by decide), hup]
    simp only
    rw [s3.2.2.2.1, if_pos (by decide), s0.2.2.1]
    unfold dpR
    rw [if_neg (by rintro ⟨h1, h2⟩; unfold T.dep at h2; rcases hd with hd | hd; (rw [hd] at h1; cases h1); omega)]
    simp only [List.length_cons, List.length_append, List.length_nil]
    congr 1
    omega
  | .bn o x y, F, a, R, h, hd, hs, _, hF => by
    unfold T.dep at hd hF
    unfold toksT at hs ⊢
    simp only [List.cons_append, List.append_assoc, List.nil_append] at hs
    have s0 := hs_num hs
    have h1 := hs.cons.2
    have h2 := h1.app
    have s2 := hs_num h2
    have h3 := h2.cons.2
    have h4 := h3.app
    have s4 := hs_num h4
    obtain ⟨j, hj, j1, j2, j3⟩ := sign_lv h.1
    have hx := sx_toks x (F - 4) (a + 1) _ h.2.1 (hd.imp id (by omega)) h1 (by
      rw [s2.2.2.2.1]
      rcases op14 h.1 with rfl | rfl | rfl | rfl | rfl | rfl | rfl | rfl | rfl | rfl | rfl | rfl | rfl | rfl <;> decide) (by omega)
    have hy := sx_toks y (F - 4) (a + 1 + (toksT x).length + 1) _ h.2.2 (hd.imp id (by omega)) h3 (by rw [s4.2.2.2.1]; decide) (by omega)
    have nop := noOp_sg (.inl rfl) h4
    have hop : opAt l (opsL j) (a + 1 + (toksT x).length) = some o := by
      rw [s2.2.2.2.2.2, if_pos ⟨rfl, j1⟩, j3]
    have hopn : ∀ i, i ≤ 2 → i ≠ j → opAt l (opsL i) (a + 1 + (toksT x).length) = none := by
      intro i hi hn
      rw [s2.2.2.2.2.2, if_neg (fun hh => by rw [j2 i hi hn] at hh; exact absurd hh.2 (by decide))]
    have hx2 := sx_ups (2 - j) (j + 1) _ (by omega) hx (fun i h1 h2 => hopn i h2 (by omega))
    have hy2 := sx_ups (2 - j) (j + 1) _ (by omega) hy (fun i h1 h2 => nop i h2)
    have hz : sx fr l (F - 4 + 1 + (2 - j) + 1) j (a + 1) = .ok (.bn o x y) (a + 1 + (toksT x).length + 1 + (toksT y).length) := by
      rw [sx, if_neg (by omega), hx2]
      simp only
      obtain ⟨n, hn⟩ : ∃ n, (if j = 0 then 1 else F - 4 + 1 + (2 - j)) = n + 1 := by
        split
        · exact ⟨0, rfl⟩
        · exact ⟨F - 4 + (2 - j), by omega⟩
      rw [hn, sxp, hop]
      simp only
      rw [hy2]
      simp only
      unfold dpR
      rw [if_neg (by rintro ⟨h1, h2⟩; unfold T.dep at h2; rcases hd with hd | hd; (rw [hd] at h1; cases h1); omega)]
      exact sxp_stop (nop j hj) _ _
    have hin := sx_down j _ (by omega) hz nop
    rw [show F = F - 4 + 1 + (2 - j) + 1 + j by omega, sx, if_pos (by omega), s0.1, if_neg (by decide), s0.2.2.2.1, if_neg (by decide), s0.2.2.2.2.1, if_neg (by decide), s0.2.2.2.1, if_pos (by decide), hin]
    simp only
    rw [s4.2.2.2.1, if_pos (by decide)]
    simp only [List.length_cons, List.length_append, List.length_nil]
    congr 1
    omega
end Go.Proofs.YtamajcgdfjeehaaDoor
end

section
namespace Go.Proofs.YtamajcgdfjeehaaDoor
open Go.Vc
set_option maxHeartbeats 1000000

def parT : Nat → ByteArray → ByteArray
  | 0, s => s
  | k + 1, s => ((⟨#[40, 32]⟩ : ByteArray) ++ parT k s) ++ ⟨#[41]⟩
theorem parT_zero (s : ByteArray) : parT 0 s = s := rfl
theorem parT_succ (k : Nat) (s : ByteArray) : parT (k + 1) s = ((⟨#[40, 32]⟩ : ByteArray) ++ parT k s) ++ ⟨#[41]⟩ := rfl
def parTk : Nat → List (Int × Int × ByteArray) → List (Int × Int × ByteArray)
  | 0, L => L
  | k + 1, L => sgT 40 :: (parTk k L ++ [sgT 41])
theorem par_size (s : ByteArray) : ∀ k, (parT k s).size = s.size + 3 * k
  | 0 => rfl
  | k + 1 => by
    rw [parT, ByteArray.size_append, ByteArray.size_append, par_size s k, show (⟨#[40, 32]⟩ : ByteArray).size = 2 from rfl, show (⟨#[41]⟩ : ByteArray).size = 1 from rfl]
    omega
theorem par_len (L : List (Int × Int × ByteArray)) : ∀ k, (parTk k L).length = L.length + 2 * k
  | 0 => rfl
  | k + 1 => by
    rw [parTk, List.length_cons, List.length_append, par_len L k, List.length_cons, List.length_nil]
    omega
theorem open_sp : (⟨#[40, 32]⟩ : ByteArray) = (⟨#[40]⟩ : ByteArray) ++ ⟨#[32]⟩ := by decide
theorem px_par {t : T} (ht : t.ok) : ∀ (k : Nat) (r : ByteArray) (L : List (Int × Int × ByteArray)), endsW r → PX r L → PX (parT k (textT t) ++ r) (parTk k (toksT t) ++ L)
  | 0, r, L, hr, hL => px_text t r L ht hr hL
  | k + 1, r, L, hr, hL => by
    rw [parT, parTk, open_sp]
    simp only [ByteArray.append_assoc, List.cons_append, List.append_assoc, List.nil_append]
    exact px_sg (by decide) (px_sp (px_par ht k _ _ (ends_sg (by decide) _) (px_sg (by decide) hL)))
variable {fr : Bool} {l : List Tok}
theorem sx_par {t : T} (ht : t.ok) (hd : fr = true ∨ t.dep ≤ 8) : ∀ (k F a : Nat) (R : List (Int × Int × ByteArray)), Hs l a (parTk k (toksT t) ++ R) → isA l (a + (parTk k (toksT t)).length) W91 = false → 4 * (t.dep + k) ≤ F → sx fr l (F + 1) 3 a = .ok t (a + (parTk k (toksT t)).length)
  | 0, F, a, R, h, h91, hF => sx_toks t F a R ht hd h h91 hF
  | k + 1, F, a, R, h, _, hF => by
    rw [parTk] at h ⊢
    simp only [List.cons_append, List.append_assoc, List.nil_append] at h
    have s0 := hs_num h
    have h1 := h.cons.2
    have h2 := h1.app
    have s2 := hs_num h2
    have hin := sx_par ht hd k (F - 4) (a + 1) _ h1 (by rw [s2.2.2.2.1]; decide) (by omega)
    have hup := sx_ups 3 0 _ rfl hin (fun j _ hj => noOp_sg (.inl rfl) h2 j hj)
    rw [show F = F - 4 + 1 + 3 by omega, sx, if_pos (by omega), s0.1, if_neg (by decide), s0.2.2.2.1, if_neg (by decide), s0.2.2.2.2.1, if_neg (by decide), s0.2.2.2.1, if_pos (by decide), hup]
    simp only
    rw [s2.2.2.2.1, if_pos (by decide)]
    simp only [List.length_cons, List.length_append, List.length_nil]
    congr 1
    omega
theorem toks_dep : ∀ t : T, t.dep ≤ (toksT t).length
  | .nu n => by have := toks_len (.nu n); simp only [T.dep]; omega
  | .nm s => by simp [T.dep, toksT]
  | .ix s t => by
    have := toks_dep t
    simp only [T.dep, toksT, List.length_cons, List.length_append, List.length_nil]
    omega
  | .bn o a b => by
    have h1 := toks_dep a
    have h2 := toks_dep b
    simp only [T.dep, toksT, List.length_cons, List.length_append, List.length_nil]
    omega
theorem toks_bd : ∀ t : T, (toksT t).length + 4 ≤ 8 * 2 ^ t.dep
  | .nu n => by
    have : (toksT (.nu n)).length ≤ 4 := by unfold toksT; split <;> simp
    simp only [T.dep]
    omega
  | .nm s => by simp [T.dep, toksT]
  | .ix s t => by
    have := toks_bd t
    simp only [T.dep, toksT, List.length_cons, List.length_append, List.length_nil, Nat.pow_succ]
    omega
  | .bn o a b => by
    have h1 := toks_bd a
    have h2 := toks_bd b
    have h3 : 2 ^ a.dep ≤ 2 ^ max a.dep b.dep := Nat.pow_le_pow_right (by decide) (Nat.le_max_left _ _)
    have h4 : 2 ^ b.dep ≤ 2 ^ max a.dep b.dep := Nat.pow_le_pow_right (by decide) (Nat.le_max_right _ _)
    simp only [T.dep, toksT, List.length_cons, List.length_append, List.length_nil, Nat.pow_succ]
    omega
/-- All of an expression's tokens, and no more. -/
theorem lx_whole {t : T} {k : Nat} (ht : t.ok) (hl : l.map strip = parTk k (toksT t)) : lx l (5 * l.length + 4) 0 0 = some (t, l.length) := by
  have hs : Hs l 0 (parTk k (toksT t) ++ []) := by
    unfold Hs
    rw [List.append_nil]
    exact hl
  have hlen : l.length = (parTk k (toksT t)).length := by rw [← hl, List.length_map]
  have h0 := hs.app
  rw [Nat.zero_add] at h0
  obtain ⟨e1, e2⟩ := hs_end h0
  have hd := toks_dep t
  have hpl := par_len (toksT t) k
  have h3 := sx_par (fr := true) ht (.inl rfl) k (5 * l.length) 0 [] hs (by rw [Nat.zero_add]; exact e2 _) (by omega)
  rw [Nat.zero_add, ← hlen] at h3
  rw [← hlen] at e1 e2
  have h4 := sx_ups 3 0 _ rfl h3 (fun j _ _ => e1 _)
  rw [show 5 * l.length + 1 + 3 = 5 * l.length + 4 by omega] at h4
  obtain ⟨t2, b2, g1, g2⟩ := sx_lx (l := l) _ _ _ _ _ h4 (fun _ _ => rfl)
  obtain ⟨_, g3⟩ := lx_bd _ _ _ _ _ g1
  obtain rfl : b2 = l.length := by omega
  have g4 := lx_sx (m := l) _ _ _ _ _ g1 (fun _ _ => rfl) ⟨e2 _, fun _ _ _ => e1 _⟩
  rw [h4] at g4
  simp only [R.ok.injEq, and_true] at g4
  rw [g1, g4]
theorem scan_par {t : T} {k : Nat} (ht : t.ok) (hs : (parT k (textT t)).size ≤ 8192) : ∃ l, scan (parT k (textT t)) = (l, 0, 0) ∧ l.map strip = parTk k (toksT t) := by
  have h := px_par ht k ⟨#[]⟩ [] (.inl rfl) (px_nil rfl)
  rw [List.append_nil, show parT k (textT t) ++ (⟨#[]⟩ : ByteArray) = parT k (textT t) by apply ByteArray.ext; simp] at h
  obtain ⟨l, h1, h2⟩ := h 1
  exact ⟨l, scan_to hs h1, h2⟩
end Go.Proofs.YtamajcgdfjeehaaDoor
end

section
namespace Go.Proofs.YtamajcgdfjeehaaDoor
open Go.Vc
attribute [local irreducible] JL JC JQ OpWp Con ConN Pan ConE OpPan hasW idxW isA isNum isNm numAt txtAt lineAt opAt lx lpx sx sxp dpR
set_option maxHeartbeats 4000000

section
variable {l : List Tok} {a b : Nat} {ln e : Int} {fr : Bool} (hl : l.length ≤ 1000000)
end
end Go.Proofs.YtamajcgdfjeehaaDoor
end

section
namespace Go.Proofs.YtamajcgdfjeehaaDoor
open Go.Vc
attribute [local irreducible] JL JC JQ OpWp Con ConN Pan ConE OpPan hasW idxW isA isNum isNm numAt txtAt lineAt opAt lx lpx
set_option maxHeartbeats 4000000

def need (l : List Tok) (k a : Nat) : Nat := 5 * (l.length - a) + (4 - k)
def LgP (l : List Tok) (F : Nat) : Prop := ∀ (b k a p : Nat), k ≤ 2 → a ≤ l.length → p ≤ l.length → need l (k + 1) a ≤ F → Con Tryd.prog 47 [Ptr b, In .i64 (a : Int), In .i64 (k : Int)] [Pz b l p] (fun K => ∀ q : Nat, q ≤ l.length → K (.row (PFX (lx l F (k + 1) a))) [Pz b l q])
def LtP (l : List Tok) (F : Nat) : Prop := ∀ (b a p : Nat), a ≤ l.length → p ≤ l.length → need l 0 a ≤ F → Con Tryd.prog 27 [Ptr b, In .i64 (a : Int)] [Pz b l p] (fun K => ∀ q : Nat, q ≤ l.length → K (.row (PFX (lx l F 0 a))) [Pz b l q])
def ShP (l : List Tok) (F : Nat) : Prop := ∀ (b a p : Nat), a ≤ l.length → p ≤ l.length → need l 3 a ≤ F → Con Tryd.prog 79 [Ptr b, In .i64 (a : Int)] [Pz b l p] (fun K => ∀ q : Nat, q ≤ l.length → K (.row (PFX (lx l F 3 a))) [Pz b l q])
def InP (l : List Tok) (F : Nat) : Prop := ∀ (b a p : Nat) (w : ByteArray), a ≤ l.length → p ≤ l.length → need l 0 a ≤ F → Con Tryd.prog 111 [Ptr b, In .i64 (a : Int), Str w] [Pz b l p] (fun K => ∀ q : Nat, q ≤ l.length → K (.row (PFX (inx l w (lx l F 0 a)))) [Pz b l q])

section
variable {l : List Tok} (hl : l.length ≤ 1000000)
include hl
theorem inner_step (F : Nat) (hL : LtP l F) : InP l F := by
  intro b a p w ha hp hF
  have con := hL b a p ha hp hF
  refine con_intro Tryd.func111 rfl rfl (Nat.le_of_ble_eq_true rfl) (fun c hc => ?_)
  cases hr : lx l F 0 a with
  | none =>
    rw [hr] at con
    refine R_ (o_ r_ (bl_ r_ r_ (fun bl => T_ (R_ (M_ r_ (M_ r_ (o_ r_ (bt_ [1] rfl rfl (con) (fun pp hpp => o_ r_ (bl_ r_ r_ (fun bl => S_ 0 r_ (T_ (am_ (R_ (M_ r_ (F_ r_ (L_ 0 r_ (N_ r_ ?_))))))))))))))))))
    refine F_ r_ (W_ 1 r_ (T_ (R_ (F_ r_ (L_ 1 r_ (o_ r_ (cd_ r_ (M_ r_ (ai_ r_ r_ b_ (ai_ r_ r_ b_ (ai_ r_ r_ b_ (ai_ r_ r_ b_ (o_ r_ (bp_ r_ r_ r_ (T_ (aq_ r_ r_ (R_ ?_)))))))))))))))))
    exact o_ r_ (bu_ r_ r_ r_ r_ r_ (S_ 2 r_ (T_ (ar_ (aw_ (jq_retRowS rfl rfl rfl rfl 0 rfl (fun K h => h 0 (Nat.zero_le _)) (bc_ 1 r_ sub_end)))))))
  | some tb =>
    obtain ⟨t, c⟩ := tb
    rw [hr] at con
    have hc := lx_bd _ _ _ _ _ hr
    cases hw : isA l c w with
    | true =>
      have hlt := isA_lt hw
      have e : inx l w (some (t, c)) = some (t, c + 1) := by rw [inx, if_pos hw]
      refine R_ (o_ r_ (bl_ r_ r_ (fun bl => T_ (R_ (M_ r_ (M_ r_ (o_ r_ (bt_ [1] rfl rfl (con) (fun pp hpp => o_ r_ (bl_ r_ r_ (fun bl => S_ 0 r_ (T_ (am_ (R_ (M_ r_ (F_ r_ (L_ 0 r_ (N_ r_ ?_))))))))))))))))))
      refine F_ r_ (W_ 1 r_ (T_ (R_ (F_ r_ (L_ 1 r_ (o_ r_ (cd_ r_ (M_ r_ (ah_ r_ r_ b_ (bd_ r_ (ah_ r_ r_ b_ (bd_ r_ (ah_ r_ r_ b_ (bi_ [0] r_ r_ (has_y hl g_ h_) (ah_ r_ r_ b_ (cd_ r_ (o_ r_ (bv_ r_ r_ r_ (T_ (ap_ r_ r_ (as_ ?_)))))))))))))))))))))
      refine al_ (am_ (jc_anyB 7 none rfl k_ k_ (yF_ r_ (aa_ (fun c => cp_ 1 r_ r_ r_ r_ r_ p_) (yM_ r_ (yN_ r_ (yF_ r_ (yL_ 0 r_ (aa_ (fun c => bu_ r_ r_ r_ r_ r_ p_) (ae_ (afin_none (S_ 2 r_ (T_ (ar_ (jq_retRowS rfl rfl rfl rfl 0 rfl (fun K h => by rw [e] at h; exact h (c + 1) g_) ?_)))))))))))))))
      exact bc_ 1 r_ sub_end
    | false =>
      have e : inx l w (some (t, c)) = none := by rw [inx, if_neg (by rw [hw]; decide)]
      refine R_ (o_ r_ (bl_ r_ r_ (fun bl => T_ (R_ (M_ r_ (M_ r_ (o_ r_ (bt_ [1] rfl rfl (con) (fun pp hpp => o_ r_ (bl_ r_ r_ (fun bl => S_ 0 r_ (T_ (am_ (R_ (M_ r_ (F_ r_ (L_ 0 r_ (N_ r_ ?_))))))))))))))))))
      refine F_ r_ (W_ 1 r_ (T_ (R_ (F_ r_ (L_ 1 r_ (o_ r_ (cd_ r_ (M_ r_ (ah_ r_ r_ b_ (bd_ r_ (ah_ r_ r_ b_ (bd_ r_ (ah_ r_ r_ b_ (bi_ [0] r_ r_ (has_n hl g_ h_) (ah_ r_ r_ b_ (cd_ r_ (o_ r_ (bv_ r_ r_ r_ (T_ (aq_ r_ r_ (R_ ?_)))))))))))))))))))))
      exact o_ r_ (bu_ r_ r_ r_ r_ r_ (S_ 2 r_ (T_ (ar_ (aw_ (jq_retRowS rfl rfl rfl rfl 0 rfl (fun K h => by rw [e] at h; exact h c g_) (bc_ 1 r_ sub_end)))))))
theorem shortest_step (F : Nat) (hS : ShP l F) (hI : InP l F) : ShP l (F + 1) := by
  intro b a p ha hp hF
  unfold need at hF
  refine con_intro Tryd.func79 rfl rfl (Nat.le_of_ble_eq_true rfl) (fun c hc => ?_)
  cases h1 : isNum l a with
  | true =>
    have hlt := isNum_lt h1
    have e : lx l (F + 1) 3 a = some (.nu (numAt l a), a + 1) := by rw [lx, if_pos (Nat.le_refl _), if_pos h1]
    refine R_ (o_ r_ (bl_ r_ r_ (fun bl => T_ (R_ (M_ r_ (M_ r_ (N_ r_ (F_ r_ (W_ 1 r_ (T_ (B_ (R_ (M_ r_ (o_ r_ (bi_ [0] r_ r_ (numbered_y g_ h_) (E_ r_ (T_ ?_)))))))))))))))))
    refine aq_ r_ r_ (R_ (M_ r_ (o_ r_ (bi_ [0] r_ r_ (pnum_ok hl g_ h_) (o_ r_ (bu_ r_ r_ r_ r_ r_ (M_ r_ (o_ r_ (bj_ r_ r_ g_ (o_ r_ (bu_ r_ r_ r_ r_ r_ (S_ 1 r_ (T_ (ar_ (az_ (aw_ (jq_row 0 (PFX (some (.nu (numAt l a), a + 1))) rfl ?_ ?_)))))))))))))))))
    · (repeat (first | exact RowLe.nil | refine RowLe.cons (CLe.refl _) ?_ | refine RowLe.cons CLe.nil ?_))
    · exact jq_retRowS rfl rfl rfl rfl 0 rfl (fun K h => by rw [e] at h; exact h (a + 1) g_) (bc_ 1 r_ sub_end)
  | false =>
    have h1' : ¬ isNum l a = true := by rw [h1]; decide
    cases h2 : isA l a W45 with
    | true =>
      have hlt := isA_lt h2
      cases h3 : isNum l (a + 1) with
      | true =>
        have hlt2 := isNum_lt h3
        have e : lx l (F + 1) 3 a = some (.nu (ngI (numAt l (a + 1))), a + 2) := by rw [lx, if_pos (Nat.le_refl _), if_neg h1', if_pos h2, if_pos h3]
        refine R_ (o_ r_ (bl_ r_ r_ (fun bl => T_ (R_ (M_ r_ (M_ r_ (N_ r_ (F_ r_ (W_ 1 r_ (T_ (B_ (R_ (M_ r_ (o_ r_ (bi_ [0] r_ r_ (numbered_n g_ h1) (E_ r_ (T_ ?_)))))))))))))))))
        refine ap_ r_ r_ (R_ (M_ r_ (o_ r_ (bi_ [0] r_ r_ (has_y hl g_ h_) (E_ r_ (T_ (aq_ r_ r_ (am_ (R_ (M_ r_ (o_ r_ (bi_ [0] r_ r_ (numbered_y g_ h3) (T_ (aq_ r_ r_ (R_ (M_ r_ (o_ r_ (bi_ [0] r_ r_ (pnum_ok hl g_ h_) ?_))))))))))))))))))
        refine o_ r_ (ow_negW r_ (o_ r_ (bu_ r_ r_ r_ r_ r_ (M_ r_ (o_ r_ (bj_ r_ r_ g_ (o_ r_ (bu_ r_ r_ r_ r_ r_ (S_ 1 r_ (T_ (ar_ (aw_ (az_ (aw_ (jq_row 0 (PFX (some (.nu (ngI (numAt l (a + 1))), a + 2))) rfl ?_ ?_)))))))))))))))
        · (repeat (first | exact RowLe.nil | refine RowLe.cons (CLe.refl _) ?_ | refine RowLe.cons CLe.nil ?_))
        · exact jq_retRowS rfl rfl rfl rfl 0 rfl (fun K h => by rw [e] at h; exact h (a + 2) g_) (bc_ 1 r_ sub_end)
      | false =>
        have h3' : ¬ isNum l (a + 1) = true := by rw [h3]; decide
        have con := hS b (a + 1) (a + 1) (by omega) (by omega) (by unfold need; omega)
        cases hr : lx l F 3 (a + 1) with
        | none =>
          have e : lx l (F + 1) 3 a = none := by rw [lx, if_pos (Nat.le_refl _), if_neg h1', if_pos h2, if_neg h3', hr]
          rw [hr] at con
          refine R_ (o_ r_ (bl_ r_ r_ (fun bl => T_ (R_ (M_ r_ (M_ r_ (N_ r_ (F_ r_ (W_ 1 r_ (T_ (B_ (R_ (M_ r_ (o_ r_ (bi_ [0] r_ r_ (numbered_n g_ h1) (E_ r_ (T_ ?_)))))))))))))))))
          refine ap_ r_ r_ (R_ (M_ r_ (o_ r_ (bi_ [0] r_ r_ (has_y hl g_ h_) (E_ r_ (T_ (aq_ r_ r_ (am_ (R_ (M_ r_ (o_ r_ (bi_ [0] r_ r_ (numbered_n g_ h3) (T_ (ap_ r_ r_ (as_ (al_ (R_ ?_)))))))))))))))))
          refine M_ r_ (M_ r_ (o_ r_ (bj_ r_ r_ g_ (o_ r_ (bt_ [0] rfl rfl (con) (fun pp hpp => o_ r_ (bl_ r_ r_ (fun bl => S_ 0 r_ (T_ (am_ (R_ (F_ r_ (L_ 0 r_ (T_ (ap_ r_ r_ (as_ (al_ (R_ ?_))))))))))))))))))
          exact A_ 0 r_ (S_ 2 r_ (T_ (ar_ (az_ (aw_ (jq_retRowS rfl rfl rfl rfl 0 rfl (fun K h => by rw [e] at h; exact h pp hpp) (bc_ 2 r_ sub_end)))))))
        | some tb =>
          obtain ⟨t, c⟩ := tb
          have hc := lx_bd _ _ _ _ _ hr
          have e : lx l (F + 1) 3 a = some (.bn 2 (.nu 0) t, c) := by rw [lx, if_pos (Nat.le_refl _), if_neg h1', if_pos h2, if_neg h3', hr]
          rw [hr] at con
          have hB := binaryN_c 2 0 t
          refine R_ (o_ r_ (bl_ r_ r_ (fun bl => T_ (R_ (M_ r_ (M_ r_ (N_ r_ (F_ r_ (W_ 1 r_ (T_ (B_ (R_ (M_ r_ (o_ r_ (bi_ [0] r_ r_ (numbered_n g_ h1) (E_ r_ (T_ ?_)))))))))))))))))
          refine ap_ r_ r_ (R_ (M_ r_ (o_ r_ (bi_ [0] r_ r_ (has_y hl g_ h_) (E_ r_ (T_ (aq_ r_ r_ (am_ (R_ (M_ r_ (o_ r_ (bi_ [0] r_ r_ (numbered_n g_ h3) (T_ (ap_ r_ r_ (as_ (al_ (R_ ?_)))))))))))))))))
          refine M_ r_ (M_ r_ (o_ r_ (bj_ r_ r_ g_ (o_ r_ (bt_ [0] rfl rfl (con) (fun pp hpp => o_ r_ (bl_ r_ r_ (fun bl => S_ 0 r_ (T_ (am_ (R_ (F_ r_ (L_ 0 r_ (T_ (aq_ r_ r_ (an_ (o_ r_ (bu_ r_ r_ r_ r_ r_ (F_ r_ ?_)))))))))))))))))))
          exact o_ r_ (cp_ 0 r_ r_ r_ r_ r_ (o_ r_ (bm_ r_ (hB) (F_ r_ (ag_ (cm_ 0 r_ r_ r_ r_ r_ b_ r_ (T_ (R_ (A_ 0 r_ (S_ 2 r_ (T_ (ar_ (az_ (aw_ (jq_retRowS rfl rfl rfl rfl 0 rfl (fun K h => by rw [e] at h; exact h pp hpp) (bc_ 2 r_ sub_end))))))))))))))))
    | false =>
      have h2' : ¬ isA l a W45 = true := by rw [h2]; decide
      cases h3 : isNm l a with
      | true =>
        have hlt := isNm_lt h3
        cases h4 : isA l (a + 1) W91 with
        | true =>
          have hlt2 := isA_lt h4
          have con := hI b (a + 2) (a + 2) W93 (by omega) (by omega) (by unfold need; omega)
          cases hr : inx l W93 (lx l F 0 (a + 2)) with
          | none =>
            have e : lx l (F + 1) 3 a = some (.nm (txtAt l a), a + 1) := by rw [lx, if_pos (Nat.le_refl _), if_neg h1', if_neg h2', if_pos h3, if_pos h4, hr]
            rw [hr] at con
            refine R_ (o_ r_ (bl_ r_ r_ (fun bl => T_ (R_ (M_ r_ (M_ r_ (N_ r_ (F_ r_ (W_ 1 r_ (T_ (B_ (R_ (M_ r_ (o_ r_ (bi_ [0] r_ r_ (numbered_n g_ h1) (E_ r_ (T_ ?_)))))))))))))))))
            refine ap_ r_ r_ (R_ (M_ r_ (o_ r_ (bi_ [0] r_ r_ (has_n hl g_ h2) (E_ r_ (T_ (ap_ r_ r_ (R_ (M_ r_ (o_ r_ (bi_ [0] r_ r_ (named_y g_ h3) (o_ r_ (cd_ r_ (E_ r_ (T_ (ap_ r_ r_ (as_ (ay_ ?_))))))))))))))))))
            refine al_ (R_ (M_ r_ (o_ r_ (bi_ [0] r_ r_ (pname_ok hl g_ h3) (E_ r_ (T_ (am_ (R_ (M_ r_ (o_ r_ (bi_ [0] r_ r_ (has_y hl g_ h4) (T_ (aq_ r_ r_ (R_ (M_ r_ (M_ r_ (o_ r_ (bj_ r_ r_ g_ ?_))))))))))))))))))
            refine o_ r_ (bt_ [0] rfl rfl (con) (fun pp hpp => o_ r_ (bl_ r_ r_ (fun bl => S_ 0 r_ (T_ (R_ (F_ r_ (L_ 0 r_ (T_ (ap_ r_ r_ (as_ (al_ (R_ (M_ r_ (o_ r_ (bu_ r_ r_ r_ r_ r_ (M_ r_ (o_ r_ (bj_ r_ r_ g_ ?_)))))))))))))))))))
            refine o_ r_ (bu_ r_ r_ r_ r_ r_ (S_ 2 r_ (T_ (ar_ (jq_row 0 (PFX (some (.nm (txtAt l a), a + 1))) rfl ?_ ?_)))))
            · (repeat (first | exact RowLe.nil | refine RowLe.cons (CLe.refl _) ?_ | refine RowLe.cons CLe.nil ?_))
            · exact jq_retRowS rfl rfl rfl rfl 0 rfl (fun K h => by rw [e] at h; exact h pp hpp) (bc_ 2 r_ sub_end)
          | some tb =>
            obtain ⟨t, c⟩ := tb
            have e : lx l (F + 1) 3 a = some (.ix (txtAt l a) t, c) := by rw [lx, if_pos (Nat.le_refl _), if_neg h1', if_neg h2', if_pos h3, if_pos h4, hr]
            rw [hr] at con
            refine R_ (o_ r_ (bl_ r_ r_ (fun bl => T_ (R_ (M_ r_ (M_ r_ (N_ r_ (F_ r_ (W_ 1 r_ (T_ (B_ (R_ (M_ r_ (o_ r_ (bi_ [0] r_ r_ (numbered_n g_ h1) (E_ r_ (T_ ?_)))))))))))))))))
            refine ap_ r_ r_ (R_ (M_ r_ (o_ r_ (bi_ [0] r_ r_ (has_n hl g_ h2) (E_ r_ (T_ (ap_ r_ r_ (R_ (M_ r_ (o_ r_ (bi_ [0] r_ r_ (named_y g_ h3) (o_ r_ (cd_ r_ (E_ r_ (T_ (ap_ r_ r_ (as_ (ay_ ?_))))))))))))))))))
            refine al_ (R_ (M_ r_ (o_ r_ (bi_ [0] r_ r_ (pname_ok hl g_ h3) (E_ r_ (T_ (am_ (R_ (M_ r_ (o_ r_ (bi_ [0] r_ r_ (has_y hl g_ h4) (T_ (aq_ r_ r_ (R_ (M_ r_ (M_ r_ (o_ r_ (bj_ r_ r_ g_ ?_))))))))))))))))))
            refine o_ r_ (bt_ [0] rfl rfl (con) (fun pp hpp => o_ r_ (bl_ r_ r_ (fun bl => S_ 0 r_ (T_ (R_ (F_ r_ (L_ 0 r_ (T_ (aq_ r_ r_ (R_ (M_ r_ (F_ r_ (o_ r_ (cp_ 0 r_ r_ r_ r_ r_ (o_ r_ (bq_ r_ r_ b_ r_ r_ b_ (o_ r_ (bu_ r_ r_ r_ r_ r_ (F_ r_ ?_))))))))))))))))))))
            refine L_ 0 r_ (o_ r_ (bu_ r_ r_ r_ r_ r_ (S_ 2 r_ (T_ (ar_ (aw_ (jq_row 0 (PFX (some (.ix (txtAt l a) t, c))) rfl ?_ ?_)))))))
            · (repeat (first | exact RowLe.nil | refine RowLe.cons (CLe.refl _) ?_ | refine RowLe.cons CLe.nil ?_))
              refine RowLe.cons (CLe.eq (show C.list [t.row'] = C.list [t.row] by rw [T.row_eq])) ?_
              (repeat (first | exact RowLe.nil | refine RowLe.cons (CLe.refl _) ?_ | refine RowLe.cons CLe.nil ?_))
            · exact jq_retRowS rfl rfl rfl rfl 0 rfl (fun K h => by rw [e] at h; exact h pp hpp) (bc_ 2 r_ sub_end)
        | false =>
          have h4' : ¬ isA l (a + 1) W91 = true := by rw [h4]; decide
          have e : lx l (F + 1) 3 a = some (.nm (txtAt l a), a + 1) := by rw [lx, if_pos (Nat.le_refl _), if_neg h1', if_neg h2', if_pos h3, if_neg h4']
          refine R_ (o_ r_ (bl_ r_ r_ (fun bl => T_ (R_ (M_ r_ (M_ r_ (N_ r_ (F_ r_ (W_ 1 r_ (T_ (B_ (R_ (M_ r_ (o_ r_ (bi_ [0] r_ r_ (numbered_n g_ h1) (E_ r_ (T_ ?_)))))))))))))))))
          refine ap_ r_ r_ (R_ (M_ r_ (o_ r_ (bi_ [0] r_ r_ (has_n hl g_ h2) (E_ r_ (T_ (ap_ r_ r_ (R_ (M_ r_ (o_ r_ (bi_ [0] r_ r_ (named_y g_ h3) (o_ r_ (cd_ r_ (E_ r_ (T_ (ap_ r_ r_ (as_ (ay_ ?_))))))))))))))))))
          refine al_ (R_ (M_ r_ (o_ r_ (bi_ [0] r_ r_ (pname_ok hl g_ h3) (E_ r_ (T_ (am_ (R_ (M_ r_ (o_ r_ (bi_ [0] r_ r_ (has_n hl g_ h4) (T_ (ap_ r_ r_ (as_ (al_ (R_ (M_ r_ ?_)))))))))))))))))
          refine o_ r_ (bu_ r_ r_ r_ r_ r_ (M_ r_ (o_ r_ (bj_ r_ r_ g_ (o_ r_ (bu_ r_ r_ r_ r_ r_ (S_ 1 r_ (T_ (ar_ (jq_row 0 (PFX (some (.nm (txtAt l a), a + 1))) rfl ?_ ?_))))))))))
          · (repeat (first | exact RowLe.nil | refine RowLe.cons (CLe.refl _) ?_ | refine RowLe.cons CLe.nil ?_))
          · exact jq_retRowS rfl rfl rfl rfl 0 rfl (fun K h => by rw [e] at h; exact h (a + 1) g_) (bc_ 1 r_ sub_end)
      | false =>
        have h3' : ¬ isNm l a = true := by rw [h3]; decide
        cases h4 : isA l a W40 with
        | true =>
          have hlt2 := isA_lt h4
          have con := hI b (a + 1) (a + 1) W41 (by omega) (by omega) (by unfold need; omega)
          have e : lx l (F + 1) 3 a = inx l W41 (lx l F 0 (a + 1)) := by rw [lx, if_pos (Nat.le_refl _), if_neg h1', if_neg h2', if_neg h3', if_pos h4]
          rw [← e] at con
          cases hr : lx l (F + 1) 3 a with
          | none =>
            rw [hr] at con
            refine R_ (o_ r_ (bl_ r_ r_ (fun bl => T_ (R_ (M_ r_ (M_ r_ (N_ r_ (F_ r_ (W_ 1 r_ (T_ (B_ (R_ (M_ r_ (o_ r_ (bi_ [0] r_ r_ (numbered_n g_ h1) (E_ r_ (T_ ?_)))))))))))))))))
            refine ap_ r_ r_ (R_ (M_ r_ (o_ r_ (bi_ [0] r_ r_ (has_n hl g_ h2) (E_ r_ (T_ (ap_ r_ r_ (R_ (M_ r_ (o_ r_ (bi_ [0] r_ r_ (named_n g_ h3) (o_ r_ (cd_ r_ (E_ r_ (T_ (aq_ r_ r_ (am_ (R_ ?_))))))))))))))))))
            refine M_ r_ (o_ r_ (bi_ [0] r_ r_ (has_y hl g_ h4) (o_ r_ (cd_ r_ (T_ (ap_ r_ r_ (as_ (al_ (R_ (M_ r_ (M_ r_ (o_ r_ (bj_ r_ r_ g_ (o_ r_ (bt_ [0] rfl rfl (con) (fun pp hpp => S_ 1 r_ (T_ (ar_ (az_ ?_)))))))))))))))))))
            exact aw_ (jq_retRowS rfl rfl rfl rfl 0 rfl (fun K h => h pp hpp) (bc_ 1 r_ sub_end))
          | some tb =>
            obtain ⟨t, c⟩ := tb
            rw [hr] at con
            refine R_ (o_ r_ (bl_ r_ r_ (fun bl => T_ (R_ (M_ r_ (M_ r_ (N_ r_ (F_ r_ (W_ 1 r_ (T_ (B_ (R_ (M_ r_ (o_ r_ (bi_ [0] r_ r_ (numbered_n g_ h1) (E_ r_ (T_ ?_)))))))))))))))))
            refine ap_ r_ r_ (R_ (M_ r_ (o_ r_ (bi_ [0] r_ r_ (has_n hl g_ h2) (E_ r_ (T_ (ap_ r_ r_ (R_ (M_ r_ (o_ r_ (bi_ [0] r_ r_ (named_n g_ h3) (o_ r_ (cd_ r_ (E_ r_ (T_ (aq_ r_ r_ (am_ (R_ ?_))))))))))))))))))
            refine M_ r_ (o_ r_ (bi_ [0] r_ r_ (has_y hl g_ h4) (o_ r_ (cd_ r_ (T_ (ap_ r_ r_ (as_ (al_ (R_ (M_ r_ (M_ r_ (o_ r_ (bj_ r_ r_ g_ (o_ r_ (bt_ [0] rfl rfl (con) (fun pp hpp => S_ 1 r_ (T_ (ar_ (az_ ?_)))))))))))))))))))
            exact aw_ (jq_retRowS rfl rfl rfl rfl 0 rfl (fun K h => h pp hpp) (bc_ 1 r_ sub_end))
        | false =>
          have h4' : ¬ isA l a W40 = true := by rw [h4]; decide
          have e : lx l (F + 1) 3 a = none := by rw [lx, if_pos (Nat.le_refl _), if_neg h1', if_neg h2', if_neg h3', if_neg h4']
          refine R_ (o_ r_ (bl_ r_ r_ (fun bl => T_ (R_ (M_ r_ (M_ r_ (N_ r_ (F_ r_ (W_ 1 r_ (T_ (B_ (R_ (M_ r_ (o_ r_ (bi_ [0] r_ r_ (numbered_n g_ h1) (E_ r_ (T_ ?_)))))))))))))))))
          refine ap_ r_ r_ (R_ (M_ r_ (o_ r_ (bi_ [0] r_ r_ (has_n hl g_ h2) (E_ r_ (T_ (ap_ r_ r_ (R_ (M_ r_ (o_ r_ (bi_ [0] r_ r_ (named_n g_ h3) (o_ r_ (cd_ r_ (E_ r_ (T_ (aq_ r_ r_ (am_ (R_ ?_))))))))))))))))))
          exact M_ r_ (o_ r_ (bi_ [0] r_ r_ (has_n hl g_ h4) (o_ r_ (cd_ r_ (T_ (aq_ r_ r_ (R_ (o_ r_ (bu_ r_ r_ r_ r_ r_ (S_ 1 r_ (T_ (ar_ (aw_ (az_ (aw_ (jq_retRowS rfl rfl rfl rfl 0 rfl (fun K h => by rw [e] at h; exact h a g_) (bc_ 1 r_ sub_end)))))))))))))))))
theorem longest_step (F : Nat) (hG : LgP l F) : LtP l (F + 1) := by
  intro b a p ha hp hF
  unfold need at hF
  have con := hG b 0 a p (by omega) ha hp (by unfold need; omega)
  refine con_intro Tryd.func27 rfl rfl (Nat.le_of_ble_eq_true rfl) (fun c hc => ?_)
  cases hr : lx l F 1 a with
  | none =>
    have e : lx l (F + 1) 0 a = none := by rw [lx, if_neg (by omega), hr]
    rw [show 0 + 1 = 1 from rfl, hr] at con
    refine R_ (o_ r_ (bl_ r_ r_ (fun bl => T_ (R_ (M_ r_ (M_ r_ (o_ r_ (bt_ [1] rfl rfl (con) (fun pp hpp => o_ r_ (bl_ r_ r_ (fun bl => S_ 0 r_ (T_ (am_ (R_ (F_ r_ (L_ 0 r_ (o_ r_ (cd_ r_ (T_ ?_)))))))))))))))))))
    exact aq_ r_ r_ (R_ (A_ 0 r_ (S_ 2 r_ (T_ (ar_ (aw_ (jq_retRowS rfl rfl rfl rfl 0 rfl (fun K h => by rw [e] at h; exact h pp hpp) (bc_ 2 r_ sub_end))))))))
  | some tb =>
    obtain ⟨t, c⟩ := tb
    have hc := lx_bd _ _ _ _ _ hr
    rw [show 0 + 1 = 1 from rfl, hr] at con
    cases ho : opAt l cmpL c with
    | none =>
      have e : lx l (F + 1) 0 a = some (t, c) := by rw [lx, if_neg (by omega), hr]; show some (lpx l cmpL (lx l F 1) 1 t c) = _; rw [lpx_none ho]
      refine R_ (o_ r_ (bl_ r_ r_ (fun bl => T_ (R_ (M_ r_ (M_ r_ (o_ r_ (bt_ [1] rfl rfl (con) (fun pp hpp => o_ r_ (bl_ r_ r_ (fun bl => S_ 0 r_ (T_ (am_ (R_ (F_ r_ (L_ 0 r_ (o_ r_ (cd_ r_ (T_ ?_)))))))))))))))))))
      refine ap_ r_ r_ (as_ (al_ (R_ (M_ r_ (F_ r_ (L_ 0 r_ (N_ r_ (F_ r_ (W_ 1 r_ (T_ (am_ (R_ (M_ r_ (o_ r_ (dd_ gl_cmps r_ r_ r_ (o_ r_ (bt_ [] rfl rfl (one_c b cmpL) (fun pp hpp => ?_))))))))))))))))))
      refine o_ r_ (cx_ (cs := [Ptr _, Ptr _]) [0, 0, 0] rfl rfl (fun _ _ => ⟨_, _, rfl, ⟨rfl, rfl⟩, _, _, rfl, ⟨rfl, rfl⟩, rfl⟩) rfl (op1_none hl g_ ho _ _) (E_ r_ (T_ (R_ (M_ r_ (o_ r_ (bx_ r_ r_ (T_ (ap_ r_ r_ (as_ (al_ (R_ (A_ 3 r_ (S_ 4 r_ (T_ (ar_ (jq_retRowS rfl rfl rfl rfl 0 rfl (fun K h => by rw [e] at h; exact h c g_) ?_)))))))))))))))))
      exact bc_ 3 r_ sub_end
    | some o =>
      have ho0 : ¬ o = 0 := opAt_pos (k := 0) ho
      have hlt := opAt_lt ho
      have con2 := hG b 0 (c + 1) (c + 1) (by omega) (by omega) (by omega) (by unfold need; omega)
      cases hr2 : lx l F 1 (c + 1) with
      | none =>
        have e : lx l (F + 1) 0 a = some (t, c) := by rw [lx, if_neg (by omega), hr]; show some (lpx l cmpL (lx l F 1) 1 t c) = _; rw [lpx_stop hr2]
        rw [show 0 + 1 = 1 from rfl, hr2] at con2
        refine R_ (o_ r_ (bl_ r_ r_ (fun bl => T_ (R_ (M_ r_ (M_ r_ (o_ r_ (bt_ [1] rfl rfl (con) (fun pp hpp => o_ r_ (bl_ r_ r_ (fun bl => S_ 0 r_ (T_ (am_ (R_ (F_ r_ (L_ 0 r_ (o_ r_ (cd_ r_ (T_ ?_)))))))))))))))))))
        refine ap_ r_ r_ (as_ (al_ (R_ (M_ r_ (F_ r_ (L_ 0 r_ (N_ r_ (F_ r_ (W_ 1 r_ (T_ (am_ (R_ (M_ r_ (o_ r_ (dd_ gl_cmps r_ r_ r_ (o_ r_ (bt_ [] rfl rfl (one_c b cmpL) (fun pp hpp => ?_))))))))))))))))))
        refine o_ r_ (cx_ (cs := [Ptr _, Ptr _]) [0, 0, 0] rfl rfl (fun _ _ => ⟨_, _, rfl, ⟨rfl, rfl⟩, _, _, rfl, ⟨rfl, rfl⟩, rfl⟩) rfl (op1_some hl g_ ho _ _) (E_ r_ (T_ (R_ (M_ r_ (o_ r_ (bx_ r_ r_ (T_ (aq_ r_ u_ (R_ (M_ r_ (M_ r_ (N_ r_ (F_ r_ (L_ 2 r_ (o_ r_ (bt_ [2] rfl rfl (con2) (fun pp hpp => o_ r_ (bl_ r_ r_ (fun bl => ?_))))))))))))))))))))
        exact S_ 0 r_ (T_ (R_ (F_ r_ (L_ 0 r_ (T_ (ap_ r_ r_ (as_ (al_ (R_ (A_ 4 r_ (S_ 5 r_ (T_ (ar_ (jq_retRowS rfl rfl rfl rfl 0 rfl (fun K h => by rw [e] at h; exact h pp hpp) (bc_ 2 r_ sub_end)))))))))))))))
      | some tb =>
        obtain ⟨u, d⟩ := tb
        have hc2 := lx_bd _ _ _ _ _ hr2
        have e : lx l (F + 1) 0 a = some (.bn o t u, d) := by rw [lx, if_neg (by omega), hr]; show some (lpx l cmpL (lx l F 1) 1 t c) = _; rw [lpx_go ho hr2, lpx]
        rw [show 0 + 1 = 1 from rfl, hr2] at con2
        refine R_ (o_ r_ (bl_ r_ r_ (fun bl => T_ (R_ (M_ r_ (M_ r_ (o_ r_ (bt_ [1] rfl rfl (con) (fun pp hpp => o_ r_ (bl_ r_ r_ (fun bl => S_ 0 r_ (T_ (am_ (R_ (F_ r_ (L_ 0 r_ (o_ r_ (cd_ r_ (T_ ?_)))))))))))))))))))
        refine ap_ r_ r_ (as_ (al_ (R_ (M_ r_ (F_ r_ (L_ 0 r_ (N_ r_ (F_ r_ (W_ 1 r_ (T_ (am_ (R_ (M_ r_ (o_ r_ (dd_ gl_cmps r_ r_ r_ (o_ r_ (bt_ [] rfl rfl (one_c b cmpL) (fun pp hpp => ?_))))))))))))))))))
        refine o_ r_ (cx_ (cs := [Ptr _, Ptr _]) [0, 0, 0] rfl rfl (fun _ _ => ⟨_, _, rfl, ⟨rfl, rfl⟩, _, _, rfl, ⟨rfl, rfl⟩, rfl⟩) rfl (op1_some hl g_ ho _ _) (E_ r_ (T_ (R_ (M_ r_ (o_ r_ (bx_ r_ r_ (T_ (aq_ r_ u_ (R_ (M_ r_ (M_ r_ (N_ r_ (F_ r_ (L_ 2 r_ (o_ r_ (bt_ [2] rfl rfl (con2) (fun pp hpp => o_ r_ (bl_ r_ r_ (fun bl => ?_))))))))))))))))))))
        refine S_ 0 r_ ?_; refine T_ ?_; refine R_ ?_; refine F_ r_ ?_; refine L_ 0 r_ ?_; refine T_ ?_; refine aq_ r_ r_ ?_; refine am_ ?_; refine jc_anyB 9 none rfl k_ k_ ?_; refine yM_ r_ ?_; refine yF_ r_ ?_; refine aa_ (fun c => cp_ 4 r_ r_ r_ r_ r_ p_) ?_; refine yF_ r_ ?_; refine aa_ (fun c => cp_ 0 r_ r_ r_ r_ r_ p_) ?_; refine aa_ (fun c => bm_ r_ (binary_c o t u) p_) ?_; refine yF_ r_ ?_
        exact yL_ 0 r_ (aa_ (fun c => bu_ r_ r_ r_ r_ r_ p_) (ae_ (afin_none (S_ 5 r_ (T_ (ar_ (aw_ (jq_retRowS rfl rfl rfl rfl 0 rfl (fun K h => by rw [e] at h; exact h pp hpp) (bc_ 2 r_ sub_end)))))))))
omit hl in
theorem longer_top (F : Nat) (hS : ShP l F) (b a p : Nat) (ha : a ≤ l.length) (hp : p ≤ l.length) (hF : need l 3 a ≤ F) : Con Tryd.prog 47 [Ptr b, In .i64 (a : Int), In .i64 ((2 : Nat) : Int)] [Pz b l p] (fun K => ∀ q : Nat, q ≤ l.length → K (.row (PFX (lx l F 3 a))) [Pz b l q]) := by
  have con := hS b a p ha hp hF
  refine con_intro Tryd.func47 rfl rfl (Nat.le_of_ble_eq_true rfl) (fun c hc => ?_)
  cases hr : lx l F 3 a with
  | none =>
    rw [hr] at con
    refine R_ (o_ r_ (bl_ r_ r_ (fun bl => T_ (am_ (R_ (M_ r_ (o_ r_ (bn_ r_ r_ (T_ (aq_ r_ x_ (R_ (M_ r_ (M_ r_ (o_ r_ (bt_ [1] rfl rfl (con) (fun pp hpp => S_ 1 r_ (T_ (ar_ ?_))))))))))))))))))
    exact aw_ (jq_retRowS rfl rfl rfl rfl 0 rfl (fun K h => h pp hpp) (bc_ 1 r_ sub_end))
  | some tb =>
    obtain ⟨t, c⟩ := tb
    rw [hr] at con
    refine R_ (o_ r_ (bl_ r_ r_ (fun bl => T_ (am_ (R_ (M_ r_ (o_ r_ (bn_ r_ r_ (T_ (aq_ r_ x_ (R_ (M_ r_ (M_ r_ (o_ r_ (bt_ [1] rfl rfl (con) (fun pp hpp => S_ 1 r_ (T_ (ar_ ?_))))))))))))))))))
    exact aw_ (jq_retRowS rfl rfl rfl rfl 0 rfl (fun K h => h pp hpp) (bc_ 1 r_ sub_end))
theorem longer_step (F k b a p : Nat) (hk : k ≤ 1) (hG : ∀ a p, a ≤ l.length → p ≤ l.length → need l (k + 2) a ≤ F → Con Tryd.prog 47 [Ptr b, In .i64 (a : Int), In .i64 ((k + 1 : Nat) : Int)] [Pz b l p] (fun K => ∀ q : Nat, q ≤ l.length → K (.row (PFX (lx l F (k + 2) a))) [Pz b l q]))
    (ha : a ≤ l.length) (hp : p ≤ l.length) (hF : need l (k + 1) a ≤ F + 1) : Con Tryd.prog 47 [Ptr b, In .i64 (a : Int), In .i64 (k : Int)] [Pz b l p] (fun K => ∀ q : Nat, q ≤ l.length → K (.row (PFX (lx l (F + 1) (k + 1) a))) [Pz b l q]) := by
  unfold need at hF
  have con := hG a p ha hp (by unfold need; omega)
  have hk2 : ¬ (k : Int) = 2 := by omega
  refine con_intro Tryd.func47 rfl rfl (Nat.le_of_ble_eq_true rfl) (fun c hc => ?_)
  cases hr : lx l F (k + 2) a with
  | none =>
    have e : lx l (F + 1) (k + 1) a = none := by rw [lx, if_neg (by omega), hr]
    rw [hr] at con
    refine R_ (o_ r_ (bl_ r_ r_ (fun bl => T_ (am_ (R_ (M_ r_ (o_ r_ (bn_ r_ r_ (T_ (ap_ r_ w_ (as_ (al_ (R_ (M_ r_ (M_ r_ (M_ r_ (o_ r_ (bj_ r_ r_ g_ ?_))))))))))))))))))
    refine o_ r_ (bt_ [1] rfl rfl (con) (fun pp hpp => o_ r_ (bl_ r_ r_ (fun bl => S_ 0 r_ (T_ (B_ ?_))))))
    rename_i bR
    refine jc_loopS (ι := Unit) [] (fun _ => True) (fun _ => [(0, Ptr b), (2, In .i64 (k : Int)), (6, Ptr bR), (7, Ptr bl)]) (fun _ => [.blk bR 69 (PFX none), .blk bl 69 (PFX none), Pz b l pp]) (fun _ => 0) () trivial ?_ ?_ ?_
    · exact bc_ 2 r_ (bc_ 0 r_ (bc_ 0 r_ sub_end))
    · (repeat (first | exact True.intro | refine ⟨rfl, ?_⟩))
    · intro _ _
      refine jc_reset [(0, Ptr b), (2, In .i64 (k : Int)), (6, Ptr bR), (7, Ptr bl)] [.blk bR 69 (PFX none), .blk bl 69 (PFX none), Pz b l pp] ?_ ⟨[0, 0, 0], [], rfl⟩ ?_
      · (repeat (first | exact True.intro | refine ⟨rfl, ?_⟩))
      refine am_ (R_ (F_ r_ (L_ 1 r_ (T_ (ap_ r_ r_ (av_ (ax_ (ax_ (ba_ (al_ (R_ (A_ 1 r_ (S_ 0 r_ (T_ (ar_ ?_)))))))))))))))
      exact jq_retRowS rfl rfl rfl rfl 0 rfl (fun K h => by rw [e] at h; exact h pp hpp) (bc_ 2 r_ sub_end)
  | some tb =>
    obtain ⟨t0, c0⟩ := tb
    have hc0 := lx_bd _ _ _ _ _ hr
    have e : lx l (F + 1) (k + 1) a = some (lpx l (opsL (k + 1)) (lx l F (k + 2)) F t0 c0) := by rw [lx, if_neg (by omega), hr, if_neg (Nat.succ_ne_zero k)]
    rw [hr] at con
    refine R_ (o_ r_ (bl_ r_ r_ (fun bl => T_ (am_ (R_ (M_ r_ (o_ r_ (bn_ r_ r_ (T_ (ap_ r_ w_ (as_ (al_ (R_ (M_ r_ (M_ r_ (M_ r_ (o_ r_ (bj_ r_ r_ g_ ?_))))))))))))))))))
    refine o_ r_ (bt_ [1] rfl rfl (con) (fun pp hpp => o_ r_ (bl_ r_ r_ (fun bl => S_ 0 r_ (T_ (B_ ?_))))))
    rename_i bR
    refine jc_loopS (ι := T × Nat × Nat × Nat) [] (fun i => (a ≤ i.2.1 ∧ i.2.1 ≤ l.length) ∧ l.length - i.2.1 ≤ i.2.2.1 ∧ i.2.2.2 ≤ l.length ∧ lpx l (opsL (k + 1)) (lx l F (k + 2)) F t0 c0 = lpx l (opsL (k + 1)) (lx l F (k + 2)) i.2.2.1 i.1 i.2.1)
      (fun _ => [(0, Ptr b), (2, In .i64 (k : Int)), (6, Ptr bR), (7, Ptr bl)]) (fun i => [.blk bR 69 (PFX none), .blk bl 69 (PFX (some (i.1, i.2.1))), Pz b l i.2.2.2]) (fun i => l.length - i.2.1) (t0, c0, F, pp) ⟨⟨by dsimp only; omega, hc0.2⟩, by dsimp only; omega, hpp, rfl⟩ ?_ ?_ ?_
    · exact bc_ 2 r_ (bc_ 0 r_ (bc_ 0 r_ sub_end))
    · (repeat (first | exact True.intro | refine ⟨rfl, ?_⟩))
    · rintro ⟨t, c, n, q⟩ ⟨⟨hac, hcl⟩, hn, hq, hi⟩
      dsimp only at hac hcl hn hq hi ⊢
      clear hpp
      refine jc_reset [(0, Ptr b), (2, In .i64 (k : Int)), (6, Ptr bR), (7, Ptr bl)] [.blk bR 69 (PFX none), .blk bl 69 (PFX (some (t, c))), Pz b l q] ?_ ⟨[0, 0, 0], [], rfl⟩ ?_
      · (repeat (first | exact True.intro | refine ⟨rfl, ?_⟩))
      refine am_ (R_ (F_ r_ (L_ 1 r_ (T_ (aq_ r_ r_ (as_ (al_ (au_ (R_ (M_ r_ (F_ r_ (L_ 1 r_ (N_ r_ (F_ r_ (W_ 2 r_ ?_)))))))))))))))
      refine T_ (R_ (M_ r_ (M_ r_ (o_ r_ (de_ (n := 2) (e := 36) r_ r_ r_ g_ g_ (o_ r_ (dd_ (e := .list ((opsL (k + 1)).map Wrow)) gl_lines rfl rfl (by rcases (show k = 0 ∨ k = 1 by omega) with rfl | rfl <;> rfl) ?_)))))))
      cases ho : opAt l (opsL (k + 1)) c with
      | none =>
        rw [lpx_none ho] at hi
        refine o_ r_ (bt_ [] rfl rfl (one_c b (opsL (k + 1))) (fun pp hpp => o_ r_ (cx_ (cs := [Ptr _, Ptr _]) [0, 0, 0] rfl rfl (fun _ _ => ⟨_, _, rfl, ⟨rfl, rfl⟩, _, _, rfl, ⟨rfl, rfl⟩, rfl⟩) rfl (op1_none hl g_ ho _ _) (E_ r_ (T_ (am_ (R_ (M_ r_ (o_ r_ (bn_ r_ r_ (T_ (aq_ r_ x_ (av_ (ax_ (bb_ r_ (ax_ (ba_ (al_ ?_))))))))))))))))))
        exact R_ (A_ 4 r_ (S_ 3 r_ (T_ (ar_ (jq_retRowS rfl rfl rfl rfl 0 rfl (fun K h => by rw [e, hi] at h; exact h c hcl) (bc_ 3 r_ sub_end))))))
      | some o =>
        have ho0 : ¬ o = 0 := opAt_pos ho
        have hlt := opAt_lt ho
        have con2 := hG (c + 1) (c + 1) (by omega) (by omega) (by unfold need; omega)
        cases hr2 : lx l F (k + 2) (c + 1) with
        | none =>
          rw [lpx_stop hr2] at hi
          rw [hr2] at con2
          refine o_ r_ (bt_ [] rfl rfl (one_c b (opsL (k + 1))) (fun pp hpp => o_ r_ (cx_ (cs := [Ptr _, Ptr _]) [0, 0, 0] rfl rfl (fun _ _ => ⟨_, _, rfl, ⟨rfl, rfl⟩, _, _, rfl, ⟨rfl, rfl⟩, rfl⟩) rfl (op1_some hl g_ ho _ _) (E_ r_ (T_ (am_ (R_ (M_ r_ (o_ r_ (bn_ r_ r_ (T_ (ap_ r_ w_ (as_ (al_ (R_ (M_ r_ (M_ r_ (N_ r_ ?_))))))))))))))))))
          refine F_ r_ (L_ 2 r_ (M_ r_ (o_ r_ (bj_ r_ r_ g_ (o_ r_ (bt_ [2] rfl rfl (con2) (fun pp hpp => o_ r_ (bl_ r_ r_ (fun bl => S_ 0 r_ (T_ (am_ (R_ (F_ r_ (L_ 0 r_ (o_ r_ (cd_ r_ (T_ (aq_ r_ r_ (av_ ?_)))))))))))))))))))
          exact ax_ (bb_ r_ (ax_ (ba_ (al_ (R_ (A_ 5 r_ (S_ 4 r_ (T_ (ar_ (jq_retRowS rfl rfl rfl rfl 0 rfl (fun K h => by rw [e, hi] at h; exact h pp hpp) (bc_ 2 r_ sub_end)))))))))))
        | some tb =>
          obtain ⟨u, d⟩ := tb
          have hc2 := lx_bd _ _ _ _ _ hr2
          rw [hr2] at con2
          obtain ⟨n, rfl⟩ : ∃ m, n = m + 1 := ⟨n - 1, by omega⟩
          rw [lpx_go ho hr2] at hi
          refine o_ r_ (bt_ [] rfl rfl (one_c b (opsL (k + 1))) (fun pp hpp => o_ r_ (cx_ (cs := [Ptr _, Ptr _]) [0, 0, 0] rfl rfl (fun _ _ => ⟨_, _, rfl, ⟨rfl, rfl⟩, _, _, rfl, ⟨rfl, rfl⟩, rfl⟩) rfl (op1_some hl g_ ho _ _) (E_ r_ (T_ (am_ (R_ (M_ r_ (o_ r_ (bn_ r_ r_ (T_ (ap_ r_ w_ (as_ (al_ (R_ (M_ r_ (M_ r_ (N_ r_ ?_))))))))))))))))))
          refine F_ r_ (L_ 2 r_ (M_ r_ (o_ r_ (bj_ r_ r_ g_ (o_ r_ (bt_ [2] rfl rfl (con2) (fun pp hpp => o_ r_ (bl_ r_ r_ (fun bl => S_ 0 r_ (T_ (am_ (R_ (F_ r_ (L_ 0 r_ (o_ r_ (cd_ r_ (T_ (ap_ r_ r_ (as_ ?_)))))))))))))))))))
          refine al_ ?_; refine jc_anyB 9 none rfl k_ k_ ?_; refine yM_ r_ ?_; refine yF_ r_ ?_; refine aa_ (fun c => cp_ 5 r_ r_ r_ r_ r_ p_) ?_; refine yF_ r_ ?_; refine aa_ (fun c => cp_ 0 r_ r_ r_ r_ r_ p_) ?_; refine aa_ (fun c => bm_ r_ (binary_c o t u) p_) ?_; refine yF_ r_ ?_; refine yL_ 0 r_ ?_; refine aa_ (fun c => bu_ r_ r_ r_ r_ r_ p_) ?_; refine ae_ ?_; refine afin_none ?_; refine S_ 5 r_ ?_; refine ak_ ?_; refine ay_ ?_
          refine jq_againS (i := (t, c, n + 1, q)) ((T.bn o t u, d, n, pp) : T × Nat × Nat × Nat) ⟨⟨by dsimp only; omega, hc2.2⟩, by dsimp only; omega, hpp, hi⟩ (by dsimp only; omega) ?_ ?_
          · exact bc_ 5 r_ (bc_ 0 r_ (bc_ 1 r_ sub_end))
          · (repeat (first | exact True.intro | refine ⟨rfl, ?_⟩))
/-- All of it. -/
theorem long_all : ∀ F : Nat, ShP l F ∧ LtP l F ∧ LgP l F
  | 0 => ⟨fun b a p ha hp h => absurd h (by unfold need; omega), fun b a p ha hp h => absurd h (by unfold need; omega), fun b k a p hk ha hp h => absurd h (by unfold need; omega)⟩
  | F + 1 => by
    obtain ⟨h1, h2, h3⟩ := long_all F
    have i1 := inner_step hl F h2
    have s1 := shortest_step hl F h1 i1
    refine ⟨s1, longest_step hl F h3, ?_⟩
    intro b k a p hk ha hp hF
    rcases (show k = 0 ∨ k = 1 ∨ k = 2 by omega) with rfl | rfl | rfl
    · exact longer_step hl F 0 b a p g_ (fun a p ha hp h => h3 b 1 a p g_ ha hp h) ha hp hF
    · exact longer_step hl F 1 b a p g_ (fun a p ha hp h => h3 b 2 a p g_ ha hp h) ha hp hF
    · exact longer_top (F + 1) s1 b a p ha hp hF
end
end Go.Proofs.YtamajcgdfjeehaaDoor
end

section
namespace Go.Proofs.YtamajcgdfjeehaaDoor
open Go.Vc
attribute [local irreducible] JL JC JQ OpWp Con ConN Pan ConE OpPan hasW idxW isA isNum isNm numAt txtAt lineAt opAt lx lpx sx sxp dpR
set_option maxHeartbeats 4000000

abbrev Z5 : List C := [.val (.int .i64 0), .val (.int .i64 0), .val (.string ⟨#[]⟩), .val (.int .i64 0), .val (.slice none 0 0)]
section
variable {l : List Tok} {a b : Nat} {ln e : Int} {fr : Bool} (hl : l.length ≤ 1000000)
end
end Go.Proofs.YtamajcgdfjeehaaDoor
end
