/- What is proved: TokenPrograms of the package timeboundlaw02 returns true for all its arguments, and its arguments read as before. The card ties the listed tables (uint64pow10 and two of math/bits) to the program's text. -/
import Derived.Test.YtamajcgdfjeehaaDoorMt3
import Derived.Lib.ItoaLen
import Derived.Lib.AppendStr
import Derived.Test.YtamajcgdfjeehaaDoorProg
import Derived.Shelf.Strconv.Itoa3
import Derived.ProofKit
import Derived.OpenShut
import Derived.Carry
import Derived.Test.YtamajcgdfjeehaaDoorCards
import Derived.Test.YtamajcgdfjeehaaDoorTie
import Derived.WalkKit
import Derived.LaidMore
import Derived.Stop.Joined
import Derived.Stop.LaidErr
import Derived.Deep.DeepHandedRow
import Derived.Lib.LaidTab
import Derived.Lib.SmallJoins
import Derived.Deep.DeepWitnessRowRef
section
namespace Go.Proofs.YtamajcgdfjeehaaDoor
open Go.Vc
attribute [local irreducible] JL JC JQ OpWp Con ConN
attribute [local irreducible] byteAt runLen isL isD isName hasW nameB smallB plainB shpF
set_option maxHeartbeats 4000000

def inB (x : Inp) : Bool := nameB x.1 && smallB x.2.1 && smallB x.2.2
def arB (x : Arr) : Bool := nameB x.1 && plainB x.2
def mdB (x : Md) : Bool := nameB x.1 && nameB x.2.1 && smallB x.2.2.1 && smallB x.2.2.2
def clB (x : Clm) : Bool := plainB x.1 && plainB x.2
def shB (x : Shd) : Bool := nameB x.1 && plainB x.2.1 && nameB x.2.2
def hdB (t : Tk) : Bool := nameB t.name && plainB t.period && plainB t.deadline && plainB t.priority && plainB t.jitter
def okTk (t : Tk) : Bool := hdB t && okSs 20 t.body && t.inputs.all inB && t.vars.all nameB && t.arrays.all arB && t.modes.all mdB && t.claims.all clB
def okPg (p : Pg) : Bool := p.res.all nameB && p.shared.all shB && p.tasks.all okTk
theorem rtaskB_c (t : Tk) : Con Tryd.prog 96 [.row t.row] [] (fun K => K (Bl (okTk t)) []) := by
  have hS := rstmtsB_c 20 t.body (by omega)
  refine con_intro Tryd.func96 rfl rfl (Nat.le_of_ble_eq_true rfl) (fun c hc => R_ (o_ r_ (ci_ r_ (fun bx => E_ r_ (T_ (am_ (R_ (F_ r_ (L_ 0 r_ (o_ r_ (bm_ r_ (rnameB_c _) (o_ r_ (cd_ r_ (M_ r_ (jl_or 4 4 rfl rfl rfl rfl (nb rfl) ?_)))))))))))))))
  apply Exists.intro
  refine ⟨fun hb1 => ?_, ?_⟩
  exact ah_ r_ h_ b_ (bf_ r_ r_ r_ b_ (ah_ r_ h_ b_ (bg_ 0 r_ r_ r_ r_ (ah_ r_ h_ b_ (bm_ r_ (rplainB_c _) (ah_ r_ h_ b_ (cd_ r_ (ak_ (jq_seg 4 rfl rfl rfl (List.Perm.refl _))))))))))
  refine M_ r_ (jl_or 4 10 rfl rfl rfl rfl (nb rfl) ?_)
  apply Exists.intro
  refine ⟨fun hb1 => ?_, ?_⟩
  exact ah_ r_ h_ b_ (bf_ r_ r_ r_ b_ (ah_ r_ h_ b_ (bg_ 0 r_ r_ r_ r_ (ah_ r_ h_ b_ (bm_ r_ (rplainB_c _) (ah_ r_ h_ b_ (cd_ r_ (ak_ (jq_seg 4 rfl rfl rfl (List.Perm.refl _))))))))))
  refine M_ r_ (jl_or 4 16 rfl rfl rfl rfl (nb rfl) ?_)
  apply Exists.intro
  refine ⟨fun hb1 => ?_, ?_⟩
  exact ah_ r_ h_ b_ (bf_ r_ r_ r_ b_ (ah_ r_ h_ b_ (bg_ 0 r_ r_ r_ r_ (ah_ r_ h_ b_ (bm_ r_ (rplainB_c _) (ah_ r_ h_ b_ (cd_ r_ (ak_ (jq_seg 4 rfl rfl rfl (List.Perm.refl _))))))))))
  refine M_ r_ (jl_or 4 22 rfl rfl rfl rfl (nb rfl) ?_)
  apply Exists.intro
  refine ⟨fun hb1 => ?_, ?_⟩
  exact ah_ r_ h_ b_ (bf_ r_ r_ r_ b_ (ah_ r_ h_ b_ (bg_ 0 r_ r_ r_ r_ (ah_ r_ h_ b_ (bm_ r_ (rplainB_c _) (ah_ r_ h_ b_ (cd_ r_ (ak_ (jq_seg 4 rfl rfl rfl (List.Perm.refl _))))))))))
  refine M_ r_ (jl_or 4 28 rfl rfl rfl rfl (nb rfl) ?_)
  apply Exists.intro
  refine ⟨fun hb1 => ?_, ?_⟩
  exact ah_ r_ h_ b_ (bf_ r_ r_ r_ b_ (ah_ r_ h_ b_ (bg_ 0 r_ r_ r_ r_ (ah_ r_ h_ b_ (bm_ r_ (hS) (ah_ r_ h_ b_ (cd_ r_ (ak_ (jq_seg 4 rfl rfl rfl (List.Perm.refl _))))))))))
  refine T_ (jc_cond rfl (fun hn => ?_) (fun hy => ?_))
  · have hp : (hdB t && okSs 20 t.body) = false := by
      cases hcs : (hdB t && okSs 20 t.body) with
      | false => rfl
      | true =>
        exfalso
        simp only [hdB, Bool.and_eq_true] at hcs
        simp [hcs] at hn
    have hres : okTk t = false := by unfold okTk; rw [hp]; rfl
    refine R_ (E_ r_ (T_ (ar_ (aw_ (jq_ret1 rfl rfl [] rfl (fun K h => by rw [hres] at h; exact h))))))
  have h0 : (hdB t && okSs 20 t.body) = true := by simpa [hdB, and_assoc] using hy
  clear hy
  refine as_ (al_ (am_ (jc_cut (ι := Unit) [] (fun _ => (t.inputs).all inB = true) (fun _ => [(1, .cell (.val (.pointer (some ⟨bx, 0, none⟩))))]) (fun _ => [.blk bx 50 t.row]) ?_ ?_)))
  · refine R_ (E_ r_ (T_ (au_ (jc_loopS (ι := Nat) [] (fun k => k ≤ (t.inputs).length ∧ ((t.inputs).take k).all inB = true) (fun k => (3, In .i64 (k : Int)) :: [(1, .cell (.val (.pointer (some ⟨bx, 0, none⟩))))]) (fun _ => [.blk bx 50 t.row]) (fun k => (t.inputs).length - k) 0 ⟨Nat.zero_le _, rfl⟩ ?_ ?_ ?_))))
    · exact bc_ 0 r_ sub_end
    · (repeat (first | exact True.intro | refine ⟨rfl, ?_⟩))
    rintro k ⟨hk, hall⟩
    have eL : ((t.inputs).map InRow).length = (t.inputs).length := List.length_map _
    by_cases hlt : k < (t.inputs).length
    · have hlt2 : (k : Int) < (((t.inputs).map InRow).length : Int) := by omega
      refine am_ (R_ (M_ r_ (F_ r_ (L_ 0 r_ (o_ r_ (br_ r_ (fun hlen => o_ r_ (bw_ r_ r_ (T_ (aq_ r_ u_ (as_ (al_ (B_ (R_ (F_ r_ (L_ 0 r_ (M_ r_ ?_)))))))))))))))))
      refine o_ r_ (cc_ r_ r_ g_ r_ r_ b_ (o_ r_ (cf_ r_ r_ r_ b_ r_ b_ (o_ r_ (cb_ r_ r_ (o_ r_ (bm_ r_ (rnameB_c _) (o_ r_ (cd_ r_ (M_ r_ (jl_or 8 8 rfl rfl rfl rfl (nb rfl) ?_)))))))))))
      apply Exists.intro
      refine ⟨fun hb1 => ?_, ?_⟩
      exact ah_ r_ h_ b_ (bf_ r_ r_ r_ b_ (ah_ r_ h_ b_ (bg_ 0 r_ r_ r_ r_ (ah_ r_ h_ b_ (bd_ r_ (ah_ r_ h_ b_ (cc_ r_ r_ g_ r_ r_ b_ (ah_ r_ h_ b_ (cf_ r_ r_ r_ b_ r_ b_ (ah_ r_ h_ b_ (cb_ r_ r_ (ah_ r_ h_ b_ (bm_ r_ (rsmallB_c _) (ah_ r_ h_ b_ (cd_ r_ (ak_ (jq_seg 8 rfl rfl rfl (List.Perm.refl _))))))))))))))))))
      refine M_ r_ (jl_or 8 18 rfl rfl rfl rfl (nb rfl) ?_)
      apply Exists.intro
      refine ⟨fun hb1 => ?_, ?_⟩
      exact ah_ r_ h_ b_ (bf_ r_ r_ r_ b_ (ah_ r_ h_ b_ (bg_ 0 r_ r_ r_ r_ (ah_ r_ h_ b_ (bd_ r_ (ah_ r_ h_ b_ (cc_ r_ r_ g_ r_ r_ b_ (ah_ r_ h_ b_ (cf_ r_ r_ r_ b_ r_ b_ (ah_ r_ h_ b_ (cb_ r_ r_ (ah_ r_ h_ b_ (bm_ r_ (rsmallB_c _) (ah_ r_ h_ b_ (cd_ r_ (ak_ (jq_seg 8 rfl rfl rfl (List.Perm.refl _))))))))))))))))))
      refine T_ (jc_cond rfl (fun hn => ?_) (fun hy => ?_))
      · have hp : inB (t.inputs)[k] = false := by
          cases hcs : inB (t.inputs)[k] with
          | false => rfl
          | true =>
            exfalso
            try simp only [inB, Bool.and_eq_true] at hcs
            simp [hcs] at hn
        have hno : (t.inputs).all inB = false := all_no hlt hp
        have hres : okTk t = false := by unfold okTk; simp [hno]
        refine R_ (E_ r_ (T_ (ar_ (az_ (aw_ (aw_ (az_ (aw_ (jq_ret1 rfl rfl [] rfl (fun K h => by rw [hres] at h; exact h))))))))))
      · have hp : inB (t.inputs)[k] = true := by simpa [inB, and_assoc] using hy
        refine as_ (ay_ (al_ (an_ (M_ r_ (o_ r_ (bj_ r_ r_ g_ (E_ r_ (ak_ (jq_againS (k + 1) ⟨hlt, all_snoc hlt hall hp⟩ g_ ?_ ?_)))))))))
        · exact bc_ 0 r_ sub_end
        · (repeat (first | exact True.intro | refine ⟨rfl, ?_⟩))
    · have hlt2 : ¬ (k : Int) < (((t.inputs).map InRow).length : Int) := by omega
      refine am_ (R_ (M_ r_ (F_ r_ (L_ 0 r_ (o_ r_ (br_ r_ (fun hlen => o_ r_ (bw_ r_ r_ (T_ (ap_ r_ w_ (av_ (ax_ (ax_ (ba_ (jq_cutS () (by rw [List.take_of_length_le g_] at hall; exact hall) ?_ ?_)))))))))))))))
      · exact bc_ 0 r_ sub_end
      · (repeat (first | exact True.intro | refine ⟨rfl, ?_⟩))
  intro _ h1
  refine am_ (jc_cut (ι := Unit) [] (fun _ => (t.vars).all nameB = true) (fun _ => [(1, .cell (.val (.pointer (some ⟨bx, 0, none⟩))))]) (fun _ => [.blk bx 50 t.row]) ?_ ?_)
  · refine R_ (E_ r_ (T_ (au_ (jc_loopS (ι := Nat) [] (fun k => k ≤ (t.vars).length ∧ ((t.vars).take k).all nameB = true) (fun k => (4, In .i64 (k : Int)) :: [(1, .cell (.val (.pointer (some ⟨bx, 0, none⟩))))]) (fun _ => [.blk bx 50 t.row]) (fun k => (t.vars).length - k) 0 ⟨Nat.zero_le _, rfl⟩ ?_ ?_ ?_))))
    · exact bc_ 0 r_ sub_end
    · (repeat (first | exact True.intro | refine ⟨rfl, ?_⟩))
    rintro k ⟨hk, hall⟩
    have eL : ((t.vars).map Wrow).length = (t.vars).length := List.length_map _
    by_cases hlt : k < (t.vars).length
    · have hlt2 : (k : Int) < (((t.vars).map Wrow).length : Int) := by omega
      refine am_ (R_ (M_ r_ (F_ r_ (L_ 0 r_ (o_ r_ (br_ r_ (fun hlen => o_ r_ (bw_ r_ r_ (T_ (aq_ r_ u_ (as_ (al_ (B_ (R_ (F_ r_ (L_ 0 r_ (M_ r_ ?_)))))))))))))))))
      refine o_ r_ (cc_ r_ r_ g_ r_ r_ b_ (o_ r_ (cb_ r_ r_ (o_ r_ (bm_ r_ (rnameB_c _) (o_ r_ (cd_ r_ (T_ (jc_cond rfl (fun hn => ?_) (fun hy => ?_))))))))))
      · have hp : nameB (t.vars)[k] = false := by
          cases hcs : nameB (t.vars)[k] with
          | false => rfl
          | true =>
            exfalso
            skip
            simp [hcs] at hn
        have hno : (t.vars).all nameB = false := all_no hlt hp
        have hres : okTk t = false := by unfold okTk; simp [hno]
        refine R_ (E_ r_ (T_ (ar_ (az_ (aw_ (aw_ (az_ (aw_ (jq_ret1 rfl rfl [] rfl (fun K h => by rw [hres] at h; exact h))))))))))
      · have hp : nameB (t.vars)[k] = true := by simpa [and_assoc] using hy
        refine as_ (ay_ (al_ (an_ (M_ r_ (o_ r_ (bj_ r_ r_ g_ (E_ r_ (ak_ (jq_againS (k + 1) ⟨hlt, all_snoc hlt hall hp⟩ g_ ?_ ?_)))))))))
        · exact bc_ 0 r_ sub_end
        · (repeat (first | exact True.intro | refine ⟨rfl, ?_⟩))
    · have hlt2 : ¬ (k : Int) < (((t.vars).map Wrow).length : Int) := by omega
      refine am_ (R_ (M_ r_ (F_ r_ (L_ 0 r_ (o_ r_ (br_ r_ (fun hlen => o_ r_ (bw_ r_ r_ (T_ (ap_ r_ w_ (av_ (ax_ (ax_ (ba_ (jq_cutS () (by rw [List.take_of_length_le g_] at hall; exact hall) ?_ ?_)))))))))))))))
      · exact bc_ 0 r_ sub_end
      · (repeat (first | exact True.intro | refine ⟨rfl, ?_⟩))
  intro _ h2
  refine am_ (jc_cut (ι := Unit) [] (fun _ => (t.arrays).all arB = true) (fun _ => [(1, .cell (.val (.pointer (some ⟨bx, 0, none⟩))))]) (fun _ => [.blk bx 50 t.row]) ?_ ?_)
  · refine R_ (E_ r_ (T_ (au_ (jc_loopS (ι := Nat) [] (fun k => k ≤ (t.arrays).length ∧ ((t.arrays).take k).all arB = true) (fun k => (5, In .i64 (k : Int)) :: [(1, .cell (.val (.pointer (some ⟨bx, 0, none⟩))))]) (fun _ => [.blk bx 50 t.row]) (fun k => (t.arrays).length - k) 0 ⟨Nat.zero_le _, rfl⟩ ?_ ?_ ?_))))
    · exact bc_ 0 r_ sub_end
    · (repeat (first | exact True.intro | refine ⟨rfl, ?_⟩))
    rintro k ⟨hk, hall⟩
    have eL : ((t.arrays).map ArRow).length = (t.arrays).length := List.length_map _
    by_cases hlt : k < (t.arrays).length
    · have hlt2 : (k : Int) < (((t.arrays).map ArRow).length : Int) := by omega
      refine am_ (R_ (M_ r_ (F_ r_ (L_ 0 r_ (o_ r_ (br_ r_ (fun hlen => o_ r_ (bw_ r_ r_ (T_ (aq_ r_ u_ (as_ (al_ (B_ (R_ (F_ r_ (L_ 0 r_ (M_ r_ ?_)))))))))))))))))
      refine o_ r_ (cc_ r_ r_ g_ r_ r_ b_ (o_ r_ (cf_ r_ r_ r_ b_ r_ b_ (o_ r_ (cb_ r_ r_ (o_ r_ (bm_ r_ (rnameB_c _) (o_ r_ (cd_ r_ (M_ r_ (jl_or 8 8 rfl rfl rfl rfl (nb rfl) ?_)))))))))))
      apply Exists.intro
      refine ⟨fun hb1 => ?_, ?_⟩
      exact ah_ r_ h_ b_ (bf_ r_ r_ r_ b_ (ah_ r_ h_ b_ (bg_ 0 r_ r_ r_ r_ (ah_ r_ h_ b_ (bd_ r_ (ah_ r_ h_ b_ (cc_ r_ r_ g_ r_ r_ b_ (ah_ r_ h_ b_ (cf_ r_ r_ r_ b_ r_ b_ (ah_ r_ h_ b_ (cb_ r_ r_ (ah_ r_ h_ b_ (bm_ r_ (rplainB_c _) (ah_ r_ h_ b_ (cd_ r_ (ak_ (jq_seg 8 rfl rfl rfl (List.Perm.refl _))))))))))))))))))
      refine T_ (jc_cond rfl (fun hn => ?_) (fun hy => ?_))
      · have hp : arB (t.arrays)[k] = false := by
          cases hcs : arB (t.arrays)[k] with
          | false => rfl
          | true =>
            exfalso
            try simp only [arB, Bool.and_eq_true] at hcs
            simp [hcs] at hn
        have hno : (t.arrays).all arB = false := all_no hlt hp
        have hres : okTk t = false := by unfold okTk; simp [hno]
        refine R_ (E_ r_ (T_ (ar_ (az_ (aw_ (aw_ (az_ (aw_ (jq_ret1 rfl rfl [] rfl (fun K h => by rw [hres] at h; exact h))))))))))
      · have hp : arB (t.arrays)[k] = true := by simpa [arB, and_assoc] using hy
        refine as_ (ay_ (al_ (an_ (M_ r_ (o_ r_ (bj_ r_ r_ g_ (E_ r_ (ak_ (jq_againS (k + 1) ⟨hlt, all_snoc hlt hall hp⟩ g_ ?_ ?_)))))))))
        · exact bc_ 0 r_ sub_end
        · (repeat (first | exact True.intro | refine ⟨rfl, ?_⟩))
    · have hlt2 : ¬ (k : Int) < (((t.arrays).map ArRow).length : Int) := by omega
      refine am_ (R_ (M_ r_ (F_ r_ (L_ 0 r_ (o_ r_ (br_ r_ (fun hlen => o_ r_ (bw_ r_ r_ (T_ (ap_ r_ w_ (av_ (ax_ (ax_ (ba_ (jq_cutS () (by rw [List.take_of_length_le g_] at hall; exact hall) ?_ ?_)))))))))))))))
      · exact bc_ 0 r_ sub_end
      · (repeat (first | exact True.intro | refine ⟨rfl, ?_⟩))
  intro _ h3
  refine am_ (jc_cut (ι := Unit) [] (fun _ => (t.modes).all mdB = true) (fun _ => [(1, .cell (.val (.pointer (some ⟨bx, 0, none⟩))))]) (fun _ => [.blk bx 50 t.row]) ?_ ?_)
  · refine R_ (E_ r_ (T_ (au_ (jc_loopS (ι := Nat) [] (fun k => k ≤ (t.modes).length ∧ ((t.modes).take k).all mdB = true) (fun k => (6, In .i64 (k : Int)) :: [(1, .cell (.val (.pointer (some ⟨bx, 0, none⟩))))]) (fun _ => [.blk bx 50 t.row]) (fun k => (t.modes).length - k) 0 ⟨Nat.zero_le _, rfl⟩ ?_ ?_ ?_))))
    · exact bc_ 0 r_ sub_end
    · (repeat (first | exact True.intro | refine ⟨rfl, ?_⟩))
    rintro k ⟨hk, hall⟩
    have eL : ((t.modes).map MdRow).length = (t.modes).length := List.length_map _
    by_cases hlt : k < (t.modes).length
    · have hlt2 : (k : Int) < (((t.modes).map MdRow).length : Int) := by omega
      refine am_ (R_ (M_ r_ (F_ r_ (L_ 0 r_ (o_ r_ (br_ r_ (fun hlen => o_ r_ (bw_ r_ r_ (T_ (aq_ r_ u_ (as_ (al_ (B_ (R_ (F_ r_ (L_ 0 r_ (M_ r_ ?_)))))))))))))))))
      refine o_ r_ (cc_ r_ r_ g_ r_ r_ b_ (o_ r_ (cr_ r_ r_ r_ (o_ r_ (bl_ r_ r_ (fun bl => S_ 0 r_ (T_ (R_ (F_ r_ (L_ 0 r_ (o_ r_ (bm_ r_ (rnameB_c _) (o_ r_ (cd_ r_ (M_ r_ (jl_or 4 4 rfl rfl rfl rfl (nb rfl) ?_))))))))))))))))
      apply Exists.intro
      refine ⟨fun hb1 => ?_, ?_⟩
      exact ah_ r_ h_ b_ (bf_ r_ r_ r_ b_ (ah_ r_ h_ b_ (bg_ 0 r_ r_ r_ r_ (ah_ r_ h_ b_ (bm_ r_ (rnameB_c _) (ah_ r_ h_ b_ (cd_ r_ (ak_ (jq_seg 4 rfl rfl rfl (List.Perm.refl _))))))))))
      refine M_ r_ (jl_or 4 10 rfl rfl rfl rfl (nb rfl) ?_)
      apply Exists.intro
      refine ⟨fun hb1 => ?_, ?_⟩
      exact ah_ r_ h_ b_ (bf_ r_ r_ r_ b_ (ah_ r_ h_ b_ (bg_ 0 r_ r_ r_ r_ (ah_ r_ h_ b_ (bm_ r_ (rsmallB_c _) (ah_ r_ h_ b_ (cd_ r_ (ak_ (jq_seg 4 rfl rfl rfl (List.Perm.refl _))))))))))
      refine M_ r_ (jl_or 4 16 rfl rfl rfl rfl (nb rfl) ?_)
      apply Exists.intro
      refine ⟨fun hb1 => ?_, ?_⟩
      exact ah_ r_ h_ b_ (bf_ r_ r_ r_ b_ (ah_ r_ h_ b_ (bg_ 0 r_ r_ r_ r_ (ah_ r_ h_ b_ (bm_ r_ (rsmallB_c _) (ah_ r_ h_ b_ (cd_ r_ (ak_ (jq_seg 4 rfl rfl rfl (List.Perm.refl _))))))))))
      refine T_ (jc_cond rfl (fun hn => ?_) (fun hy => ?_))
      · have hp : mdB (t.modes)[k] = false := by
          cases hcs : mdB (t.modes)[k] with
          | false => rfl
          | true =>
            exfalso
            try simp only [mdB, Bool.and_eq_true] at hcs
            simp [hcs] at hn
        have hno : (t.modes).all mdB = false := all_no hlt hp
        have hres : okTk t = false := by unfold okTk; simp [hno]
        refine R_ (E_ r_ (T_ (ar_ (az_ (aw_ (aw_ (az_ (aw_ (jq_ret1 rfl rfl [] rfl (fun K h => by rw [hres] at h; exact h))))))))))
      · have hp : mdB (t.modes)[k] = true := by simpa [mdB, and_assoc] using hy
        refine as_ (ay_ (al_ (an_ (M_ r_ (o_ r_ (bj_ r_ r_ g_ (E_ r_ (ak_ (jq_againS (k + 1) ⟨hlt, all_snoc hlt hall hp⟩ g_ ?_ ?_)))))))))
        · exact bc_ 1 r_ sub_end
        · (repeat (first | exact True.intro | refine ⟨rfl, ?_⟩))
    · have hlt2 : ¬ (k : Int) < (((t.modes).map MdRow).length : Int) := by omega
      refine am_ (R_ (M_ r_ (F_ r_ (L_ 0 r_ (o_ r_ (br_ r_ (fun hlen => o_ r_ (bw_ r_ r_ (T_ (ap_ r_ w_ (av_ (ax_ (ax_ (ba_ (jq_cutS () (by rw [List.take_of_length_le g_] at hall; exact hall) ?_ ?_)))))))))))))))
      · exact bc_ 0 r_ sub_end
      · (repeat (first | exact True.intro | refine ⟨rfl, ?_⟩))
  intro _ h4
  refine am_ (jc_cut (ι := Unit) [] (fun _ => (t.claims).all clB = true) (fun _ => [(1, .cell (.val (.pointer (some ⟨bx, 0, none⟩))))]) (fun _ => [.blk bx 50 t.row]) ?_ ?_)
  · refine R_ (E_ r_ (T_ (au_ (jc_loopS (ι := Nat) [] (fun k => k ≤ (t.claims).length ∧ ((t.claims).take k).all clB = true) (fun k => (8, In .i64 (k : Int)) :: [(1, .cell (.val (.pointer (some ⟨bx, 0, none⟩))))]) (fun _ => [.blk bx 50 t.row]) (fun k => (t.claims).length - k) 0 ⟨Nat.zero_le _, rfl⟩ ?_ ?_ ?_))))
    · exact bc_ 0 r_ sub_end
    · (repeat (first | exact True.intro | refine ⟨rfl, ?_⟩))
    rintro k ⟨hk, hall⟩
    have eL : ((t.claims).map ClRow).length = (t.claims).length := List.length_map _
    by_cases hlt : k < (t.claims).length
    · have hlt2 : (k : Int) < (((t.claims).map ClRow).length : Int) := by omega
      refine am_ (R_ (M_ r_ (F_ r_ (L_ 0 r_ (o_ r_ (br_ r_ (fun hlen => o_ r_ (bw_ r_ r_ (T_ (aq_ r_ u_ (as_ (al_ (B_ (R_ (F_ r_ (L_ 0 r_ (M_ r_ ?_)))))))))))))))))
      refine o_ r_ (cc_ r_ r_ g_ r_ r_ b_ (o_ r_ (cf_ r_ r_ r_ b_ r_ b_ (o_ r_ (cb_ r_ r_ (o_ r_ (bm_ r_ (rplainB_c _) (o_ r_ (cd_ r_ (M_ r_ (jl_or 8 8 rfl rfl rfl rfl (nb rfl) ?_)))))))))))
      apply Exists.intro
      refine ⟨fun hb1 => ?_, ?_⟩
      exact ah_ r_ h_ b_ (bf_ r_ r_ r_ b_ (ah_ r_ h_ b_ (bg_ 0 r_ r_ r_ r_ (ah_ r_ h_ b_ (bd_ r_ (ah_ r_ h_ b_ (cc_ r_ r_ g_ r_ r_ b_ (ah_ r_ h_ b_ (cf_ r_ r_ r_ b_ r_ b_ (ah_ r_ h_ b_ (cb_ r_ r_ (ah_ r_ h_ b_ (bm_ r_ (rplainB_c _) (ah_ r_ h_ b_ (cd_ r_ (ak_ (jq_seg 8 rfl rfl rfl (List.Perm.refl _))))))))))))))))))
      refine T_ (jc_cond rfl (fun hn => ?_) (fun hy => ?_))
      · have hp : clB (t.claims)[k] = false := by
          cases hcs : clB (t.claims)[k] with
          | false => rfl
          | true =>
            exfalso
            try simp only [clB, Bool.and_eq_true] at hcs
            simp [hcs] at hn
        have hno : (t.claims).all clB = false := all_no hlt hp
        have hres : okTk t = false := by unfold okTk; simp [hno]
        refine R_ (E_ r_ (T_ (ar_ (az_ (aw_ (aw_ (az_ (aw_ (jq_ret1 rfl rfl [] rfl (fun K h => by rw [hres] at h; exact h))))))))))
      · have hp : clB (t.claims)[k] = true := by simpa [clB, and_assoc] using hy
        refine as_ (ay_ (al_ (an_ (M_ r_ (o_ r_ (bj_ r_ r_ g_ (E_ r_ (ak_ (jq_againS (k + 1) ⟨hlt, all_snoc hlt hall hp⟩ g_ ?_ ?_)))))))))
        · exact bc_ 0 r_ sub_end
        · (repeat (first | exact True.intro | refine ⟨rfl, ?_⟩))
    · have hlt2 : ¬ (k : Int) < (((t.claims).map ClRow).length : Int) := by omega
      refine am_ (R_ (M_ r_ (F_ r_ (L_ 0 r_ (o_ r_ (br_ r_ (fun hlen => o_ r_ (bw_ r_ r_ (T_ (ap_ r_ w_ (av_ (ax_ (ax_ (ba_ (jq_cutS () (by rw [List.take_of_length_le g_] at hall; exact hall) ?_ ?_)))))))))))))))
      · exact bc_ 0 r_ sub_end
      · (repeat (first | exact True.intro | refine ⟨rfl, ?_⟩))
  intro _ h5
  have hres : okTk t = true := by unfold okTk; rw [h0, h1, h2, h3, h4, h5]; rfl
  refine R_ (E_ r_ (T_ (ar_ (jq_ret1 rfl rfl [] rfl (fun K h => by rw [hres] at h; exact h)))))
theorem rprintableB_c (p : Pg) : Con Tryd.prog 59 [.row p.row] [] (fun K => K (Bl (okPg p)) []) := by
  refine con_intro Tryd.func59 rfl rfl (Nat.le_of_ble_eq_true rfl) (fun c hc => ?_)
  skip
  refine R_ (o_ r_ (ci_ r_ (fun bx => E_ r_ (T_ (am_ (jc_cut (ι := Unit) [] (fun _ => (p.res).all nameB = true) (fun _ => [(1, .cell (.val (.pointer (some ⟨bx, 0, none⟩))))]) (fun _ => [.blk bx 40 p.row]) ?_ ?_))))))
  · refine R_ (E_ r_ (T_ (au_ (jc_loopS (ι := Nat) [] (fun k => k ≤ (p.res).length ∧ ((p.res).take k).all nameB = true) (fun k => (3, In .i64 (k : Int)) :: [(1, .cell (.val (.pointer (some ⟨bx, 0, none⟩))))]) (fun _ => [.blk bx 40 p.row]) (fun k => (p.res).length - k) 0 ⟨Nat.zero_le _, rfl⟩ ?_ ?_ ?_))))
    · exact bc_ 0 r_ sub_end
    · (repeat (first | exact True.intro | refine ⟨rfl, ?_⟩))
    rintro k ⟨hk, hall⟩
    have eL : ((p.res).map Wrow).length = (p.res).length := List.length_map _
    by_cases hlt : k < (p.res).length
    · have hlt2 : (k : Int) < (((p.res).map Wrow).length : Int) := by omega
      refine am_ (R_ (M_ r_ (F_ r_ (L_ 0 r_ (o_ r_ (br_ r_ (fun hlen => o_ r_ (bw_ r_ r_ (T_ (aq_ r_ u_ (as_ (al_ (B_ (R_ (F_ r_ (L_ 0 r_ (M_ r_ ?_)))))))))))))))))
      refine o_ r_ (cc_ r_ r_ g_ r_ r_ b_ (o_ r_ (cb_ r_ r_ (o_ r_ (bm_ r_ (rnameB_c _) (o_ r_ (cd_ r_ (T_ (jc_cond rfl (fun hn => ?_) (fun hy => ?_))))))))))
      · have hp : nameB (p.res)[k] = false := by
          cases hcs : nameB (p.res)[k] with
          | false => rfl
          | true =>
            exfalso
            skip
            simp [hcs] at hn
        have hno : (p.res).all nameB = false := all_no hlt hp
        have hres : okPg p = false := by unfold okPg; simp [hno]
        refine R_ (E_ r_ (T_ (ar_ (az_ (aw_ (aw_ (az_ (aw_ (jq_ret1 rfl rfl [] rfl (fun K h => by rw [hres] at h; exact h))))))))))
      · have hp : nameB (p.res)[k] = true := by simpa [and_assoc] using hy
        refine as_ (ay_ (al_ (an_ (M_ r_ (o_ r_ (bj_ r_ r_ g_ (E_ r_ (ak_ (jq_againS (k + 1) ⟨hlt, all_snoc hlt hall hp⟩ g_ ?_ ?_)))))))))
        · exact bc_ 0 r_ sub_end
        · (repeat (first | exact True.intro | refine ⟨rfl, ?_⟩))
    · have hlt2 : ¬ (k : Int) < (((p.res).map Wrow).length : Int) := by omega
      refine am_ (R_ (M_ r_ (F_ r_ (L_ 0 r_ (o_ r_ (br_ r_ (fun hlen => o_ r_ (bw_ r_ r_ (T_ (ap_ r_ w_ (av_ (ax_ (ax_ (ba_ (jq_cutS () (by rw [List.take_of_length_le g_] at hall; exact hall) ?_ ?_)))))))))))))))
      · exact bc_ 0 r_ sub_end
      · (repeat (first | exact True.intro | refine ⟨rfl, ?_⟩))
  intro _ h1
  refine am_ (jc_cut (ι := Unit) [] (fun _ => (p.shared).all shB = true) (fun _ => [(1, .cell (.val (.pointer (some ⟨bx, 0, none⟩))))]) (fun _ => [.blk bx 40 p.row]) ?_ ?_)
  · refine R_ (E_ r_ (T_ (au_ (jc_loopS (ι := Nat) [] (fun k => k ≤ (p.shared).length ∧ ((p.shared).take k).all shB = true) (fun k => (4, In .i64 (k : Int)) :: [(1, .cell (.val (.pointer (some ⟨bx, 0, none⟩))))]) (fun _ => [.blk bx 40 p.row]) (fun k => (p.shared).length - k) 0 ⟨Nat.zero_le _, rfl⟩ ?_ ?_ ?_))))
    · exact bc_ 0 r_ sub_end
    · (repeat (first | exact True.intro | refine ⟨rfl, ?_⟩))
    rintro k ⟨hk, hall⟩
    have eL : ((p.shared).map ShRow).length = (p.shared).length := List.length_map _
    by_cases hlt : k < (p.shared).length
    · have hlt2 : (k : Int) < (((p.shared).map ShRow).length : Int) := by omega
      refine am_ (R_ (M_ r_ (F_ r_ (L_ 0 r_ (o_ r_ (br_ r_ (fun hlen => o_ r_ (bw_ r_ r_ (T_ (aq_ r_ u_ (as_ (al_ (B_ (R_ (F_ r_ (L_ 0 r_ (M_ r_ ?_)))))))))))))))))
      refine o_ r_ (cc_ r_ r_ g_ r_ r_ b_ (o_ r_ (cr_ r_ r_ r_ (o_ r_ (bl_ r_ r_ (fun bl => S_ 0 r_ (T_ (R_ (F_ r_ (F_ r_ (L_ 0 r_ (o_ r_ (bm_ r_ (rnameB_c _) (o_ r_ (cd_ r_ (M_ r_ (jl_or 5 5 rfl rfl rfl rfl (nb rfl) ?_)))))))))))))))))
      apply Exists.intro
      refine ⟨fun hb1 => ?_, ?_⟩
      exact ah_ r_ h_ b_ (bf_ r_ r_ r_ b_ (ah_ r_ h_ b_ (bf_ r_ r_ r_ b_ (ah_ r_ h_ b_ (bg_ 0 r_ r_ r_ r_ (ah_ r_ h_ b_ (bm_ r_ (rplainB_c _) (ah_ r_ h_ b_ (cd_ r_ (ak_ (jq_seg 5 rfl rfl rfl (List.Perm.refl _))))))))))))
      refine M_ r_ (jl_or 4 12 rfl rfl rfl rfl (nb rfl) ?_)
      apply Exists.intro
      refine ⟨fun hb1 => ?_, ?_⟩
      exact ah_ r_ h_ b_ (bf_ r_ r_ r_ b_ (ah_ r_ h_ b_ (bg_ 0 r_ r_ r_ r_ (ah_ r_ h_ b_ (bm_ r_ (rnameB_c _) (ah_ r_ h_ b_ (cd_ r_ (ak_ (jq_seg 4 rfl rfl rfl (List.Perm.refl _))))))))))
      refine T_ (jc_cond rfl (fun hn => ?_) (fun hy => ?_))
      · have hp : shB (p.shared)[k] = false := by
          cases hcs : shB (p.shared)[k] with
          | false => rfl
          | true =>
            exfalso
            try simp only [shB, Bool.and_eq_true] at hcs
            simp [hcs] at hn
        have hno : (p.shared).all shB = false := all_no hlt hp
        have hres : okPg p = false := by unfold okPg; simp [hno]
        refine R_ (E_ r_ (T_ (ar_ (az_ (aw_ (aw_ (az_ (aw_ (jq_ret1 rfl rfl [] rfl (fun K h => by rw [hres] at h; exact h))))))))))
      · have hp : shB (p.shared)[k] = true := by simpa [shB, and_assoc] using hy
        refine as_ (ay_ (al_ (an_ (M_ r_ (o_ r_ (bj_ r_ r_ g_ (E_ r_ (ak_ (jq_againS (k + 1) ⟨hlt, all_snoc hlt hall hp⟩ g_ ?_ ?_)))))))))
        · exact bc_ 1 r_ sub_end
        · (repeat (first | exact True.intro | refine ⟨rfl, ?_⟩))
    · have hlt2 : ¬ (k : Int) < (((p.shared).map ShRow).length : Int) := by omega
      refine am_ (R_ (M_ r_ (F_ r_ (L_ 0 r_ (o_ r_ (br_ r_ (fun hlen => o_ r_ (bw_ r_ r_ (T_ (ap_ r_ w_ (av_ (ax_ (ax_ (ba_ (jq_cutS () (by rw [List.take_of_length_le g_] at hall; exact hall) ?_ ?_)))))))))))))))
      · exact bc_ 0 r_ sub_end
      · (repeat (first | exact True.intro | refine ⟨rfl, ?_⟩))
  intro _ h2
  refine am_ (jc_cut (ι := Unit) [] (fun _ => (p.tasks).all okTk = true) (fun _ => [(1, .cell (.val (.pointer (some ⟨bx, 0, none⟩))))]) (fun _ => [.blk bx 40 p.row]) ?_ ?_)
  · refine R_ (E_ r_ (T_ (au_ (jc_loopS (ι := Nat) [] (fun k => k ≤ (p.tasks).length ∧ ((p.tasks).take k).all okTk = true) (fun k => (6, In .i64 (k : Int)) :: [(1, .cell (.val (.pointer (some ⟨bx, 0, none⟩))))]) (fun _ => [.blk bx 40 p.row]) (fun k => (p.tasks).length - k) 0 ⟨Nat.zero_le _, rfl⟩ ?_ ?_ ?_))))
    · exact bc_ 0 r_ sub_end
    · (repeat (first | exact True.intro | refine ⟨rfl, ?_⟩))
    rintro k ⟨hk, hall⟩
    have eL : ((p.tasks).map Tk.row).length = (p.tasks).length := List.length_map _
    by_cases hlt : k < (p.tasks).length
    · have hlt2 : (k : Int) < (((p.tasks).map Tk.row).length : Int) := by omega
      refine am_ (R_ (M_ r_ (F_ r_ (L_ 0 r_ (o_ r_ (br_ r_ (fun hlen => o_ r_ (bw_ r_ r_ (T_ (aq_ r_ u_ (as_ (al_ (B_ (R_ (F_ r_ (L_ 0 r_ (M_ r_ ?_)))))))))))))))))
      refine o_ r_ (cc_ r_ r_ g_ r_ r_ b_ (o_ r_ (cr_ r_ r_ r_ (o_ r_ (bm_ r_ (rtaskB_c _) (o_ r_ (cd_ r_ (T_ (jc_cond rfl (fun hn => ?_) (fun hy => ?_))))))))))
      · have hp : okTk (p.tasks)[k] = false := by
          cases hcs : okTk (p.tasks)[k] with
          | false => rfl
          | true =>
            exfalso
            skip
            simp [hcs] at hn
        have hno : (p.tasks).all okTk = false := all_no hlt hp
        have hres : okPg p = false := by unfold okPg; simp [hno]
        refine R_ (E_ r_ (T_ (ar_ (az_ (aw_ (aw_ (az_ (aw_ (jq_ret1 rfl rfl [] rfl (fun K h => by rw [hres] at h; exact h))))))))))
      · have hp : okTk (p.tasks)[k] = true := by simpa [and_assoc] using hy
        refine as_ (ay_ (al_ (an_ (M_ r_ (o_ r_ (bj_ r_ r_ g_ (E_ r_ (ak_ (jq_againS (k + 1) ⟨hlt, all_snoc hlt hall hp⟩ g_ ?_ ?_)))))))))
        · exact bc_ 0 r_ sub_end
        · (repeat (first | exact True.intro | refine ⟨rfl, ?_⟩))
    · have hlt2 : ¬ (k : Int) < (((p.tasks).map Tk.row).length : Int) := by omega
      refine am_ (R_ (M_ r_ (F_ r_ (L_ 0 r_ (o_ r_ (br_ r_ (fun hlen => o_ r_ (bw_ r_ r_ (T_ (ap_ r_ w_ (av_ (ax_ (ax_ (ba_ (jq_cutS () (by rw [List.take_of_length_le g_] at hall; exact hall) ?_ ?_)))))))))))))))
      · exact bc_ 0 r_ sub_end
      · (repeat (first | exact True.intro | refine ⟨rfl, ?_⟩))
  intro _ h3
  have hres : okPg p = true := by unfold okPg; rw [h1, h2, h3]; rfl
  refine R_ (E_ r_ (T_ (ar_ (jq_ret1 rfl rfl [] rfl (fun K h => by rw [hres] at h; exact h)))))
end Go.Proofs.YtamajcgdfjeehaaDoor
end

section
namespace Go.Proofs.YtamajcgdfjeehaaDoor
open Go.Vc
attribute [local irreducible] JL JC JQ OpWp Con ConN
attribute [local irreducible] byteAt runLen isL isD isName hasW
set_option maxHeartbeats 4000000

def nmOk (s : ByteArray) : Prop := isName s = true ∧ hasW s = false
theorem rname_c (s : ByteArray) (h : nmOk s) : Con Tryd.prog 90 [Str s] [] (fun K => K (Bl true) []) := by
  have h1 := rName_c s
  have h2 := RKeyword_c s
  rw [h.1] at h1
  rw [h.2] at h2
  refine con_intro Tryd.func90 rfl rfl (Nat.le_of_ble_eq_true rfl) (fun c hc => R_ (E_ r_ (T_ (R_ (M_ r_ (o_ r_ (bm_ r_ (h1) (M_ r_ (ah_ r_ r_ b_ (bd_ r_ (ah_ r_ r_ b_ (bm_ r_ (h2) (ah_ r_ r_ b_ (cd_ r_ (o_ r_ (bp_ r_ r_ r_ (E_ r_ (T_ (ar_ (jq_ret1 rfl rfl [] rfl (fun K h => h)))))))))))))))))))))
theorem rsmall_c (n : Int) (h : -2147483647 ≤ n ∧ n ≤ 2147483647) : Con Tryd.prog 89 [In .i64 n] [] (fun K => K (Bl true) []) := by
  refine con_intro Tryd.func89 rfl rfl (Nat.le_of_ble_eq_true rfl) (fun c hc => ?_)
  have h0 : (-2147483648 : Int) < n := by omega
  have h1 : n < 2147483648 := by omega
  refine R_ (E_ r_ (T_ (R_ (M_ r_ (o_ r_ (bz_ r_ r_ (M_ r_ (ah_ r_ u_ b_ (bd_ r_ (ah_ r_ u_ b_ (bw_ r_ r_ (o_ r_ (bp_ r_ u_ r_ (E_ r_ (T_ (ar_ (jq_ret1 rfl rfl [] rfl (fun K h => by rw [← decide_eq_true h1] at h; exact h))))))))))))))))))
def T.ok : T → Prop
  | .nu n => -2147483647 ≤ n ∧ n ≤ 2147483647
  | .nm s => nmOk s
  | .ix s t => nmOk s ∧ t.ok
  | .bn o a b => (1 ≤ o ∧ o ≤ 14) ∧ a.ok ∧ b.ok
theorem T.ok_args {t : T} (h : t.ok) : ∀ a ∈ t.args, a.ok := by
  intro a ha
  cases t with
  | nu n => cases ha
  | nm s => cases ha
  | ix s t => rw [List.mem_singleton.1 ha]; exact h.2
  | bn o x y =>
    rcases List.mem_cons.1 ha with rfl | ha
    · exact h.2.1
    · rw [List.mem_singleton.1 ha]; exact h.2.2
end Go.Proofs.YtamajcgdfjeehaaDoor
end

section
namespace Go.Proofs.YtamajcgdfjeehaaDoor
open Go.Vc
attribute [local irreducible] JL JC JQ OpWp Con ConN
attribute [local irreducible] byteAt runLen isL isD isName hasW
set_option maxHeartbeats 4000000

theorem str_ne {o : Int} (h : 1 ≤ o ∧ o ≤ 14) : ¬ signT o = ⟨#[]⟩ := by
  intro e
  have := congrArg ByteArray.size e
  rcases op14 h with rfl | rfl | rfl | rfl | rfl | rfl | rfl | rfl | rfl | rfl | rfl | rfl | rfl | rfl <;> exact absurd this (by decide)
end Go.Proofs.YtamajcgdfjeehaaDoor
end

section
namespace Go.Proofs.YtamajcgdfjeehaaDoor
open Go.Vc
attribute [local irreducible] JL JC JQ OpWp Con ConN
attribute [local irreducible] byteAt runLen isL isD isName hasW
set_option maxHeartbeats 4000000

theorem rshaped_c : ∀ (F : Nat) (t : T), F ≤ 20 → t.ok → Con Tryd.prog 54 [.row t.row', In .i64 (21 - (F : Int))] [] (fun K => K (Bl true) []) := by
  intro F
  induction F with
  | zero =>
    intro t _ _
    refine con_intro Tryd.func54 rfl rfl (Nat.le_of_ble_eq_true rfl) (fun c hc => R_ (o_ r_ (ci_ r_ (fun bx => E_ r_ (T_ (am_ (R_ (M_ r_ (o_ r_ (bz_ r_ r_ (T_ (jc_condd rfl (fun _ => R_ (E_ r_ (T_ (ar_ (aw_ ?_))))) (fun h => by omega)))))))))))))
    refine jq_ret1 rfl rfl [] rfl (fun K h => h)
  | succ F ih =>
    intro t hF hok
    have hF1 : (21 - ((F + 1 : Nat) : Int) + 1) = 21 - (F : Int) := by omega
    have hF2 : ¬ 20 < (21 - ((F + 1 : Nat) : Int)) := by omega
    have hF3 : 0 ≤ (21 - ((F + 1 : Nat) : Int)) ∧ (21 - ((F + 1 : Nat) : Int)) ≤ 20 := by omega
    generalize (21 - ((F + 1 : Nat) : Int)) = d at hF1 hF2 hF3 ⊢
    cases t with
    | nu n =>
      have hS := rsmall_c n hok
      refine con_intro Tryd.func54 rfl rfl (Nat.le_of_ble_eq_true rfl) (fun c hc => R_ (o_ r_ (ci_ r_ (fun bx => E_ r_ (T_ (am_ (R_ (M_ r_ (o_ r_ (bz_ r_ r_ (T_ (jc_condd rfl (fun h => absurd h hF2) (fun _ => as_ (al_ (am_ (R_ (F_ r_ ?_)))))))))))))))))
      refine L_ 0 r_ (T_ (au_ (R_ (o_ r_ (bn_ r_ r_ (E_ r_ (T_ (jc_condd rfl (fun _ => R_ (F_ r_ (L_ 0 r_ (o_ r_ (bm_ r_ (hS) (M_ r_ (ah_ r_ r_ b_ (bf_ r_ r_ r_ b_ (ah_ r_ r_ b_ (bg_ 0 r_ r_ r_ r_ (ah_ r_ r_ b_ (cs_ r_ r_ ?_)))))))))))) (fun h => absurd rfl h)))))))))
      refine o_ r_ (bp_ r_ r_ r_ (M_ r_ (ah_ r_ r_ b_ (bf_ r_ r_ r_ b_ (ah_ r_ r_ b_ (bg_ 0 r_ r_ r_ r_ (ah_ r_ r_ b_ (bn_ r_ r_ (o_ r_ (bp_ r_ x_ r_ (M_ r_ (ah_ r_ r_ b_ (bf_ r_ r_ r_ b_ (ah_ r_ r_ b_ (bg_ 0 r_ r_ r_ r_ (ah_ r_ r_ b_ (br_ r_ (fun hlen => ah_ r_ r_ b_ (bn_ r_ r_ (o_ r_ (bp_ r_ x_ r_ (E_ r_ (T_ (ar_ (az_ ?_)))))))))))))))))))))))))
      refine aw_ (jq_ret1 rfl rfl [] rfl (fun K h => h))
    | nm s =>
      have hS := rname_c s hok
      refine con_intro Tryd.func54 rfl rfl (Nat.le_of_ble_eq_true rfl) (fun c hc => R_ (o_ r_ (ci_ r_ (fun bx => E_ r_ (T_ (am_ (R_ (M_ r_ (o_ r_ (bz_ r_ r_ (T_ (jc_condd rfl (fun h => absurd h hF2) (fun _ => as_ (al_ (am_ (R_ (F_ r_ ?_)))))))))))))))))
      refine L_ 0 r_ (T_ (au_ (R_ (o_ r_ (bn_ r_ r_ (E_ r_ (T_ (jc_condd rfl (fun h => by cases h) (fun _ => R_ (o_ r_ (bn_ r_ r_ (E_ r_ (T_ (jc_condd rfl (fun _ => R_ (F_ r_ (L_ 0 r_ ?_))) (fun h => absurd rfl h)))))))))))))))
      refine o_ r_ (bm_ r_ (hS) (M_ r_ (ah_ r_ r_ b_ (bf_ r_ r_ r_ b_ (ah_ r_ r_ b_ (bg_ 0 r_ r_ r_ r_ (ah_ r_ r_ b_ (bn_ r_ r_ (o_ r_ (bp_ r_ r_ r_ (M_ r_ (ah_ r_ r_ b_ (bf_ r_ r_ r_ b_ (ah_ r_ r_ b_ (bg_ 0 r_ r_ r_ r_ (ah_ r_ r_ b_ (bn_ r_ r_ (o_ r_ (bp_ r_ x_ r_ (M_ r_ (ah_ r_ r_ b_ (bf_ r_ r_ r_ b_ (ah_ r_ r_ b_ (bg_ 0 r_ r_ r_ r_ (ah_ r_ r_ b_ (br_ r_ (fun hlen => ah_ r_ r_ b_ (bn_ r_ r_ ?_))))))))))))))))))))))))))))
      refine o_ r_ (bp_ r_ x_ r_ (E_ r_ (T_ (ar_ (az_ (aw_ (jq_ret1 rfl rfl [] rfl (fun K h => h))))))))
    | ix s t =>
      have hS := rname_c s hok.1
      have hI := ih t (by omega) hok.2
      rw [← hF1] at hI
      have e1 : [t].length = 1 := rfl
      show Con _ _ [.row [.val (.int .i64 3), .val (.int .i64 0), .val (.string s), .val (.int .i64 0), .list ([t].map T.row)], In .i64 d] [] _
      refine con_intro Tryd.func54 rfl rfl (Nat.le_of_ble_eq_true rfl) (fun c hc => R_ (o_ r_ (ci_ r_ (fun bx => E_ r_ (T_ (am_ (R_ (M_ r_ (o_ r_ (bz_ r_ r_ (T_ (jc_condd rfl (fun h => absurd h hF2) (fun _ => as_ (al_ (am_ (R_ (F_ r_ ?_)))))))))))))))))
      refine L_ 0 r_ (T_ (au_ (R_ (o_ r_ (bn_ r_ r_ (E_ r_ (T_ (jc_condd rfl (fun h => by cases h) (fun _ => R_ (o_ r_ (bn_ r_ r_ (E_ r_ (T_ (jc_condd rfl (fun h => by cases h) (fun _ => R_ (o_ r_ (bn_ r_ r_ (E_ r_ ?_))))))))))))))))))
      refine T_ (jc_condd rfl (fun _ => R_ (F_ r_ (L_ 0 r_ (o_ r_ (bm_ r_ (hS) (M_ r_ (ah_ r_ r_ b_ (bf_ r_ r_ r_ b_ (ah_ r_ r_ b_ (bg_ 0 r_ r_ r_ r_ (ah_ r_ r_ b_ (bn_ r_ r_ (o_ r_ (bp_ r_ r_ r_ (M_ r_ (ah_ r_ r_ b_ (bf_ r_ r_ r_ b_ (ah_ r_ r_ b_ (bg_ 0 r_ r_ r_ r_ (ah_ r_ r_ b_ (bn_ r_ r_ (o_ r_ (bp_ r_ x_ r_ ?_))))))))))))))))))))))) (fun h => absurd rfl h))
      refine M_ r_ (ah_ r_ r_ b_ (bf_ r_ r_ r_ b_ (ah_ r_ r_ b_ (bg_ 0 r_ r_ r_ r_ (ah_ r_ r_ b_ (br_ r_ (fun hlen => ah_ r_ r_ b_ (bn_ r_ r_ (o_ r_ (bp_ r_ x_ r_ (M_ r_ (ah_ r_ r_ b_ (bf_ r_ r_ r_ b_ (ah_ r_ r_ b_ (bg_ 0 r_ r_ r_ r_ (ah_ r_ r_ b_ (cv_ r_ r_ g_ g_ (T.row_eq _) r_ b_ (ah_ r_ r_ b_ (cr_ r_ r_ r_ (ah_ r_ r_ b_ (bd_ r_ (ah_ r_ r_ b_ (bj_ r_ r_ g_ (ah_ r_ r_ b_ (bm_ r_ (hI) ?_)))))))))))))))))))))))))
      refine o_ r_ (bp_ r_ x_ r_ (E_ r_ (T_ (ar_ (az_ (aw_ (jq_ret1 rfl rfl [] rfl (fun K h => h))))))))
    | bn o a b =>
      have hI1 := ih a (by omega) hok.2.1
      have hI2 := ih b (by omega) hok.2.2
      rw [← hF1] at hI1 hI2
      have ho := hok.1
      have ho1 : o ≤ 14 := ho.2
      have e1 : [a, b].length = 2 := rfl
      show Con _ _ [.row [.val (.int .i64 4), .val (.int .i64 0), .val (.string ⟨#[]⟩), .val (.int .i64 o), .list ([a, b].map T.row)], In .i64 d] [] _
      refine con_intro Tryd.func54 rfl rfl (Nat.le_of_ble_eq_true rfl) (fun c hc => R_ (o_ r_ (ci_ r_ (fun bx => E_ r_ (T_ (am_ (R_ (M_ r_ (o_ r_ (bz_ r_ r_ (T_ (jc_condd rfl (fun h => absurd h hF2) (fun _ => as_ (al_ (am_ (R_ (F_ r_ ?_)))))))))))))))))
      refine L_ 0 r_ (T_ (au_ (R_ (o_ r_ (bn_ r_ r_ (E_ r_ (T_ (jc_condd rfl (fun h => by cases h) (fun _ => R_ (o_ r_ (bn_ r_ r_ (E_ r_ (T_ (jc_condd rfl (fun h => by cases h) (fun _ => R_ (o_ r_ (bn_ r_ r_ (E_ r_ ?_))))))))))))))))))
      refine T_ (jc_condd rfl (fun h => by cases h) (fun _ => R_ (o_ r_ (bn_ r_ r_ (E_ r_ (T_ (jc_condd rfl (fun _ => R_ (F_ r_ (L_ 0 r_ (o_ r_ (cs_ r_ r_ (M_ r_ (ah_ r_ r_ b_ (bf_ r_ r_ r_ b_ (ah_ r_ r_ b_ (bg_ 0 r_ r_ r_ r_ (ah_ r_ r_ b_ (bn_ r_ r_ (o_ r_ (bp_ r_ x_ r_ ?_)))))))))))))) (fun h => absurd rfl h))))))))
      refine M_ r_ (ah_ r_ r_ b_ (bf_ r_ r_ r_ b_ (ah_ r_ r_ b_ (bg_ 0 r_ r_ r_ r_ (ah_ r_ r_ b_ (cn_ r_ r_ (o_ r_ (bp_ r_ x_ r_ (M_ r_ (ah_ r_ t_ b_ (bf_ r_ r_ r_ b_ (ah_ r_ t_ b_ (bg_ 0 r_ r_ r_ r_ (ah_ r_ t_ b_ (cu_ r_ r_ (o_ r_ (bp_ r_ t_ r_ (M_ r_ (ah_ r_ t_ b_ (bf_ r_ r_ r_ b_ (ah_ r_ t_ b_ (bg_ 0 r_ r_ r_ r_ (ah_ r_ t_ b_ (br_ r_ (fun hlen => ah_ r_ t_ b_ (bn_ r_ r_ (o_ r_ (bp_ r_ u_ r_ ?_))))))))))))))))))))))))))))
      refine M_ r_ (ah_ r_ r_ b_ (bf_ r_ r_ r_ b_ (ah_ r_ r_ b_ (bg_ 0 r_ r_ r_ r_ (ah_ r_ r_ b_ (cv_ r_ r_ g_ g_ (T.row_eq _) r_ b_ (ah_ r_ r_ b_ (cr_ r_ r_ r_ (ah_ r_ r_ b_ (bd_ r_ (ah_ r_ r_ b_ (bj_ r_ r_ g_ (ah_ r_ r_ b_ (bm_ r_ (hI1) (o_ r_ (bp_ r_ x_ r_ (M_ r_ (ah_ r_ r_ b_ (bf_ r_ r_ r_ b_ (ah_ r_ r_ b_ (bg_ 0 r_ r_ r_ r_ (ah_ r_ r_ b_ (cv_ r_ r_ g_ g_ (T.row_eq _) r_ b_ ?_)))))))))))))))))))))))
      refine ah_ r_ r_ b_ (cr_ r_ r_ r_ (ah_ r_ r_ b_ (bd_ r_ (ah_ r_ r_ b_ (bj_ r_ r_ g_ (ah_ r_ r_ b_ (bm_ r_ (hI2) (o_ r_ (bp_ r_ r_ r_ (E_ r_ (T_ (ar_ (az_ (aw_ (jq_ret1 rfl rfl [] rfl (fun K h => h))))))))))))))))
end Go.Proofs.YtamajcgdfjeehaaDoor
end

section
namespace Go.Proofs.YtamajcgdfjeehaaDoor
open Go.Vc
attribute [local irreducible] JL JC JQ OpWp
attribute [local irreducible] byteAt runLen isL isD isName hasW
set_option maxHeartbeats 4000000

/-! Numbers and texts -/
def numS (n : Int) : ByteArray := ⟨(Lib.itoa n).toArray⟩
attribute [local irreducible] Con ConN
theorem numS_size (n : Int) (h0 : -2147483647 ≤ n) (h1 : n ≤ 2147483647) : (numS n).size ≤ 21 := by
  have := Lib.itoa_length_le n (by omega) (by omega)
  unfold numS
  simpa [ByteArray.size] using this
theorem numS_nonneg (n : Int) (h : 0 ≤ n) : numS n = decS n.toNat := by
  obtain ⟨u, rfl⟩ : ∃ u : Nat, n = u := ⟨n.toNat, by omega⟩
  unfold numS decS
  rw [Lib.itoa_nonneg, Int.toNat_natCast]
theorem numS_neg (n : Int) (h : n < 0) : numS n = ⟨#[45]⟩ ++ decS (-n).toNat := by
  obtain ⟨u, rfl⟩ : ∃ u : Nat, n = -(u : Int) := ⟨(-n).toNat, by omega⟩
  unfold numS decS
  rw [Lib.itoa_neg u (by omega), show (- -(u : Int)).toNat = u by omega]
  apply ByteArray.ext
  rw [ByteArray.data_append]
  simp
theorem refNumber_c (n : Int) (h : -2147483647 ≤ n ∧ n ≤ 2147483647) : Con Tryd.prog 61 [In .i64 n] [] (fun K => K (Str (numS n)) []) := by
  refine con_intro Tryd.func61 rfl rfl (Nat.le_of_ble_eq_true rfl) (fun c hc => R_ (E_ r_ (T_ (am_ (R_ (M_ r_ (o_ r_ (bw_ r_ r_ (T_ (jc_condd rfl (fun hn => ?_) (fun hn => ?_)))))))))))
  · have hD := Decimal_c (-n).toNat (by omega)
    rw [show (((-n).toNat : Nat) : Int) = -n by omega] at hD
    have h45 : (⟨#[45]⟩ : ByteArray).size = 1 := rfl
    have hz := decS_le (-n).toNat (by omega)
    refine R_ (M_ r_ (o_ r_ (cy_ r_ g_ (o_ r_ (bm_ r_ (hD) (o_ r_ (ow_strcat r_ r_ g_ (E_ r_ (T_ (ar_ (aw_ (jq_ret1 rfl rfl [] rfl (fun K h => by rw [numS_neg n hn] at h; exact h)))))))))))))
  · have hD := Decimal_c n.toNat (by omega)
    rw [show ((n.toNat : Nat) : Int) = n by omega] at hD
    refine as_ (al_ (R_ (M_ r_ (o_ r_ (bm_ r_ (hD) (E_ r_ (T_ (ar_ (jq_ret1 rfl rfl [] rfl (fun K h => by rw [numS_nonneg n g_] at h; exact h))))))))))
def textT : T → ByteArray
  | .nu n => if n < 0 then (⟨#[40]⟩ ++ numS n) ++ ⟨#[41]⟩ else numS n
  | .nm s => s
  | .ix s t => ((s ++ ⟨#[91]⟩) ++ textT t) ++ ⟨#[93]⟩
  | .bn o a b => (((((⟨#[40]⟩ ++ textT a) ++ ⟨#[32]⟩) ++ signT o) ++ ⟨#[32]⟩) ++ textT b) ++ ⟨#[41]⟩
theorem one_size (c : UInt8) : (⟨#[c]⟩ : ByteArray).size = 1 := rfl
theorem sign_size {o : Int} (h : 1 ≤ o ∧ o ≤ 14) : (signT o).size ≤ 2 := by
  rcases op14 h with rfl | rfl | rfl | rfl | rfl | rfl | rfl | rfl | rfl | rfl | rfl | rfl | rfl | rfl <;> decide
end Go.Proofs.YtamajcgdfjeehaaDoor
end

section
namespace Go.Proofs.YtamajcgdfjeehaaDoor
open Go.Vc
attribute [local irreducible] JL JC JQ OpWp Con ConN
attribute [local irreducible] byteAt runLen isL isD isName hasW
set_option maxHeartbeats 4000000

theorem rtext_c : ∀ (t : T), t.ok → (textT t).size ≤ 1000000000 → Con Tryd.prog 55 [.row t.row'] [] (fun K => K (Str (textT t)) []) := by
  intro t
  induction t with
  | nu n =>
    intro hok hz
    have hI := refNumber_c n hok
    have hz := numS_size n hok.1 hok.2
    have h40 := one_size 40
    have h41 := one_size 41
    have h2 : (⟨#[40]⟩ ++ numS n).size ≤ 30 := by rw [ByteArray.size_append]; omega
    show Con _ _ [.row [.val (.int .i64 1), .val (.int .i64 n), .val (.string ⟨#[]⟩), .val (.int .i64 0), .list (([] : List T).map T.row)]] [] _
    refine con_intro Tryd.func55 rfl rfl (Nat.le_of_ble_eq_true rfl) (fun c hc => R_ (o_ r_ (ci_ r_ (fun bx => E_ r_ (T_ (am_ (R_ (F_ r_ (L_ 0 r_ (T_ (au_ (R_ (o_ r_ (bn_ r_ r_ (E_ r_ (T_ (jc_condd rfl (fun _ => ?_) (fun h => absurd rfl h))))))))))))))))))
    refine am_ (R_ (F_ r_ (L_ 0 r_ (o_ r_ (bw_ r_ r_ (T_ (jc_condd rfl (fun hn => ?_) (fun hn => ?_))))))))
    · have e : textT (.nu n) = (⟨#[40]⟩ ++ numS n) ++ ⟨#[41]⟩ := by unfold textT; rw [if_pos hn]
      refine R_ (F_ r_ (L_ 0 r_ (o_ r_ (bm_ r_ (hI) (o_ r_ (ow_strcat r_ r_ g_ (o_ r_ (ow_strcat r_ r_ g_ (E_ r_ (T_ (ar_ (aw_ (az_ (aw_ (jq_ret1 rfl rfl [] rfl (fun K h => by rw [e] at h; exact h))))))))))))))))
    · have e : textT (.nu n) = numS n := by unfold textT; rw [if_neg hn]
      refine as_ (al_ (R_ (F_ r_ (L_ 0 r_ (o_ r_ (bm_ r_ (hI) (E_ r_ (T_ (ar_ (az_ (aw_ (jq_ret1 rfl rfl [] rfl (fun K h => by rw [e] at h; exact h)))))))))))))
  | nm s =>
    intro hok hz
    show Con _ _ [.row [.val (.int .i64 2), .val (.int .i64 0), .val (.string s), .val (.int .i64 0), .list (([] : List T).map T.row)]] [] _
    refine con_intro Tryd.func55 rfl rfl (Nat.le_of_ble_eq_true rfl) (fun c hc => R_ (o_ r_ (ci_ r_ (fun bx => E_ r_ (T_ (am_ (R_ (F_ r_ (L_ 0 r_ (T_ (au_ (R_ (o_ r_ (bn_ r_ r_ (E_ r_ (T_ (jc_condd rfl (fun h => by cases h) (fun _ => ?_))))))))))))))))))
    refine R_ (o_ r_ (bn_ r_ r_ (E_ r_ (T_ (jc_condd rfl (fun _ => R_ (F_ r_ (L_ 0 r_ (E_ r_ (T_ (ar_ (az_ (aw_ (jq_ret1 rfl rfl [] rfl (fun K h => h)))))))))) (fun h => absurd rfl h))))))
  | ix s t ih =>
    intro hok hz
    have e : textT (.ix s t) = ((s ++ ⟨#[91]⟩) ++ textT t) ++ ⟨#[93]⟩ := by rw [textT]
    rw [e] at hz
    have h91 := one_size 91
    have h93 := one_size 93
    have hz1 := hz
    rw [ByteArray.size_append] at hz1
    have hz2 := hz1
    rw [ByteArray.size_append] at hz2
    have hz3 := hz2
    rw [ByteArray.size_append] at hz3
    have hI := ih hok.2 (by omega)
    have e1 : [t].length = 1 := rfl
    show Con _ _ [.row [.val (.int .i64 3), .val (.int .i64 0), .val (.string s), .val (.int .i64 0), .list ([t].map T.row)]] [] _
    refine con_intro Tryd.func55 rfl rfl (Nat.le_of_ble_eq_true rfl) (fun c hc => R_ (o_ r_ (ci_ r_ (fun bx => E_ r_ (T_ (am_ (R_ (F_ r_ (L_ 0 r_ (T_ (au_ (R_ (o_ r_ (bn_ r_ r_ (E_ r_ (T_ (jc_condd rfl (fun h => by cases h) (fun _ => ?_))))))))))))))))))
    refine R_ (o_ r_ (bn_ r_ r_ (E_ r_ (T_ (jc_condd rfl (fun h => by cases h) (fun _ => R_ (o_ r_ (bn_ r_ r_ (E_ r_ (T_ (jc_condd rfl (fun _ => am_ (ao_ r_ r_ k_ k_ (yF_ r_ (yL_ 0 r_ (aa_ (fun c => ow_strcat r_ r_ g_ p_) (yF_ r_ ?_)))))) (fun h => absurd rfl h))))))))))))
    refine yL_ 0 r_ (aa_ (fun c => cv_ r_ r_ g_ g_ (T.row_eq _) r_ b_ p_) (aa_ (fun c => cr_ r_ r_ r_ p_) (aa_ (fun c => bm_ r_ (hI) p_) (aa_ (fun c => ow_strcat r_ r_ g_ p_) (aa_ (fun c => ow_strcat r_ r_ g_ p_) (yE_ r_ (ae_ (al_ (ar_ (az_ (aw_ (jq_ret1 rfl rfl [] rfl (fun K h => by rw [e] at h; exact h)))))))))))))
  | bn o a b iha ihb =>
    intro hok hz
    have e : textT (.bn o a b) = (((((⟨#[40]⟩ ++ textT a) ++ ⟨#[32]⟩) ++ signT o) ++ ⟨#[32]⟩) ++ textT b) ++ ⟨#[41]⟩ := by rw [textT]
    rw [e] at hz
    have h40 := one_size 40
    have h32 := one_size 32
    have h41 := one_size 41
    have hz1 := hz
    rw [ByteArray.size_append] at hz1
    have hz2 := hz1
    rw [ByteArray.size_append] at hz2
    have hz3 := hz2
    rw [ByteArray.size_append] at hz3
    have hz4 := hz3
    rw [ByteArray.size_append] at hz4
    have hz5 := hz4
    rw [ByteArray.size_append] at hz5
    have hz6 := hz5
    rw [ByteArray.size_append] at hz6
    have hS := RSign_c o hok.1
    have hA := iha hok.2.1 (by omega)
    have hB := ihb hok.2.2 (by omega)
    have e1 : [a, b].length = 2 := rfl
    show Con _ _ [.row [.val (.int .i64 4), .val (.int .i64 0), .val (.string ⟨#[]⟩), .val (.int .i64 o), .list ([a, b].map T.row)]] [] _
    refine con_intro Tryd.func55 rfl rfl (Nat.le_of_ble_eq_true rfl) (fun c hc => R_ (o_ r_ (ci_ r_ (fun bx => E_ r_ (T_ (am_ (R_ (F_ r_ (L_ 0 r_ (T_ (au_ (R_ (o_ r_ (bn_ r_ r_ (E_ r_ (T_ (jc_condd rfl (fun h => by cases h) (fun _ => ?_))))))))))))))))))
    refine R_ (o_ r_ (bn_ r_ r_ (E_ r_ (T_ (jc_condd rfl (fun h => by cases h) (fun _ => R_ (o_ r_ (bn_ r_ r_ (E_ r_ (T_ (jc_condd rfl (fun h => by cases h) (fun _ => as_ (ay_ (al_ (am_ (ao_ r_ r_ k_ k_ (yF_ r_ ?_)))))))))))))))))
    refine yL_ 0 r_ (aa_ (fun c => cv_ r_ r_ g_ g_ (T.row_eq _) r_ b_ p_) (aa_ (fun c => cr_ r_ r_ r_ p_) (aa_ (fun c => bm_ r_ (hA) p_) (aa_ (fun c => ow_strcat r_ r_ g_ p_) (aa_ (fun c => ow_strcat r_ r_ g_ p_) (yF_ r_ (yL_ 0 r_ (aa_ (fun c => bm_ r_ (hS) p_) (aa_ (fun c => ow_strcat r_ r_ g_ p_) (aa_ (fun c => ow_strcat r_ r_ g_ p_) (yF_ r_ (yL_ 0 r_ (aa_ (fun c => cv_ r_ r_ g_ g_ (T.row_eq _) r_ b_ p_) ?_)))))))))))))
    refine aa_ (fun c => cr_ r_ r_ r_ p_) (aa_ (fun c => bm_ r_ (hB) p_) (aa_ (fun c => ow_strcat r_ r_ g_ p_) (aa_ (fun c => ow_strcat r_ r_ g_ p_) (yE_ r_ (ae_ (al_ (ar_ (jq_ret1 rfl rfl [] rfl (fun K h => by rw [e] at h; exact h)))))))))

theorem name_size {s : ByteArray} (h : nmOk s) : s.size ≤ 12 := by
  have := h.1
  unfold isName at this
  simp only [Bool.and_eq_true, decide_eq_true_eq] at this
  exact this.1.2
theorem text_size : ∀ (t : T), t.ok → (textT t).size + 50 ≤ 100 * 2 ^ t.dep
  | .nu n, h => by
    have := numS_size n h.1 h.2
    have h40 := one_size 40
    have h41 := one_size 41
    unfold textT
    simp only [T.dep]
    split
    · rw [ByteArray.size_append, ByteArray.size_append]; omega
    · omega
  | .nm s, h => by
    have := name_size h
    simp only [textT, T.dep]
    omega
  | .ix s t, h => by
    have := name_size h.1
    have := text_size t h.2
    have h91 := one_size 91
    have h93 := one_size 93
    simp only [textT, T.dep, ByteArray.size_append, Nat.pow_succ]
    omega
  | .bn o a b, h => by
    have h1 := text_size a h.2.1
    have h2 := text_size b h.2.2
    have h3 := sign_size h.1
    have h40 := one_size 40
    have h32 := one_size 32
    have h41 := one_size 41
    have e1 : 2 ^ a.dep ≤ 2 ^ max a.dep b.dep := Nat.pow_le_pow_right (by decide) (by omega)
    have e2 : 2 ^ b.dep ≤ 2 ^ max a.dep b.dep := Nat.pow_le_pow_right (by decide) (by omega)
    simp only [textT, T.dep, ByteArray.size_append, Nat.pow_succ]
    omega
theorem text_small {t : T} (h : t.ok) (hd : t.dep ≤ 8) : (textT t).size ≤ 1000000000 := by
  have h1 := text_size t h
  have h2 : 2 ^ t.dep ≤ 2 ^ 8 := Nat.pow_le_pow_right (by decide) hd
  omega
def exprF (t : T) : ByteArray × Int := if 8 < t.dep then (⟨#[]⟩, 4) else (textT t, 0)
theorem RExpr_c (t : T) (h : t.ok) : Con Tryd.prog 32 [.row t.row'] [] (fun K => K (.tup [Str (exprF t).1, In .i64 (exprF t).2]) []) := by
  have hD := RDepth_c t
  have hS := rshaped_c 20 t (by omega) h
  rw [rd_eq 20 t (by omega)] at hD
  rw [show (21 - ((20 : Nat) : Int)) = 1 by omega] at hS
  refine con_intro Tryd.func32 rfl rfl (Nat.le_of_ble_eq_true rfl) (fun c hc => R_ (o_ r_ (ci_ r_ (fun bx => E_ r_ (E_ r_ (T_ (am_ (R_ (A_ 0 r_ (o_ r_ (bm_ r_ (hD) (o_ r_ (bz_ r_ r_ (T_ (jc_condd rfl (fun hd => ?_) (fun hd => ?_))))))))))))))))
  · have e : exprF t = (⟨#[]⟩, 4) := by unfold exprF; rw [if_pos (by omega)]
    refine R_ (E_ r_ (E_ r_ (T_ (ar_ (aw_ (jq_ret2 rfl rfl rfl [] rfl (fun K h => by rw [e] at h; exact h)))))))
  · have hd8 : t.dep ≤ 8 := by omega
    have e : exprF t = (textT t, 0) := by unfold exprF; rw [if_neg (by omega)]
    have hT := rtext_c t h (text_small h hd8)
    refine as_ (al_ (am_ (R_ (A_ 0 r_ (o_ r_ (bm_ r_ (hS) (o_ r_ (cd_ r_ (T_ (jc_cond rfl (fun h => by cases h) (fun _ => as_ (al_ (R_ (A_ 0 r_ (o_ r_ (bm_ r_ (hT) (E_ r_ (E_ r_ ?_))))))))))))))))))
    refine T_ (ar_ (jq_ret2 rfl rfl rfl [] rfl (fun K h => by rw [e] at h; exact h)))

/-! Makers -/
theorem mName_c (s : ByteArray) : Con Tryd.prog 145 [Str s] [] (fun K => K (.row (T.nm s).row') []) := by
  refine con_intro Tryd.func145 rfl rfl (Nat.le_of_ble_eq_true rfl) (fun c hc => R_ (o_ r_ (bl_ r_ r_ (fun bl => T_ (R_ (M_ r_ (o_ r_ (bu_ r_ r_ r_ r_ r_ (S_ 0 r_ (T_ (ar_ (jq_row 0 (T.nm s).row' rfl ?_ ?_))))))))))))
  · (repeat (first | exact RowLe.nil | refine RowLe.cons (CLe.refl _) ?_ | refine RowLe.cons CLe.nil ?_))
  · refine jq_retRow rfl rfl rfl rfl 0 rfl [] rfl (fun K h => h)
theorem mNum_c (n : Int) : Con Tryd.prog 142 [In .i64 n] [] (fun K => K (.row (T.nu n).row') []) := by
  refine con_intro Tryd.func142 rfl rfl (Nat.le_of_ble_eq_true rfl) (fun c hc => R_ (o_ r_ (bl_ r_ r_ (fun bl => T_ (R_ (M_ r_ (o_ r_ (bu_ r_ r_ r_ r_ r_ (S_ 0 r_ (T_ (ar_ (jq_row 0 (T.nu n).row' rfl ?_ ?_))))))))))))
  · (repeat (first | exact RowLe.nil | refine RowLe.cons (CLe.refl _) ?_ | refine RowLe.cons CLe.nil ?_))
  · refine jq_retRow rfl rfl rfl rfl 0 rfl [] rfl (fun K h => h)
theorem mBin_c (o : Int) (a b : T) : Con Tryd.prog 143 [In .i64 o, .row a.row', .row b.row'] [] (fun K => K (.row (T.bn o a b).row') []) := by
  refine con_intro Tryd.func143 rfl rfl (Nat.le_of_ble_eq_true rfl) (fun c hc => R_ (o_ r_ (ci_ r_ (fun bx => o_ r_ (ci_ r_ (fun bx => o_ r_ (bl_ r_ r_ (fun bl => T_ (R_ (M_ r_ (A_ 2 r_ (A_ 1 r_ (o_ r_ (bq_ r_ r_ b_ r_ r_ b_ (o_ r_ (bu_ r_ r_ r_ r_ r_ (S_ 0 r_ (T_ (ar_ (jq_row 0 (T.bn o a b).row' rfl ?_ ?_))))))))))))))))))))
  · (repeat (first | exact RowLe.nil | refine RowLe.cons (CLe.refl _) ?_ | refine RowLe.cons CLe.nil ?_))
    exact RowLe.cons (CLe.eq (by simp [T.row_eq, T.args])) .nil
  · refine jq_retRow rfl rfl rfl rfl 0 rfl [] rfl (fun K h => h)
end Go.Proofs.YtamajcgdfjeehaaDoor
end

section
namespace Go.Proofs.YtamajcgdfjeehaaDoor
open Go.Vc
attribute [local irreducible] JL JC JQ OpWp Con ConN
attribute [local irreducible] byteAt runLen isL isD isName hasW
set_option maxHeartbeats 4000000

/-! What is not too deep, and its text -/
def dpx (x : T) : Bool := decide (8 < x.dep)
def dpS (rec : List Sm → Bool) (s : Sm) : Bool := rec s.thn || rec s.els || s.index.any dpx || s.value.any dpx
def dpF : Nat → List Sm → Bool
  | 0, l => !l.isEmpty
  | n + 1, l => l.any (dpS (dpF n))
def Fx (x : T) : Prop := x.ok ∧ x.dep ≤ 8
def Pl (n : Int) : Prop := 0 ≤ n ∧ n ≤ 2147483647
def fineS : Nat → Sm → Prop
  | 0, _ => False
  | n + 1, s =>
    (s.kind = 1 ∧ nmOk s.name ∧ ∃ x, s.value = [x] ∧ Fx x) ∨
    (s.kind = 2 ∧ nmOk s.name ∧ ∃ y x, s.index = [y] ∧ s.value = [x] ∧ Fx y ∧ Fx x) ∨
    (s.kind = 3 ∧ (∃ x, s.value = [x] ∧ Fx x) ∧ Pl s.label ∧ (∀ t ∈ s.thn, fineS n t) ∧ ∀ t ∈ s.els, fineS n t) ∨
    (s.kind = 4 ∧ (∃ x, s.value = [x] ∧ Fx x) ∧ Pl s.max ∧ Pl s.label ∧ (∀ t ∈ s.thn, fineS n t) ∧ s.els = []) ∨
    (s.kind = 5 ∧ nmOk s.name ∧ (∀ t ∈ s.thn, fineS n t) ∧ s.els = [])
theorem nameB_ok {s : ByteArray} : nameB s = true ↔ nmOk s := by
  unfold nameB nmOk
  rw [Bool.and_eq_true, Bool.not_eq_true']
theorem smallB_ok {n : Int} : smallB n = true ↔ -2147483647 ≤ n ∧ n ≤ 2147483647 := by
  unfold smallB
  rw [Bool.and_eq_true, decide_eq_true_eq, decide_eq_true_eq]; omega
theorem plainB_ok {n : Int} : plainB n = true ↔ Pl n := by
  unfold plainB Pl
  rw [Bool.and_eq_true, decide_eq_true_eq, decide_eq_true_eq]; omega
theorem shpF_ok : ∀ (F : Nat) (t : T), t.dep ≤ F → (shpF F t = true ↔ t.ok)
  | 0, t, h => by have : 1 ≤ t.dep := by rw [T.dep_args]; omega
                  omega
  | F + 1, t, h => by
    cases t with
    | nu n => simp only [shpF, T.ok]; exact smallB_ok
    | nm s => simp only [shpF, T.ok]; exact nameB_ok
    | ix s x =>
      simp only [T.dep] at h
      simp only [shpF, T.ok, Bool.and_eq_true, nameB_ok, shpF_ok F x (by omega)]
    | bn o a b =>
      simp only [T.dep] at h
      simp only [shpF, T.ok, Bool.and_eq_true, decide_eq_true_eq, shpF_ok F a (by omega), shpF_ok F b (by omega), and_assoc]
theorem oneB_ok {l : List T} (h : oneB l = true) (hd : l.any dpx = false) : ∃ x, l = [x] ∧ Fx x := by
  match l, h with
  | [x], h =>
    have hd : ¬ 8 < x.dep := by simpa [dpx] using hd
    exact ⟨x, rfl, (shpF_ok 20 x (by omega)).1 h, by omega⟩
theorem fine_of : ∀ (n F : Nat) (l : List Sm), n ≤ F → okSs F l = true → dpF n l = false → ∀ s ∈ l, fineS n s
  | 0, F, l, _, _, hd, s, hs => by
    cases l with
    | nil => cases hs
    | cons a l => cases hd
  | n + 1, 0, l, hle, _, _, s, hs => by omega
  | n + 1, F + 1, l, hle, ho, hd, s, hs => by
    have h1 : okOne (okSs F) s = true := List.all_eq_true.1 ho s hs
    have h2 : dpS (dpF n) s = false := by
      have := List.any_eq_false.1 hd s hs
      simpa using this
    simp only [dpS, Bool.or_eq_false_iff] at h2
    obtain ⟨⟨⟨d1, d2⟩, d3⟩, d4⟩ := h2
    have ht := fun h => fine_of n F s.thn (by omega) h d1
    have he := fun h => fine_of n F s.els (by omega) h d2
    unfold okOne at h1
    unfold fineS
    split at h1
    · rename_i hk
      simp only [Bool.and_eq_true] at h1
      exact .inl ⟨hk, nameB_ok.1 h1.1.1.1.1.1.1, oneB_ok h1.1.1.1.1.2 d4⟩
    split at h1
    · rename_i hk
      simp only [Bool.and_eq_true] at h1
      obtain ⟨y, hy, fy⟩ := oneB_ok h1.1.1.1.1.1.2 d3
      obtain ⟨x, hx, fx⟩ := oneB_ok h1.1.1.1.1.2 d4
      exact .inr (.inl ⟨hk, nameB_ok.1 h1.1.1.1.1.1.1, y, x, hy, hx, fy, fx⟩)
    split at h1
    · rename_i hk
      simp only [Bool.and_eq_true] at h1
      exact .inr (.inr (.inl ⟨hk, oneB_ok h1.1.1.1.1.2 d4, plainB_ok.1 h1.1.1.2, ht h1.1.2, he h1.2⟩))
    split at h1
    · rename_i hk
      simp only [Bool.and_eq_true, decide_eq_true_eq] at h1
      exact .inr (.inr (.inr (.inl ⟨hk, oneB_ok h1.1.1.1.1.2 d4, plainB_ok.1 h1.1.1.1.2, plainB_ok.1 h1.1.1.2, ht h1.1.2, List.eq_nil_of_length_eq_zero h1.2⟩)))
    split at h1
    · rename_i hk
      simp only [Bool.and_eq_true, decide_eq_true_eq] at h1
      exact .inr (.inr (.inr (.inr ⟨hk, nameB_ok.1 h1.1.1.1.1.1.1, ht h1.1.2, List.eq_nil_of_length_eq_zero h1.2⟩)))
    · cases h1

/-! Texts -/
abbrev Ksp : ByteArray := ⟨#[32, 32]⟩
abbrev Kelse2 : ByteArray := ⟨#[125, 32, 101, 108, 115, 101, 32, 123, 10]⟩
abbrev Kclose : ByteArray := ⟨#[125, 10]⟩
abbrev Kopen : ByteArray := ⟨#[32, 123, 10]⟩
abbrev Kif2 : ByteArray := ⟨#[105, 102, 32]⟩
abbrev Klab : ByteArray := ⟨#[32, 108, 97, 98, 101, 108, 32]⟩
abbrev Kwh : ByteArray := ⟨#[119, 104, 105, 108, 101, 32]⟩
abbrev Kmx : ByteArray := ⟨#[32, 109, 97, 120, 32]⟩
abbrev Klk : ByteArray := ⟨#[108, 111, 99, 107, 32]⟩
abbrev Kst : ByteArray := ⟨#[32, 61, 32]⟩
abbrev Knl : ByteArray := ⟨#[10]⟩
abbrev Kx1 : ByteArray := ⟨#[91]⟩
abbrev Kx2 : ByteArray := ⟨#[93, 32, 61, 32]⟩
def tx1 : List T → ByteArray
  | x :: _ => textT x
  | [] => ⟨#[]⟩
/-- The first line of a statement, without the space ahead of it. -/
def hdT (s : Sm) : ByteArray :=
  if s.kind = 1 then ((s.name ++ Kst) ++ tx1 s.value) ++ Knl
  else if s.kind = 2 then ((((s.name ++ Kx1) ++ tx1 s.index) ++ Kx2) ++ tx1 s.value) ++ Knl
  else if s.kind = 3 then (((Kif2 ++ tx1 s.value) ++ Klab) ++ numS s.label) ++ Kopen
  else if s.kind = 4 then (((((Kwh ++ tx1 s.value) ++ Kmx) ++ numS s.max) ++ Klab) ++ numS s.label) ++ Kopen
  else (Klk ++ s.name) ++ Kopen
mutual
def stT (sp : ByteArray) : Sm → ByteArray
  | .mk k nm i v m lb t e =>
    if k = 1 ∨ k = 2 then sp ++ hdT (.mk k nm i v m lb t e)
    else (sp ++ hdT (.mk k nm i v m lb t e)) ++ stsT (sp ++ Ksp) t ++ (if e = [] then ⟨#[]⟩ else (sp ++ Kelse2) ++ stsT (sp ++ Ksp) e) ++ (sp ++ Kclose)
def stsT (sp : ByteArray) : List Sm → ByteArray
  | [] => ⟨#[]⟩
  | s :: l => stT sp s ++ stsT sp l
end
theorem ba_nil (X : ByteArray) : X ++ (⟨#[]⟩ : ByteArray) = X := by apply ByteArray.ext; simp
theorem nil_ba (X : ByteArray) : (⟨#[]⟩ : ByteArray) ++ X = X := by apply ByteArray.ext; simp
theorem stsT_app (sp : ByteArray) : ∀ l m : List Sm, stsT sp (l ++ m) = stsT sp l ++ stsT sp m
  | [], m => by rw [List.nil_append, stsT, nil_ba]
  | s :: l, m => by rw [List.cons_append, stsT, stsT, stsT_app sp l m, ByteArray.append_assoc]
theorem stsT_take (sp : ByteArray) {l : List Sm} {k : Nat} (h : k < l.length) : stsT sp (l.take (k + 1)) = stsT sp (l.take k) ++ stT sp l[k] := by
  rw [List.take_succ_eq_append_getElem h, stsT_app, stsT, stsT, ba_nil]
theorem stT_leaf (sp : ByteArray) {s : Sm} (h : s.kind = 1 ∨ s.kind = 2) : stT sp s = sp ++ hdT s := by
  cases s
  rw [stT]
  exact if_pos h
theorem stT_node (sp : ByteArray) {s : Sm} (h : ¬ (s.kind = 1 ∨ s.kind = 2)) : stT sp s = (sp ++ hdT s) ++ stsT (sp ++ Ksp) s.thn ++ (if s.els = [] then ⟨#[]⟩ else (sp ++ Kelse2) ++ stsT (sp ++ Ksp) s.els) ++ (sp ++ Kclose) := by
  cases s
  rw [stT]
  exact if_neg h

/-! Their sizes -/
theorem Fx.size {x : T} (h : Fx x) : (textT x).size ≤ 25600 := by
  have h1 := text_size x h.1
  have h2 : 2 ^ x.dep ≤ 2 ^ 8 := Nat.pow_le_pow_right (by decide) h.2
  omega
theorem Pl.size {n : Int} (h : Pl n) : (numS n).size ≤ 21 := numS_size n (by have := h.1; omega) h.2
theorem hd_size {n : Nat} {s : Sm} (h : fineS n s) : (hdT s).size ≤ 51400 := by
  cases n with
  | zero => exact h.elim
  | succ n =>
    unfold fineS at h
    unfold hdT
    rcases h with ⟨hk, hn, x, hx, fx⟩ | ⟨hk, hn, y, x, hy, hx, fy, fx⟩ | ⟨hk, ⟨x, hx, fx⟩, hl, _⟩ | ⟨hk, ⟨x, hx, fx⟩, hm, hl, _⟩ | ⟨hk, hn, _⟩
    · have := name_size hn
      have := fx.size
      rw [if_pos hk, hx]
      simp only [tx1, ByteArray.size_append, show Kst.size = 3 from rfl, show Knl.size = 1 from rfl]
      omega
    · have := name_size hn
      have := fx.size
      have := fy.size
      rw [if_neg (by omega), if_pos hk, hx, hy]
      simp only [tx1, ByteArray.size_append, show Kx1.size = 1 from rfl, show Kx2.size = 4 from rfl, show Knl.size = 1 from rfl]
      omega
    · have := hl.size
      have := fx.size
      rw [if_neg (by omega), if_neg (by omega), if_pos hk, hx]
      simp only [tx1, ByteArray.size_append, show Kif2.size = 3 from rfl, show Klab.size = 7 from rfl, show Kopen.size = 3 from rfl]
      omega
    · have := hl.size
      have := hm.size
      have := fx.size
      rw [if_neg (by omega), if_neg (by omega), if_neg (by omega), if_pos hk, hx]
      simp only [tx1, ByteArray.size_append, show Kwh.size = 6 from rfl, show Kmx.size = 5 from rfl, show Klab.size = 7 from rfl, show Kopen.size = 3 from rfl]
      omega
    · have := name_size hn
      rw [if_neg (by omega), if_neg (by omega), if_neg (by omega), if_neg (by omega)]
      simp only [ByteArray.size_append, show Klk.size = 5 from rfl, show Kopen.size = 3 from rfl]
      omega
theorem sts_size_of {n : Nat} {sp : ByteArray} (h : ∀ s, fineS n s → (stT sp s).size ≤ 60000 * s.sz) : ∀ l : List Sm, (∀ s ∈ l, fineS n s) → (stsT sp l).size ≤ 60000 * Sm.szs l
  | [], _ => by simp [stsT, Sm.szs]; rfl
  | s :: l, hl => by
    have h1 := h s (hl s (by simp))
    have h2 := sts_size_of h l (fun t ht => hl t (by simp [ht]))
    rw [stsT, Sm.szs, ByteArray.size_append]
    omega
theorem st_size : ∀ (n : Nat) (sp : ByteArray) (s : Sm), fineS n s → sp.size + 2 * n ≤ 100 → (stT sp s).size ≤ 60000 * s.sz
  | 0, _, _, h, _ => h.elim
  | n + 1, sp, s, h, hsp => by
    have hh := hd_size h
    have ez := Sm.sz_eq s
    by_cases hk : s.kind = 1 ∨ s.kind = 2
    · rw [stT_leaf sp hk, ByteArray.size_append]; omega
    · have ih := sts_size_of (fun s hs => st_size n (sp ++ Ksp) s hs (by rw [ByteArray.size_append, show Ksp.size = 2 from rfl]; omega))
      have ht : ∀ t ∈ s.thn, fineS n t := by
        unfold fineS at h
        rcases h with h | h | h | h | h
        · exact absurd (.inl h.1) hk
        · exact absurd (.inr h.1) hk
        · exact h.2.2.2.1
        · exact h.2.2.2.2.1
        · exact h.2.2.1
      have he : ∀ t ∈ s.els, fineS n t := by
        unfold fineS at h
        rcases h with h | h | h | h | h
        · exact absurd (.inl h.1) hk
        · exact absurd (.inr h.1) hk
        · exact h.2.2.2.2
        · rw [h.2.2.2.2.2]; simp
        · rw [h.2.2.2]; simp
      have h1 := ih s.thn ht
      have h2 := ih s.els he
      rw [stT_node sp hk]
      split
      · simp only [ByteArray.size_append, show Kclose.size = 2 from rfl, show (⟨#[]⟩ : ByteArray).size = 0 from rfl]
        omega
      · simp only [ByteArray.size_append, show Kclose.size = 2 from rfl, show Kelse2.size = 9 from rfl]
        omega
theorem sts_size {n : Nat} {sp : ByteArray} {l : List Sm} (h : ∀ s ∈ l, fineS n s) (hsp : sp.size + 2 * n ≤ 100) : (stsT sp l).size ≤ 60000 * Sm.szs l := sts_size_of (fun s hs => st_size n sp s hs hsp) l h
theorem szs_take_succ {l : List Sm} {k : Nat} (h : k < l.length) : Sm.szs (l.take k) + l[k].sz ≤ Sm.szs l := by
  have h1 := Sm.szs_take l (k + 1)
  rw [List.take_succ_eq_append_getElem h, Sm.szs_app] at h1
  simp only [Sm.szs] at h1
  omega
end Go.Proofs.YtamajcgdfjeehaaDoor
end

section
namespace Go.Proofs.YtamajcgdfjeehaaDoor
open Go.Vc
attribute [local irreducible] JL JC JQ OpWp Con ConN
attribute [local irreducible] byteAt runLen isL isD isName hasW rd
set_option maxHeartbeats 4000000

theorem any_yes {α : Type} {p : α → Bool} {l : List α} {k : Nat} (h : k < l.length) (h2 : p l[k] = true) : l.any p = true := List.any_eq_true.2 ⟨l[k], List.getElem_mem h, h2⟩
theorem any_snoc {α : Type} {p : α → Bool} {l : List α} {k : Nat} (h : k < l.length) (h1 : (l.take k).any p = false) (h2 : p l[k] = false) : (l.take (k + 1)).any p = false := by
  rw [List.take_succ_eq_append_getElem h, List.any_append, h1]
  simp [h2]
def RDeepP (n : Nat) : Prop := ∀ l : List Sm, Con Tryd.prog 97 [.cell (.list (l.map Sm.row)), In .i64 (9 - (n : Int))] [] (fun K => K (Bl (dpF n l)) [])
theorem rdeep_zero : RDeepP 0 := by
  intro l
  cases l with
  | nil =>
    have eL : (([] : List Sm).map Sm.row).length = 0 := rfl
    refine con_intro Tryd.func97 rfl rfl (Nat.le_of_ble_eq_true rfl) (fun c hc => R_ (E_ r_ (T_ (am_ (R_ (E_ r_ (T_ (au_ (jc_loopS (ι := Unit) [] (fun _ => True) (fun _ => [(0, .cell (.list (([] : List Sm).map Sm.row))), (1, In .i64 (9 - ((0 : Nat) : Int))), (5, In .i64 0)]) (fun _ => []) (fun _ => 0) () trivial ?_ ?_ ?_)))))))))
    · exact sub_end
    · (repeat (first | exact True.intro | refine ⟨rfl, ?_⟩))
    intro _ _
    refine am_ (R_ (M_ r_ (M_ r_ (o_ r_ (br_ r_ (fun hlen => o_ r_ (bw_ r_ r_ (T_ (ap_ r_ r_ (av_ (ax_ (ax_ (ba_ (al_ (R_ (E_ r_ (T_ ?_)))))))))))))))))
    refine ar_ (jq_ret1 rfl rfl [] rfl (fun K h => h))
  | cons s l =>
    have eL : (((s :: l).map Sm.row).length : Int) = (l.length : Int) + 1 := by simp
    refine con_intro Tryd.func97 rfl rfl (Nat.le_of_ble_eq_true rfl) (fun c hc => R_ (E_ r_ (T_ (am_ (R_ (E_ r_ (T_ (au_ (jc_loopS (ι := Unit) [] (fun _ => True) (fun _ => [(0, .cell (.list ((s :: l).map Sm.row))), (1, In .i64 (9 - ((0 : Nat) : Int))), (5, In .i64 0)]) (fun _ => []) (fun _ => 0) () trivial ?_ ?_ ?_)))))))))
    · exact sub_end
    · (repeat (first | exact True.intro | refine ⟨rfl, ?_⟩))
    intro _ _
    refine am_ (R_ (M_ r_ (M_ r_ (o_ r_ (br_ r_ (fun hlen => o_ r_ (bw_ r_ r_ (T_ (aq_ r_ t_ (as_ (al_ (B_ (am_ (R_ (M_ r_ (o_ r_ (bz_ r_ r_ (M_ r_ ?_))))))))))))))))))
    refine ai_ r_ r_ b_ (ai_ r_ r_ b_ (ai_ r_ r_ b_ (ai_ r_ r_ b_ (ai_ r_ r_ b_ (ai_ r_ r_ b_ (ai_ r_ r_ b_ (ai_ r_ r_ b_ (o_ r_ (bp_ r_ r_ r_ (M_ r_ (ai_ r_ r_ b_ (ai_ r_ r_ b_ (ai_ r_ r_ b_ (ai_ r_ r_ b_ (ai_ r_ r_ b_ (ai_ r_ r_ b_ ?_))))))))))))))))
    refine ai_ r_ r_ b_ (ai_ r_ r_ b_ (o_ r_ (bp_ r_ r_ r_ (T_ (aq_ r_ r_ (R_ (E_ r_ (T_ (ar_ (aw_ (az_ (aw_ (aw_ (az_ (aw_ (jq_ret1 rfl rfl [] rfl (fun K h => h)))))))))))))))))
theorem rdeep_succ (n : Nat) (hn : n + 1 ≤ 8) (ih : RDeepP n) : RDeepP (n + 1) := by
  intro l
  have hF1 : (9 - ((n + 1 : Nat) : Int) + 1) = 9 - (n : Int) := by omega
  have hF2 : ¬ 8 < (9 - ((n + 1 : Nat) : Int)) := by omega
  have hF3 : 0 ≤ (9 - ((n + 1 : Nat) : Int)) ∧ (9 - ((n + 1 : Nat) : Int)) ≤ 8 := by omega
  generalize (9 - ((n + 1 : Nat) : Int)) = d at hF1 hF2 hF3 ⊢
  have hI := fun m => ih m
  rw [← hF1] at hI
  clear ih
  have eL : (l.map Sm.row).length = l.length := List.length_map _
  refine con_intro Tryd.func97 rfl rfl (Nat.le_of_ble_eq_true rfl) (fun c hc => R_ (E_ r_ (T_ (am_ (R_ (E_ r_ (T_ (au_ (jc_loopS (ι := Nat) [] (fun k => k ≤ l.length ∧ (l.take k).any (dpS (dpF n)) = false) (fun k => [(0, .cell (.list (l.map Sm.row))), (1, In .i64 d), (5, In .i64 (k : Int))]) (fun _ => []) (fun k => l.length - k) 0 ⟨Nat.zero_le _, rfl⟩ ?_ ?_ ?_)))))))))
  · exact sub_end
  · (repeat (first | exact True.intro | refine ⟨rfl, ?_⟩))
  rintro k ⟨hk, hallS⟩
  by_cases hlt : k < l.length
  · have hlt2 : (k : Int) < ((l.map Sm.row).length : Int) := by omega
    refine am_ (R_ (M_ r_ (M_ r_ (o_ r_ (br_ r_ (fun hlen => o_ r_ (bw_ r_ r_ (T_ (aq_ r_ u_ (as_ (al_ (B_ (am_ (R_ (M_ r_ (o_ r_ (bz_ r_ r_ (M_ r_ ?_))))))))))))))))))
    refine ah_ r_ w_ b_ (bd_ r_ (ah_ r_ w_ b_ (bd_ r_ (ah_ r_ w_ b_ (cc_ r_ r_ g_ (Sm.row_eq _) r_ b_ (ah_ r_ w_ b_ (cf_ r_ r_ r_ b_ r_ b_ (ah_ r_ w_ b_ (cb_ r_ r_ (ah_ r_ w_ b_ (bd_ r_ (ah_ r_ w_ b_ (bj_ r_ r_ g_ (ah_ r_ w_ b_ (bm_ r_ (hI _) (o_ r_ (bv_ r_ w_ r_ (M_ r_ (jl_or 8 12 rfl rfl rfl rfl (nb rfl) ?_)))))))))))))))))))
    apply Exists.intro
    refine ⟨fun hb1 => ?_, ?_⟩
    exact ah_ r_ h_ b_ (bd_ r_ (ah_ r_ h_ b_ (bd_ r_ (ah_ r_ h_ b_ (cc_ r_ r_ g_ (Sm.row_eq _) r_ b_ (ah_ r_ h_ b_ (cf_ r_ r_ r_ b_ r_ b_ (ah_ r_ h_ b_ (cb_ r_ r_ (ah_ r_ h_ b_ (bd_ r_ (ah_ r_ h_ b_ (bj_ r_ r_ g_ (ah_ r_ h_ b_ (bm_ r_ (hI _) (ak_ (jq_seg 8 rfl rfl rfl (List.Perm.refl _))))))))))))))))))
    refine T_ (jc_cond rfl (fun hy => ?_) (fun hn => ?_))
    · have hres : dpF (n + 1) l = true := any_yes hlt (by unfold dpS; rw [hy]; rfl)
      refine R_ (E_ r_ (T_ (ar_ (aw_ (az_ (aw_ (aw_ (az_ (aw_ (jq_ret1 rfl rfl [] rfl (fun K h => by rw [hres] at h; exact h)))))))))))
    refine as_ (al_ (am_ (jc_cut (ι := Unit) [] (fun _ => (l[k].index).any dpx = false) (fun _ => [(0, .cell (.list (l.map Sm.row))), (1, In .i64 d), (5, In .i64 (k : Int))]) (fun _ => []) ?_ ?_)))
    · refine R_ (E_ r_ (T_ (au_ (jc_loopS (ι := Nat) [] (fun q => q ≤ (l[k].index).length ∧ ((l[k].index).take q).any dpx = false) (fun q => (6, In .i64 (q : Int)) :: [(0, .cell (.list (l.map Sm.row))), (1, In .i64 d), (5, In .i64 (k : Int))]) (fun _ => []) (fun q => (l[k].index).length - q) 0 ⟨Nat.zero_le _, rfl⟩ ?_ ?_ ?_))))
      · exact sub_end
      · (repeat (first | exact True.intro | refine ⟨rfl, ?_⟩))
      rintro q ⟨hq, hall⟩
      have eF : ((l[k].index).map T.row).length = (l[k].index).length := List.length_map _
      by_cases hltq : q < (l[k].index).length
      · have hltq2 : (q : Int) < (((l[k].index).map T.row).length : Int) := by omega
        have hrd := rd_eq 20 (l[k].index)[q] (Nat.le_refl _)
        by_cases hd : 8 < (l[k].index)[q].dep
        · have hd2 : (8 : Int) < (rd 20 (l[k].index)[q] : Int) := by omega
          have hyes : (l[k].index).any dpx = true := any_yes hltq (by unfold dpx; exact decide_eq_true hd)
          have hres : dpF (n + 1) l = true := any_yes hlt (by unfold dpS; rw [hyes]; simp)
          refine am_ (R_ (M_ r_ (M_ r_ (M_ r_ (o_ r_ (cc_ r_ r_ g_ (Sm.row_eq _) r_ b_ (o_ r_ (cf_ r_ r_ r_ b_ r_ b_ (o_ r_ (cb_ r_ r_ (o_ r_ (br_ r_ (fun hlen => o_ r_ (bw_ r_ r_ (T_ (aq_ r_ u_ (as_ (al_ (B_ (R_ ?_))))))))))))))))))))
          refine M_ r_ (M_ r_ (o_ r_ (cc_ r_ r_ g_ (Sm.row_eq _) r_ b_ (o_ r_ (cf_ r_ r_ r_ b_ r_ b_ (o_ r_ (cb_ r_ r_ (M_ r_ (o_ r_ (cc_ r_ r_ g_ (T.row_eq _) r_ b_ (o_ r_ (cr_ r_ r_ r_ (o_ r_ (bm_ r_ (RDepth_c _) (o_ r_ (bz_ r_ r_ (T_ (aq_ r_ u_ (R_ (E_ r_ (T_ (ar_ ?_))))))))))))))))))))))
          refine az_ (aw_ (aw_ (az_ (aw_ (az_ (aw_ (aw_ (az_ (aw_ (jq_ret1 rfl rfl [] rfl (fun K h => by rw [hres] at h; exact h)))))))))))
        · have hd2 : ¬ (8 : Int) < (rd 20 (l[k].index)[q] : Int) := by omega
          refine am_ (R_ (M_ r_ (M_ r_ (M_ r_ (o_ r_ (cc_ r_ r_ g_ (Sm.row_eq _) r_ b_ (o_ r_ (cf_ r_ r_ r_ b_ r_ b_ (o_ r_ (cb_ r_ r_ (o_ r_ (br_ r_ (fun hlen => o_ r_ (bw_ r_ r_ (T_ (aq_ r_ u_ (as_ (al_ (B_ (R_ ?_))))))))))))))))))))
          refine M_ r_ (M_ r_ (o_ r_ (cc_ r_ r_ g_ (Sm.row_eq _) r_ b_ (o_ r_ (cf_ r_ r_ r_ b_ r_ b_ (o_ r_ (cb_ r_ r_ (M_ r_ (o_ r_ (cc_ r_ r_ g_ (T.row_eq _) r_ b_ (o_ r_ (cr_ r_ r_ r_ (o_ r_ (bm_ r_ (RDepth_c _) (o_ r_ (bz_ r_ r_ (T_ (ap_ r_ w_ (as_ (ay_ (al_ (an_ ?_))))))))))))))))))))))
          refine M_ r_ (o_ r_ (bj_ r_ r_ g_ (E_ r_ (ak_ (jq_againS (q + 1) ⟨hltq, any_snoc hltq hall (by unfold dpx; exact decide_eq_false hd)⟩ g_ ?_ ?_)))))
          · exact sub_end
          · (repeat (first | exact True.intro | refine ⟨rfl, ?_⟩))
      · have hltq2 : ¬ (q : Int) < (((l[k].index).map T.row).length : Int) := by omega
        refine am_ (R_ (M_ r_ (M_ r_ (M_ r_ (o_ r_ (cc_ r_ r_ g_ (Sm.row_eq _) r_ b_ (o_ r_ (cf_ r_ r_ r_ b_ r_ b_ (o_ r_ (cb_ r_ r_ (o_ r_ (br_ r_ (fun hlen => o_ r_ (bw_ r_ r_ (T_ (ap_ r_ w_ (av_ (ax_ (ax_ (ba_ ?_))))))))))))))))))))
        refine jq_cutS () (by rw [List.take_of_length_le g_] at hall; exact hall) ?_ ?_
        · exact sub_end
        · (repeat (first | exact True.intro | refine ⟨rfl, ?_⟩))
    intro _ hi1
    refine R_ (E_ r_ (T_ (au_ (jc_loopS (ι := Nat) [] (fun q => q ≤ (l[k].value).length ∧ ((l[k].value).take q).any dpx = false) (fun q => (7, In .i64 (q : Int)) :: [(0, .cell (.list (l.map Sm.row))), (1, In .i64 d), (5, In .i64 (k : Int))]) (fun _ => []) (fun q => (l[k].value).length - q) 0 ⟨Nat.zero_le _, rfl⟩ ?_ ?_ ?_))))
    · exact sub_end
    · (repeat (first | exact True.intro | refine ⟨rfl, ?_⟩))
    rintro q ⟨hq, hall⟩
    have eF : ((l[k].value).map T.row).length = (l[k].value).length := List.length_map _
    by_cases hltq : q < (l[k].value).length
    · have hltq2 : (q : Int) < (((l[k].value).map T.row).length : Int) := by omega
      have hrd := rd_eq 20 (l[k].value)[q] (Nat.le_refl _)
      by_cases hd : 8 < (l[k].value)[q].dep
      · have hd2 : (8 : Int) < (rd 20 (l[k].value)[q] : Int) := by omega
        have hyes : (l[k].value).any dpx = true := any_yes hltq (by unfold dpx; exact decide_eq_true hd)
        have hres : dpF (n + 1) l = true := any_yes hlt (by unfold dpS; rw [hyes]; simp)
        refine am_ (R_ (M_ r_ (M_ r_ (M_ r_ (o_ r_ (cc_ r_ r_ g_ (Sm.row_eq _) r_ b_ (o_ r_ (cf_ r_ r_ r_ b_ r_ b_ (o_ r_ (cb_ r_ r_ (o_ r_ (br_ r_ (fun hlen => o_ r_ (bw_ r_ r_ (T_ (aq_ r_ u_ (as_ (al_ (B_ (R_ ?_))))))))))))))))))))
        refine M_ r_ (M_ r_ (o_ r_ (cc_ r_ r_ g_ (Sm.row_eq _) r_ b_ (o_ r_ (cf_ r_ r_ r_ b_ r_ b_ (o_ r_ (cb_ r_ r_ (M_ r_ (o_ r_ (cc_ r_ r_ g_ (T.row_eq _) r_ b_ (o_ r_ (cr_ r_ r_ r_ (o_ r_ (bm_ r_ (RDepth_c _) (o_ r_ (bz_ r_ r_ (T_ (aq_ r_ u_ (R_ (E_ r_ (T_ (ar_ ?_))))))))))))))))))))))
        refine az_ (aw_ (aw_ (az_ (az_ (aw_ (aw_ (az_ (aw_ (jq_ret1 rfl rfl [] rfl (fun K h => by rw [hres] at h; exact h))))))))))
      · have hd2 : ¬ (8 : Int) < (rd 20 (l[k].value)[q] : Int) := by omega
        refine am_ (R_ (M_ r_ (M_ r_ (M_ r_ (o_ r_ (cc_ r_ r_ g_ (Sm.row_eq _) r_ b_ (o_ r_ (cf_ r_ r_ r_ b_ r_ b_ (o_ r_ (cb_ r_ r_ (o_ r_ (br_ r_ (fun hlen => o_ r_ (bw_ r_ r_ (T_ (aq_ r_ u_ (as_ (al_ (B_ (R_ ?_))))))))))))))))))))
        refine M_ r_ (M_ r_ (o_ r_ (cc_ r_ r_ g_ (Sm.row_eq _) r_ b_ (o_ r_ (cf_ r_ r_ r_ b_ r_ b_ (o_ r_ (cb_ r_ r_ (M_ r_ (o_ r_ (cc_ r_ r_ g_ (T.row_eq _) r_ b_ (o_ r_ (cr_ r_ r_ r_ (o_ r_ (bm_ r_ (RDepth_c _) (o_ r_ (bz_ r_ r_ (T_ (ap_ r_ w_ (as_ (ay_ (al_ (an_ ?_))))))))))))))))))))))
        refine M_ r_ (o_ r_ (bj_ r_ r_ g_ (E_ r_ (ak_ (jq_againS (q + 1) ⟨hltq, any_snoc hltq hall (by unfold dpx; exact decide_eq_false hd)⟩ g_ ?_ ?_)))))
        · exact sub_end
        · (repeat (first | exact True.intro | refine ⟨rfl, ?_⟩))
    · have hltq2 : ¬ (q : Int) < (((l[k].value).map T.row).length : Int) := by omega
      refine am_ (R_ (M_ r_ (M_ r_ (M_ r_ (o_ r_ (cc_ r_ r_ g_ (Sm.row_eq _) r_ b_ (o_ r_ (cf_ r_ r_ r_ b_ r_ b_ (o_ r_ (cb_ r_ r_ (o_ r_ (br_ r_ (fun hlen => o_ r_ (bw_ r_ r_ (T_ (ap_ r_ w_ (av_ (ax_ (ax_ (ba_ ?_))))))))))))))))))))
      refine ay_ (al_ (an_ (M_ r_ (o_ r_ (bj_ r_ r_ g_ (E_ r_ (ak_ ?_)))))))
      rw [List.take_of_length_le (by omega)] at hall
      have hS : dpS (dpF n) l[k] = false := by unfold dpS; rw [hn, hi1, hall]; rfl
      refine jq_againS (k + 1) ⟨hlt, any_snoc hlt hallS hS⟩ g_ ?_ ?_
      · exact sub_end
      · (repeat (first | exact True.intro | refine ⟨rfl, ?_⟩))
  · have hlt2 : ¬ (k : Int) < ((l.map Sm.row).length : Int) := by omega
    have hres : dpF (n + 1) l = false := by rw [List.take_of_length_le (by omega)] at hallS; exact hallS
    refine am_ (R_ (M_ r_ (M_ r_ (o_ r_ (br_ r_ (fun hlen => o_ r_ (bw_ r_ r_ (T_ (ap_ r_ w_ (av_ (ax_ (ax_ (ba_ (al_ (R_ (E_ r_ (T_ ?_)))))))))))))))))
    refine ar_ (jq_ret1 rfl rfl [] rfl (fun K h => by rw [hres] at h; exact h))
theorem rdeep_c : ∀ n : Nat, n ≤ 8 → RDeepP n
  | 0, _ => rdeep_zero
  | n + 1, h => rdeep_succ n h (rdeep_c n (by omega))
theorem rDeep_c (l : List Sm) : Con Tryd.prog 60 [.cell (.list (l.map Sm.row))] [] (fun K => K (Bl (dpF 8 l)) []) := by
  have h := rdeep_c 8 (Nat.le_refl _) l
  refine con_intro Tryd.func60 rfl rfl (Nat.le_of_ble_eq_true rfl) (fun c hc => R_ (E_ r_ (T_ (R_ (M_ r_ (o_ r_ (bm_ r_ (h) (E_ r_ (T_ (ar_ (jq_ret1 rfl rfl [] rfl (fun K h => h))))))))))))
end Go.Proofs.YtamajcgdfjeehaaDoor
end

section
namespace Go.Vc
open Go.RowKit

/-! append(b, s...): a string behind bytes of one's own -/
theorem append_string_new {P : Program} (w : World) (t u ty e : TypeId) (i : TypeInfo) (ht : P.underlying t = some (.slice e)) (hu : P.underlying u = some .string) (hi : P.info? e = some i) (hz : i.zero = some (.int .u8 0))
    (hsize : i.size = 1) (hby : i.bytes = 1) (v : Value) (n : Nat) (xs : List Value) (hown : w.ownsRow 0 e 1 v n xs) (s : ByteArray) (hbytes : n + s.size ≤ 140737488355328) {v' : Value} {w' : World}
    (hrun : (Builtin.append_ #[t, u] ty #[v, .string s]).run P w = .ok v' w') : ∀ b, v'.ownBlock = some b → v.ownBlock = some b ∨ w.heap.size ≤ b := by
  have hxl : xs.length = n := by simpa using hown.1
  intro b hb
  rcases hown.2 with ⟨rfl, rfl⟩ | ⟨g, cap, cur, rfl, hbg, hg, hnc, hcm, hcs, htake⟩
  · by_cases hm : s.size = 0
    · have hf := Lib.run_firstCells_string (P := P) w 1 s
      rw [hm] at hf
      have hn : Lib.strCells s = [] := List.eq_nil_of_length_eq_zero (by rw [Lib.strCells_length]; exact hm)
      simp [Builtin.append_, run_underlying ht, run_underlying hu, sizeOf, typeInfo, hi, hsize, Builtin.lenOf, hm, hf, hn] at hrun
      rw [← hrun.1] at hb
      simp [Value.ownBlock] at hb
    · have hr := run_append_nil_string (P := P) w t u ty e i (.int .u8 0) ht hu hi hz s (by omega) (by omega) (by rw [hby]; omega)
      rw [hr] at hrun
      simp only [Result.ok.injEq] at hrun
      rw [← hrun.1] at hb
      simp only [Value.ownBlock, Option.some.injEq] at hb
      exact .inr (by omega)
  · by_cases hroom : n + s.size ≤ cap
    · have hcs' : cur.size = cap := by simpa using hcs
      have hr := Lib.run_append_room_string (P := P) w t u ty e i ht hu hi hsize g n cap cur hg s hroom (by omega)
      rw [hr] at hrun
      simp only [Result.ok.injEq] at hrun
      rw [← hrun.1] at hb
      exact .inl hb
    · have holds : ∀ j u, xs[j]? = some u → w.cell? ((⟨g, 0, none⟩ : Addr).add j) = some u := hown.cells (g := g) rfl
      have hr := Lib.run_append_grow_string (P := P) w t u ty e i (.int .u8 0) ht hu hi hz ⟨g, 0, none⟩ n cap xs (by rw [hsize]; simpa using hxl) holds s (by omega) (by omega) (by rw [hby]; exact growslice_fits (by omega) (by omega))
      rw [hr] at hrun
      simp only [Result.ok.injEq] at hrun
      rw [← hrun.1] at hb
      simp only [Value.ownBlock, Option.some.injEq] at hb
      exact .inr (by omega)
theorem rdRows_bytes {w : World} {A : Nat → Prop} (s : ByteArray) : RdRows w A 1 ((bytesI s).map Brow) (Lib.strCells s) := by
  have : ∀ l : List UInt8, RdRows w A 1 ((l.map fun b => (b.toNat : Int)).map Brow) (l.map fun b => Value.int .u8 b.toNat) := by
    intro l
    induction l with
    | nil => rfl
    | cons b l ih => exact ⟨[.int .u8 b.toNat], _, rfl, rfl, ⟨_, _, rfl, ⟨rfl, rfl⟩, rfl⟩, ih⟩
  exact this s.data.toList
theorem ba_lit (l : List UInt8) : (⟨l.toArray⟩ : ByteArray).size = l.length := rfl
theorem bytesI_app (s t : ByteArray) : bytesI (s ++ t) = bytesI s ++ bytesI t := by simp [bytesI]
theorem bytesOf_bytesI (s : ByteArray) : bytesOf (bytesI s) = s := by
  have h1 : ∀ (l : List UInt8) (r : ByteArray), (l.map fun b => (b.toNat : Int)).foldl (fun r n => r.push (UInt8.ofNat n.toNat)) r = r ++ ⟨l.toArray⟩ := by
    intro l
    induction l with
    | nil => intro r; apply ByteArray.ext; simp
    | cons b l ih =>
      intro r
      rw [List.map_cons, List.foldl_cons, ih]
      apply ByteArray.ext
      simp [ByteArray.push]
  have h2 := h1 s.data.toList ByteArray.empty
  unfold bytesOf bytesI
  rw [h2]
  apply ByteArray.ext
  simp
section
variable {P : Program} [Gl P] {nt : Nat} {c : Cx P nt} {env : Env} {H : List Ch} {K : S → List Ch → Prop}
variable {d : Option Tmp} {ty t u : TypeId} {pos : String} {af : Array Edge} {g : Option (Nat × Bool)} {x y : Operand}
theorem ow_appendS {v : Value} {X s : ByteArray} {e : TypeId} {Hr : List Ch} [SL P t] [TI P u] (j : Nat) (hu : TI.u P u = .string) (hx : env.ev x = some (.cell (.val v))) (hy : env.ev y = some (Str s)) (hp : pick [j] H = some ([.own v e 1 ((bytesI X).map Brow)], Hr)) (he : e = SL.e P t)
    (hz : (TI.i P (SL.e P t)).zero = some (.int .u8 0)) (hsz : (TI.i P (SL.e P t)).size = 1) (hby : (TI.i P (SL.e P t)).bytes = 1) (hlim : X.size + s.size ≤ 140737488355328)
    (hK : ∀ v', (c.Fresh v → c.Fresh v') → K (.cell (.val v')) (.own v' e 1 ((bytesI (X ++ s)).map Brow) :: Hr)) :
    OpWp c ⟨d, .call { callee := .builtin .append, args := #[x, y], argTypes := #[t, u] }, ty, pos, af, g⟩ env H K := by
  subst he
  intro a w h next Q hn
  have hperm := pick_perm hp
  have h' : StW c (.own v (SL.e P t) 1 ((bytesI X).map Brow) :: Hr) w := h.heap.perm hperm
  have hav : c.av (.own v (SL.e P t) 1 ((bytesI X).map Brow) :: Hr) = c.av H := av_perm c hperm
  obtain ⟨vs, ho, hr, hk⟩ := h'.ok (.own v (SL.e P t) 1 ((bytesI X).map Brow)) (by simp)
  have h1x := ev_val h hx
  have h1y := ev_val h hy
  have eX : ((bytesI X).map Brow).length = X.size := by rw [List.length_map, bytesI_len]
  rw [eX] at ho
  have hu' : P.underlying u = some .string := by rw [TI.hu (P := P) (t := u), hu]
  obtain ⟨v', w', hrun, ho', hg, _⟩ := Lib.run_append_own_string (P := P) w 0 t u ty (SL.e P t) (TI.i P (SL.e P t)) SL.hs hu' TI.hi hz hsz hby v X.size vs ho s (by unfold maxLen; omega) hlim (Nat.zero_le _)
  have hnew := append_string_new (P := P) w t u ty (SL.e P t) (TI.i P (SL.e P t)) SL.hs hu' TI.hi hz hsz hby v X.size vs ho s hlim hrun
  have hgr : Grow (hb [.own v (SL.e P t) 1 ((bytesI X).map Brow)]) w w' := by
    have := Grow.of_grownBy hg
    simpa [hb, Ch.bs] using this
  have hAold : ∀ b, c.av (.own v' (SL.e P t) 1 ((bytesI (X ++ s)).map Brow) :: Hr) b → c.av H b ∨ w.heap.size ≤ b := by
    intro b hbm
    rcases hbm with hbm | hbm
    · exact .inl (.inl hbm)
    · simp only [hb_cons, Ch.bs, List.mem_append, Option.mem_toList] at hbm
      rw [← hav]
      rcases hbm with hbm | hbm
      · rcases hnew b hbm with h1 | h1
        · exact .inl (.inr (by simp [hb_cons, Ch.bs, h1]))
        · exact .inr h1
      · exact .inl (.inr (by simp only [hb_cons, List.mem_append]; exact .inr hbm))
  have hupA : Up (c.av H) w w' := by
    refine hgr.up (fun b hbm => ?_)
    rw [← hav]
    exact .inr (by simp only [hb, List.flatMap_cons, List.flatMap_nil, List.append_nil] at hbm; simp only [hb_cons, List.mem_append]; exact .inl hbm)
  obtain ⟨s1, s2⟩ := StW.step (H1 := [.own v (SL.e P t) 1 ((bytesI X).map Brow)]) (H1' := [.own v' (SL.e P t) 1 ((bytesI (X ++ s)).map Brow)]) h' hgr
    (by
      intro b hbm
      simp only [hb, Ch.bs, List.flatMap_cons, List.flatMap_nil, List.append_nil, Option.mem_toList] at hbm ⊢
      exact hnew b hbm)
    (by cases hv : v'.ownBlock <;> simp [hb, Ch.bs, hv])
    (by
      intro ch hch
      simp only [List.mem_singleton] at hch
      subst hch
      refine ⟨vs ++ Lib.strCells s, ?_, ?_, hk⟩
      · rw [List.length_map, bytesI_len, ByteArray.size_append]; exact ho'
      · rw [bytesI_app, List.map_append]
        exact rdRows_append (rdRows_up hupA hAold 1 _ vs (hav ▸ hr)) (rdRows_bytes s))
  unfold Oper.wp
  have hex : (execOp a.eval ⟨d, .call { callee := .builtin .append, args := #[x, y], argTypes := #[t, u] }, ty, pos, af, g⟩).run P w = .ok (.value v') w' := by
    simp only [execOp, resolve, invoke, builtin, Sem.run_bind, Sem.run_pure, Result.andThen_ok, List.map_toArray, List.map_cons, List.map_nil, h1x, h1y, hrun]
  rw [hex]
  obtain ⟨al, ac, hv'⟩ := own_len ho'
  have h1' : v'.oneCell' = true := by rw [hv']; rfl
  exact hn _ _ _ _ (hK v' (fun hf b hb => (hnew b hb).elim (hf b) (fun h => Nat.le_trans h'.size h))) s1 ⟨rfl, h1'⟩ (fun s v hs => s2 s v (by rw [List.singleton_append, hav]; exact hs))
end
end Go.Vc
end

section
namespace Go.Proofs.YtamajcgdfjeehaaDoor
open Go.Vc
attribute [local irreducible] JL JC JQ OpWp Con ConN
attribute [local irreducible] byteAt runLen isL isD isName hasW rd fineS numS textT hdT stsT stT
set_option maxHeartbeats 4000000

/-! The text of statements, behind bytes -/
abbrev Bw (v : Value) (X : ByteArray) : Ch := .own v 5 1 ((bytesI X).map Brow)
def RBody (n : Nat) : Prop := ∀ (l : List Sm) (sp X : ByteArray) (v : Value), (∀ s ∈ l, fineS n s) → sp.size + 2 * n ≤ 100 → X.size + 60000 * Sm.szs l ≤ 100000000000000 →
  Con Tryd.prog 62 [.cell (.val v), .cell (.list (l.map Sm.row)), Str sp] [Bw v X] (fun K => ∀ v' : Value, True → K (.cell (.val v')) [Bw v' (X ++ stsT sp l)])
theorem hdT1 {s : Sm} {x : T} (hk : s.kind = 1) (hv : s.value = [x]) : hdT s = ((s.name ++ Kst) ++ textT x) ++ Knl := by unfold hdT; rw [if_pos hk, hv]; rfl
theorem hdT2 {s : Sm} {x y : T} (hk : s.kind = 2) (hi : s.index = [y]) (hv : s.value = [x]) : hdT s = ((((s.name ++ Kx1) ++ textT y) ++ Kx2) ++ textT x) ++ Knl := by unfold hdT; rw [if_neg (by omega), if_pos hk, hv, hi]; rfl
theorem hdT3 {s : Sm} {x : T} (hk : s.kind = 3) (hv : s.value = [x]) : hdT s = (((Kif2 ++ textT x) ++ Klab) ++ numS s.label) ++ Kopen := by unfold hdT; rw [if_neg (by omega), if_neg (by omega), if_pos hk, hv]; rfl
theorem hdT4 {s : Sm} {x : T} (hk : s.kind = 4) (hv : s.value = [x]) : hdT s = (((((Kwh ++ textT x) ++ Kmx) ++ numS s.max) ++ Klab) ++ numS s.label) ++ Kopen := by unfold hdT; rw [if_neg (by omega), if_neg (by omega), if_neg (by omega), if_pos hk, hv]; rfl
theorem hdT5 {s : Sm} (hk : s.kind = 5) : hdT s = (Klk ++ s.name) ++ Kopen := by unfold hdT; rw [if_neg (by omega), if_neg (by omega), if_neg (by omega), if_neg (by omega)]
theorem row1 {s : Sm} {x : T} (h : s.value = [x]) : s.row' = [.val (.int .i64 s.kind), .val (.string s.name), .list (s.index.map T.row), .list ([x].map T.row), .val (.int .i64 s.max), .val (.int .i64 s.label), .list (s.thn.map Sm.row), .list (s.els.map Sm.row)] := by
  rw [← h]
theorem row2 {s : Sm} {x y : T} (hi : s.index = [y]) (h : s.value = [x]) : s.row' = [.val (.int .i64 s.kind), .val (.string s.name), .list ([y].map T.row), .list ([x].map T.row), .val (.int .i64 s.max), .val (.int .i64 s.label), .list (s.thn.map Sm.row), .list (s.els.map Sm.row)] := by
  rw [← h, ← hi]
theorem rtextF_c {t : T} (h : Fx t) : Con Tryd.prog 55 [.row t.row'] [] (fun K => K (Str (textT t)) []) := rtext_c t h.1 (text_small h.1 h.2)
theorem rnumF_c {n : Int} (h : Pl n) : Con Tryd.prog 61 [In .i64 n] [] (fun K => K (Str (numS n)) []) := refNumber_c n ⟨by have := h.1; omega, h.2⟩
theorem rbody_step (n : Nat) (hrec : ∀ n', n = n' + 1 → RBody n') : RBody n := by
  intro l sp X v0 hfine hsp hX
  have eL : (l.map Sm.row).length = l.length := List.length_map _
  refine con_intro Tryd.func62 rfl rfl (Nat.le_of_ble_eq_true rfl) (fun c hc => R_ (E_ r_ (T_ (am_ (R_ (E_ r_ (T_ (au_ (jc_loopS (ι := Nat × Value) [] (fun i => i.1 ≤ l.length) (fun i => [(0, .cell (.val i.2)), (1, .cell (.list (l.map Sm.row))), (2, Str sp), (7, In .i64 (i.1 : Int))]) (fun i => [Bw i.2 (X ++ stsT sp (l.take i.1))]) (fun i => l.length - i.1) (0, v0) (Nat.zero_le _) ?_ ?_ ?_)))))))))
  · rw [show X ++ stsT sp (l.take 0) = X by rw [List.take_zero, stsT, ba_nil]]
    exact bc_ 0 r_ sub_end
  · (repeat (first | exact True.intro | refine ⟨rfl, ?_⟩))
  rintro ⟨k, v⟩ hk
  dsimp only at hk ⊢
  by_cases hlt : k < l.length
  · have hlt2 : (k : Int) < ((l.map Sm.row).length : Int) := by omega
    have hfk := hfine l[k] (List.getElem_mem hlt)
    have hszk := szs_take_succ hlt
    have hs0 := sts_size (l := l.take k) (fun s hs => hfine s (List.mem_of_mem_take hs)) hsp
    have hsk := st_size n sp l[k] hfk hsp
    have hYs : (X ++ stsT sp (l.take k)).size + 60000 * l[k].sz ≤ 100000000000000 := by rw [ByteArray.size_append]; omega
    have hnext : X ++ stsT sp (l.take (k + 1)) = (X ++ stsT sp (l.take k)) ++ stT sp l[k] := by rw [stsT_take sp hlt, ByteArray.append_assoc]
    generalize X ++ stsT sp (l.take k) = Y at hYs hnext ⊢
    have hz1 : 1 ≤ l[k].sz := by rw [Sm.sz_eq]; omega
    refine am_ (R_ (M_ r_ (M_ r_ (o_ r_ (br_ r_ (fun hlen => o_ r_ (bw_ r_ r_ (T_ (aq_ r_ u_ (as_ (al_ (B_ (R_ (M_ r_ (M_ r_ (o_ r_ (cc_ r_ r_ g_ (Sm.row_eq _) r_ b_ (o_ r_ (cr_ r_ r_ r_ ?_)))))))))))))))))))
    refine o_ r_ (bl_ r_ r_ (fun bl => S_ 0 r_ (T_ (R_ (M_ r_ (M_ r_ (o_ r_ (ow_appendS 1 rfl rfl rfl rfl rfl rfl rfl rfl g_ (fun v1 _ => E_ r_ (T_ (am_ ?_)))))))))))
    obtain ⟨s, hs⟩ : ∃ s, s = l[k] := ⟨_, rfl⟩
    rw [← hs] at hfk hsk hYs hnext hz1 ⊢
    have hhd := hd_size hfk
    have hY2 : (Y ++ sp).size = Y.size + sp.size := ByteArray.size_append ..
    obtain ⟨n', rfl⟩ : ∃ n', n = n' + 1 := by
      cases n with
      | zero => exact absurd hfk (by unfold fineS; exact id)
      | succ n => exact ⟨n, rfl⟩
    have hrec := hrec n' rfl
    unfold fineS at hfk
    refine jc_cut (ι := Value) [] (fun _ => 3 ≤ s.kind) (fun v => [(0, .cell (.val v)), (1, .cell (.list (l.map Sm.row))), (2, Str sp), (7, In .i64 (k : Int)), (8, .cell (.val (.pointer (some ⟨bl, 0, none⟩))))]) (fun v => [Bw v ((Y ++ sp) ++ hdT s), .blk bl 52 s.row']) ?_ ?_
    · rcases hfk with ⟨hk1, hn, x, hv, fx⟩ | ⟨hk1, hn, y, x, hi, hv, fy, fx⟩ | ⟨hk1, ⟨x, hv, fx⟩, hl, _⟩ | ⟨hk1, ⟨x, hv, fx⟩, hm, hl, _⟩ | ⟨hk1, hn, _⟩
      · rw [row1 hv]
        have ehd := hdT1 hk1 hv
        have e1 : [x].length = 1 := rfl
        have hxs := fx.size
        have hns := name_size hn
        have ht := rtextF_c fx
        refine R_ (F_ r_ (L_ 1 r_ (T_ (au_ (R_ (o_ r_ (bn_ r_ r_ (E_ r_ (T_ (aq_ r_ u_ (am_ (jc_anyB 11 none rfl k_ k_ (yM_ r_ (yF_ r_ (yL_ 1 r_ (aa_ (fun c => ow_strcat rfl rfl (by simp only [ByteArray.size_append, ba_lit, List.length_cons, List.length_nil] ; omega) p_) ?_))))))))))))))))
        refine yF_ r_ (yL_ 1 r_ (aa_ (fun c => cv_ r_ r_ g_ g_ (T.row_eq _) r_ b_ p_) (aa_ (fun c => cr_ r_ r_ r_ p_) (aa_ (fun c => bm_ r_ (ht) p_) (aa_ (fun c => ow_strcat rfl rfl (by simp only [ByteArray.size_append, ba_lit, List.length_cons, List.length_nil] ; omega) p_) (aa_ (fun c => ow_strcat rfl rfl (by simp only [ByteArray.size_append, ba_lit, List.length_cons, List.length_nil] ; omega) p_) (ae_ (afin_none ?_))))))))
        refine o_ r_ (ow_appendS 0 rfl rfl rfl rfl rfl rfl rfl rfl (by rw [← ehd] ; omega) (fun v1 _ => E_ r_ (T_ (av_ (bb_ r_ (ax_ (ba_ (al_ (an_ (M_ r_ (o_ r_ (bj_ r_ r_ g_ (E_ r_ (ak_ ?_))))))))))))))
        rw [← ehd]
        refine jq_againS (i := (k, v)) (k + 1, v1) hlt (by dsimp only; omega) ?_ ?_
        · dsimp only
          rw [hnext, stT_leaf sp (.inl hk1), ← ByteArray.append_assoc]
          exact bc_ 0 r_ sub_end
        · (repeat (first | exact True.intro | refine ⟨rfl, ?_⟩))
      · rw [row2 hi hv]
        have ehd := hdT2 hk1 hi hv
        have e1 : [x].length = 1 := rfl
        have e2 : [y].length = 1 := rfl
        have hxs := fx.size
        have hys := fy.size
        have hns := name_size hn
        have ht := rtextF_c fx
        have ht2 := rtextF_c fy
        refine R_ (F_ r_ (L_ 1 r_ (T_ (au_ (R_ (o_ r_ (bn_ r_ r_ (E_ r_ (T_ (ap_ r_ v_ (R_ (o_ r_ (bn_ r_ r_ (E_ r_ (T_ (aq_ r_ u_ (am_ ?_)))))))))))))))))
        refine jc_anyB 18 none rfl k_ k_ (yM_ r_ (yF_ r_ (yL_ 1 r_ (aa_ (fun c => ow_strcat rfl rfl (by simp only [ByteArray.size_append, ba_lit, List.length_cons, List.length_nil] ; omega) p_) (yF_ r_ (yL_ 1 r_ (aa_ (fun c => cv_ r_ r_ g_ g_ (T.row_eq _) r_ b_ p_) (aa_ (fun c => cr_ r_ r_ r_ p_) (aa_ (fun c => bm_ r_ (ht2) p_) ?_)))))))))
        refine aa_ (fun c => ow_strcat rfl rfl (by simp only [ByteArray.size_append, ba_lit, List.length_cons, List.length_nil] ; omega) p_) (aa_ (fun c => ow_strcat rfl rfl (by simp only [ByteArray.size_append, ba_lit, List.length_cons, List.length_nil] ; omega) p_) (yF_ r_ (yL_ 1 r_ (aa_ (fun c => cv_ r_ r_ g_ g_ (T.row_eq _) r_ b_ p_) (aa_ (fun c => cr_ r_ r_ r_ p_) (aa_ (fun c => bm_ r_ (ht) p_) ?_))))))
        refine aa_ (fun c => ow_strcat rfl rfl (by simp only [ByteArray.size_append, ba_lit, List.length_cons, List.length_nil] ; omega) p_) (aa_ (fun c => ow_strcat rfl rfl (by simp only [ByteArray.size_append, ba_lit, List.length_cons, List.length_nil] ; omega) p_) (ae_ (afin_none (o_ r_ (ow_appendS 0 rfl rfl rfl rfl rfl rfl rfl rfl (by rw [← ehd] ; omega) (fun v1 _ => E_ r_ (T_ (av_ (bb_ r_ (ax_ (ba_ (al_ (an_ ?_)))))))))))))
        refine M_ r_ (o_ r_ (bj_ r_ r_ g_ (E_ r_ (ak_ ?_))))
        rw [← ehd]
        refine jq_againS (i := (k, v)) (k + 1, v1) hlt (by dsimp only; omega) ?_ ?_
        · dsimp only
          rw [hnext, stT_leaf sp (.inr hk1), ← ByteArray.append_assoc]
          exact bc_ 0 r_ sub_end
        · (repeat (first | exact True.intro | refine ⟨rfl, ?_⟩))
      · rw [row1 hv]
        have ehd := hdT3 hk1 hv
        have e1 : [x].length = 1 := rfl
        have hxs := fx.size
        have hls := hl.size
        have ht := rtextF_c fx
        have hN := rnumF_c hl
        refine R_ (F_ r_ (L_ 1 r_ (T_ (au_ (R_ (o_ r_ (bn_ r_ r_ (E_ r_ (T_ (ap_ r_ v_ (R_ (o_ r_ (bn_ r_ r_ (E_ r_ (T_ (ap_ r_ v_ (R_ ?_)))))))))))))))))
        refine o_ r_ (bn_ r_ r_ (E_ r_ (T_ (aq_ r_ u_ (jc_anyB 13 none rfl k_ k_ (yM_ r_ (yF_ r_ (yL_ 1 r_ (aa_ (fun c => cv_ r_ r_ g_ g_ (T.row_eq _) r_ b_ p_) (aa_ (fun c => cr_ r_ r_ r_ p_) (aa_ (fun c => bm_ r_ (ht) p_) (aa_ (fun c => ow_strcat rfl rfl (by simp only [ByteArray.size_append, ba_lit, List.length_cons, List.length_nil] ; omega) p_) ?_))))))))))))
        refine aa_ (fun c => ow_strcat rfl rfl (by simp only [ByteArray.size_append, ba_lit, List.length_cons, List.length_nil] ; omega) p_) (yF_ r_ (yL_ 1 r_ (aa_ (fun c => bm_ r_ (hN) p_) (aa_ (fun c => ow_strcat rfl rfl (by simp only [ByteArray.size_append, ba_lit, List.length_cons, List.length_nil] ; omega) p_) ?_))))
        refine aa_ (fun c => ow_strcat rfl rfl (by simp only [ByteArray.size_append, ba_lit, List.length_cons, List.length_nil] ; omega) p_) (ae_ (afin_none (o_ r_ (ow_appendS 0 rfl rfl rfl rfl rfl rfl rfl rfl (by rw [← ehd] ; omega) (fun v1 _ => E_ r_ (ak_ (ay_ ?_)))))))
        rw [← ehd, ← row1 hv]
        refine jq_cutS v1 g_ ?_ ?_
        · exact bc_ 0 r_ (bc_ 0 r_ sub_end)
        · (repeat (first | exact True.intro | refine ⟨rfl, ?_⟩))
      · rw [row1 hv]
        have ehd := hdT4 hk1 hv
        have e1 : [x].length = 1 := rfl
        have hxs := fx.size
        have hls := hl.size
        have hms := hm.size
        have ht := rtextF_c fx
        have hN := rnumF_c hl
        have hM := rnumF_c hm
        refine R_ (F_ r_ (L_ 1 r_ (T_ (au_ (R_ (o_ r_ (bn_ r_ r_ (E_ r_ (T_ (ap_ r_ v_ (R_ (o_ r_ (bn_ r_ r_ (E_ r_ (T_ (ap_ r_ v_ (R_ ?_)))))))))))))))))
        refine o_ r_ (bn_ r_ r_ (E_ r_ (T_ (ap_ r_ v_ (R_ (o_ r_ (bn_ r_ r_ (E_ r_ (T_ (aq_ r_ u_ (jc_anyB 18 none rfl k_ k_ (yM_ r_ (yF_ r_ (yL_ 1 r_ (aa_ (fun c => cv_ r_ r_ g_ g_ (T.row_eq _) r_ b_ p_) (aa_ (fun c => cr_ r_ r_ r_ p_) (aa_ (fun c => bm_ r_ (ht) p_) ?_)))))))))))))))))
        refine aa_ (fun c => ow_strcat rfl rfl (by simp only [ByteArray.size_append, ba_lit, List.length_cons, List.length_nil] ; omega) p_) (aa_ (fun c => ow_strcat rfl rfl (by simp only [ByteArray.size_append, ba_lit, List.length_cons, List.length_nil] ; omega) p_) (yF_ r_ (yL_ 1 r_ (aa_ (fun c => bm_ r_ (hM) p_) ?_))))
        refine aa_ (fun c => ow_strcat rfl rfl (by simp only [ByteArray.size_append, ba_lit, List.length_cons, List.length_nil] ; omega) p_) (aa_ (fun c => ow_strcat rfl rfl (by simp only [ByteArray.size_append, ba_lit, List.length_cons, List.length_nil] ; omega) p_) (yF_ r_ (yL_ 1 r_ (aa_ (fun c => bm_ r_ (hN) p_) ?_))))
        refine aa_ (fun c => ow_strcat rfl rfl (by simp only [ByteArray.size_append, ba_lit, List.length_cons, List.length_nil] ; omega) p_) (aa_ (fun c => ow_strcat rfl rfl (by simp only [ByteArray.size_append, ba_lit, List.length_cons, List.length_nil] ; omega) p_) (ae_ (afin_none (o_ r_ (ow_appendS 0 rfl rfl rfl rfl rfl rfl rfl rfl (by rw [← ehd] ; omega) (fun v1 _ => E_ r_ (ak_ (ay_ ?_))))))))
        rw [← ehd, ← row1 hv]
        refine jq_cutS v1 g_ ?_ ?_
        · exact bc_ 0 r_ (bc_ 0 r_ sub_end)
        · (repeat (first | exact True.intro | refine ⟨rfl, ?_⟩))
      · have ehd := hdT5 hk1
        have hns := name_size hn
        refine R_ (F_ r_ (L_ 1 r_ (T_ (au_ (R_ (o_ r_ (bn_ r_ r_ (E_ r_ (T_ (ap_ r_ v_ (R_ (o_ r_ (bn_ r_ r_ (E_ r_ (T_ (ap_ r_ v_ (R_ ?_)))))))))))))))))
        refine o_ r_ (bn_ r_ r_ (E_ r_ (T_ (ap_ r_ v_ (R_ (o_ r_ (bn_ r_ r_ (E_ r_ (T_ (ap_ r_ v_ (an_ (M_ r_ (F_ r_ (L_ 1 r_ (o_ r_ (ow_strcat rfl rfl (by simp only [ByteArray.size_append, ba_lit, List.length_cons, List.length_nil] ; omega) (o_ r_ (ow_strcat rfl rfl (by simp only [ByteArray.size_append, ba_lit, List.length_cons, List.length_nil] ; omega) ?_))))))))))))))))))
        refine o_ r_ (ow_appendS 0 rfl rfl rfl rfl rfl rfl rfl rfl (by rw [← ehd] ; omega) (fun v1 _ => E_ r_ (ak_ (ay_ ?_))))
        rw [← ehd]
        refine jq_cutS v1 g_ ?_ ?_
        · exact bc_ 0 r_ (bc_ 0 r_ sub_end)
        · (repeat (first | exact True.intro | refine ⟨rfl, ?_⟩))
    intro v3 hk3
    have hk12 : ¬ (s.kind = 1 ∨ s.kind = 2) := by omega
    have hthn : ∀ t ∈ s.thn, fineS n' t := by
      rcases hfk with h | h | h | h | h
      · exact absurd (.inl h.1) hk12
      · exact absurd (.inr h.1) hk12
      · exact h.2.2.2.1
      · exact h.2.2.2.2.1
      · exact h.2.2.1
    have hels : ∀ t ∈ s.els, fineS n' t := by
      rcases hfk with h | h | h | h | h
      · exact absurd (.inl h.1) hk12
      · exact absurd (.inr h.1) hk12
      · exact h.2.2.2.2
      · rw [h.2.2.2.2.2]; simp
      · rw [h.2.2.2]; simp
    have ez := Sm.sz_eq s
    have hsp2 : (sp ++ Ksp).size = sp.size + 2 := by rw [ByteArray.size_append]; rfl
    have hZ : ((Y ++ sp) ++ hdT s).size = (Y ++ sp).size + (hdT s).size := ByteArray.size_append ..
    have e1 : stT sp s = (sp ++ hdT s) ++ stsT (sp ++ Ksp) s.thn ++ (if s.els = [] then ⟨#[]⟩ else (sp ++ Kelse2) ++ stsT (sp ++ Ksp) s.els) ++ (sp ++ Kclose) := stT_node sp hk12
    have hT := sts_size hthn (sp := sp ++ Ksp) (by omega)
    have hE := sts_size hels (sp := sp ++ Ksp) (by omega)
    clear hfk
    generalize hZe : (Y ++ sp) ++ hdT s = Zt at hZ ⊢
    have con1 := hrec s.thn (sp ++ Ksp) Zt v3 hthn (by omega) (by omega)
    have hZ2 : (Zt ++ stsT (sp ++ Ksp) s.thn).size = Zt.size + (stsT (sp ++ Ksp) s.thn).size := ByteArray.size_append ..
    have eE : (s.els.map Sm.row).length = s.els.length := List.length_map _
    refine R_ (M_ r_ (F_ r_ (L_ 1 r_ (M_ r_ (o_ r_ (ow_strcat rfl rfl (by simp only [ByteArray.size_append, ba_lit, List.length_cons, List.length_nil] ; omega) (o_ r_ (bt_ [0] rfl rfl (con1) (fun pp hpp => E_ r_ (T_ (am_ ?_)))))))))))
    generalize hZ2e : Zt ++ stsT (sp ++ Ksp) s.thn = Z2 at hZ2 ⊢
    by_cases hnil : s.els = []
    · have hz : ¬ (0 : Int) < ((s.els.map Sm.row).length : Int) := by rw [hnil]; simp
      refine R_ (F_ r_ (L_ 1 r_ (o_ r_ (br_ r_ (fun hlen => o_ r_ (bz_ r_ r_ (T_ (ap_ r_ w_ (as_ (al_ (an_ (M_ r_ (M_ r_ (o_ r_ (ow_strcat rfl rfl (by simp only [ByteArray.size_append, ba_lit, List.length_cons, List.length_nil] ; omega) (o_ r_ (ow_appendS 0 rfl rfl rfl rfl rfl rfl rfl rfl (by simp only [ByteArray.size_append, ba_lit, List.length_cons, List.length_nil] ; omega) (fun v1 _ => E_ r_ (ak_ ?_)))))))))))))))))))
      refine ay_ (al_ (an_ (M_ r_ (o_ r_ (bj_ r_ r_ g_ (E_ r_ (ak_ (jq_againS (i := (k, v)) (k + 1, v1) hlt (by dsimp only; omega) ?_ ?_))))))))
      · dsimp only
        rw [hnext, e1, if_pos hnil, ba_nil, ← hZ2e, ← hZe]
        simp only [ByteArray.append_assoc]
        exact bc_ 0 r_ sub_end
      · (repeat (first | exact True.intro | refine ⟨rfl, ?_⟩))
    · have hz : (0 : Int) < ((s.els.map Sm.row).length : Int) := by
        have := List.length_pos_iff.2 hnil
        omega
      have hsp3 : (sp ++ Kelse2).size = sp.size + 9 := by rw [ByteArray.size_append]; rfl
      have hZ3 : (Z2 ++ (sp ++ Kelse2)).size = Z2.size + (sp ++ Kelse2).size := ByteArray.size_append ..
      have con2 := fun v => hrec s.els (sp ++ Ksp) (Z2 ++ (sp ++ Kelse2)) v hels (by omega) (by omega)
      refine R_ (F_ r_ (L_ 1 r_ (o_ r_ (br_ r_ (fun hlen => o_ r_ (bz_ r_ r_ (T_ (aq_ r_ u_ (R_ (M_ r_ (M_ r_ (o_ r_ (ow_strcat rfl rfl (by simp only [ByteArray.size_append, ba_lit, List.length_cons, List.length_nil] ; omega) (o_ r_ (ow_appendS 0 rfl rfl rfl rfl rfl rfl rfl rfl (by simp only [ByteArray.size_append, ba_lit, List.length_cons, List.length_nil] ; omega) (fun v1 _ => E_ r_ (T_ (an_ (M_ r_ ?_)))))))))))))))))))
      refine F_ r_ (L_ 1 r_ (M_ r_ (o_ r_ (ow_strcat rfl rfl (by simp only [ByteArray.size_append, ba_lit, List.length_cons, List.length_nil] ; omega) (o_ r_ (bt_ [0] rfl rfl (con2 _) (fun pp hpp => E_ r_ (T_ (an_ (M_ r_ (M_ r_ (o_ r_ (ow_strcat rfl rfl (by simp only [ByteArray.size_append, ba_lit, List.length_cons, List.length_nil] ; omega) ?_)))))))))))))
      refine o_ r_ (ow_appendS 0 rfl rfl rfl rfl rfl rfl rfl rfl (by simp only [ByteArray.size_append, ba_lit, List.length_cons, List.length_nil] ; omega) (fun v1 _ => E_ r_ (ak_ (ay_ (al_ (an_ (M_ r_ (o_ r_ (bj_ r_ r_ g_ (E_ r_ (ak_ (jq_againS (i := (k, v)) (k + 1, v1) hlt (by dsimp only; omega) ?_ ?_))))))))))))
      · dsimp only
        rw [hnext, e1, if_neg hnil, ← hZ2e, ← hZe]
        simp only [ByteArray.append_assoc]
        exact bc_ 0 r_ sub_end
      · (repeat (first | exact True.intro | refine ⟨rfl, ?_⟩))
  · have hlt2 : ¬ (k : Int) < ((l.map Sm.row).length : Int) := by omega
    rw [List.take_of_length_le (by omega)]
    refine am_ (R_ (M_ r_ (M_ r_ (o_ r_ (br_ r_ (fun hlen => o_ r_ (bw_ r_ r_ (T_ (ap_ r_ w_ (av_ (ax_ (ax_ (ba_ (al_ (R_ (M_ r_ (E_ r_ ?_)))))))))))))))))
    refine T_ (ar_ (jq_ret1 rfl rfl [0] rfl (fun K h => h v trivial)))
theorem rbody_c : ∀ n : Nat, RBody n
  | 0 => rbody_step 0 (fun n' h => by omega)
  | n + 1 => rbody_step (n + 1) (fun n' h => by obtain rfl : n' = n := by omega
                                                exact rbody_c n')
end Go.Proofs.YtamajcgdfjeehaaDoor
end

section
namespace Go.Proofs.YtamajcgdfjeehaaDoor
open Go.Vc
attribute [local irreducible] JL JC JQ OpWp Con ConN
attribute [local irreducible] byteAt runLen isL isD isName hasW rd fineS numS textT hdT stsT stT okSs
set_option maxHeartbeats 8000000

/-! The text of a program -/
def catL {α : Type} (f : α → ByteArray) : List α → ByteArray
  | [] => ⟨#[]⟩
  | a :: l => f a ++ catL f l
theorem catL_app {α : Type} (f : α → ByteArray) : ∀ l m : List α, catL f (l ++ m) = catL f l ++ catL f m
  | [], m => by rw [List.nil_append, catL, nil_ba]
  | a :: l, m => by rw [List.cons_append, catL, catL, catL_app f l m, ByteArray.append_assoc]
theorem catL_take {α : Type} (f : α → ByteArray) (Y : ByteArray) {l : List α} {k : Nat} (h : k < l.length) : Y ++ catL f (l.take (k + 1)) = (Y ++ catL f (l.take k)) ++ f l[k] := by
  rw [List.take_succ_eq_append_getElem h, catL_app, catL, catL, ba_nil, ByteArray.append_assoc]
theorem catL_size {α : Type} {f : α → ByteArray} {B : Nat} : ∀ {l : List α}, (∀ a ∈ l, (f a).size ≤ B) → (catL f l).size ≤ l.length * B
  | [], _ => by simp [catL]; rfl
  | a :: l, h => by
    have h1 := h a (by simp)
    have h2 := catL_size (l := l) (fun x hx => h x (by simp [hx]))
    rw [catL, ByteArray.size_append, List.length_cons, Nat.add_mul]
    omega
theorem catL_takeS {α : Type} {f : α → ByteArray} {B : Nat} {l : List α} (h : ∀ a ∈ l, (f a).size ≤ B) (k : Nat) : (catL f (l.take k)).size ≤ l.length * B := by
  have h1 := catL_size (l := l.take k) (fun a ha => h a (List.mem_of_mem_take ha))
  have h2 : (l.take k).length * B ≤ l.length * B := Nat.mul_le_mul_right _ (by rw [List.length_take]; omega)
  omega
def resT (x : ByteArray) : ByteArray := (((⟨#[114, 101, 115, 111, 117, 114, 99, 101, 32]⟩ : ByteArray) ++ x) ++ (⟨#[10]⟩ : ByteArray))
def shT (x : Shd) : ByteArray := (((((((⟨#[115, 104, 97, 114, 101, 100, 32]⟩ : ByteArray) ++ x.1) ++ (⟨#[32]⟩ : ByteArray)) ++ numS x.2.1) ++ (⟨#[32]⟩ : ByteArray)) ++ x.2.2) ++ (⟨#[10]⟩ : ByteArray))
def inT (x : Inp) : ByteArray := (((((((⟨#[105, 110, 112, 117, 116, 32]⟩ : ByteArray) ++ x.1) ++ (⟨#[32]⟩ : ByteArray)) ++ numS x.2.1) ++ (⟨#[32]⟩ : ByteArray)) ++ numS x.2.2) ++ (⟨#[10]⟩ : ByteArray))
def vaT (x : ByteArray) : ByteArray := (((⟨#[118, 97, 114, 32]⟩ : ByteArray) ++ x) ++ (⟨#[10]⟩ : ByteArray))
def arT (x : Arr) : ByteArray := (((((⟨#[97, 114, 114, 97, 121, 32]⟩ : ByteArray) ++ x.1) ++ (⟨#[32]⟩ : ByteArray)) ++ numS x.2) ++ (⟨#[10]⟩ : ByteArray))
def mdT (x : Md) : ByteArray := (((((((((⟨#[109, 111, 100, 101, 32]⟩ : ByteArray) ++ x.1) ++ (⟨#[32]⟩ : ByteArray)) ++ x.2.1) ++ (⟨#[32]⟩ : ByteArray)) ++ numS x.2.2.1) ++ (⟨#[32]⟩ : ByteArray)) ++ numS x.2.2.2) ++ (⟨#[10]⟩ : ByteArray))
def clT (x : Clm) : ByteArray := (((((⟨#[110, 101, 118, 101, 114, 32]⟩ : ByteArray) ++ numS x.1) ++ (⟨#[32]⟩ : ByteArray)) ++ numS x.2) ++ (⟨#[10]⟩ : ByteArray))
def tk1 (x : Tk) : ByteArray := (((((((((((⟨#[116, 97, 115, 107, 32]⟩ : ByteArray) ++ x.name) ++ (⟨#[32, 112, 101, 114, 105, 111, 100, 32]⟩ : ByteArray)) ++ numS x.period) ++ (⟨#[32, 100, 101, 97, 100, 108, 105, 110, 101, 32]⟩ : ByteArray)) ++ numS x.deadline) ++ (⟨#[32, 112, 114, 105, 111, 114, 105, 116, 121, 32]⟩ : ByteArray)) ++ numS x.priority) ++ (⟨#[32, 106, 105, 116, 116, 101, 114, 32]⟩ : ByteArray)) ++ numS x.jitter) ++ (⟨#[10]⟩ : ByteArray))
def tkT (t : Tk) : ByteArray := ((((((((tk1 t ++ catL inT t.inputs) ++ catL vaT t.vars) ++ catL arT t.arrays) ++ catL mdT t.modes) ++ catL clT t.claims) ++ (⟨#[98, 111, 100, 121, 10]⟩ : ByteArray)) ++ stsT Ksp t.body) ++ (⟨#[101, 110, 100, 10]⟩ : ByteArray))
def progT (p : Pg) : ByteArray := (catL resT p.res ++ catL shT p.shared) ++ catL tkT p.tasks
def progF (p : Pg) : ByteArray × Int := if okPg p = false then (⟨#[]⟩, 10) else if p.tasks.any (fun t => dpF 8 t.body) = true then (⟨#[]⟩, 4) else if 8192 < (progT p).size then (⟨#[]⟩, 4) else (progT p, 0)
/-- Sizes within reason. -/
structure TkSz (t : Tk) : Prop where
  inputs : t.inputs.length ≤ 1000
  vars : t.vars.length ≤ 1000
  arrays : t.arrays.length ≤ 1000
  modes : t.modes.length ≤ 1000
  claims : t.claims.length ≤ 1000
  body : Sm.szs t.body ≤ 1000000
structure PgSz (p : Pg) : Prop where
  res : p.res.length ≤ 1000
  shared : p.shared.length ≤ 1000
  len : p.tasks.length ≤ 1000
  tasks : ∀ t ∈ p.tasks, TkSz t
theorem resT_ok {x : ByteArray} (h : nameB x = true) : nmOk (x) := by
  exact nameB_ok.1 h
theorem resT_size {x : ByteArray} (h : nameB x = true) : (resT x).size ≤ 200 := by
  have h := resT_ok h
  have := name_size h
  simp only [resT, ByteArray.size_append, ba_lit, List.length_cons, List.length_nil]
  omega
theorem shT_ok {x : Shd} (h : shB x = true) : nmOk (x.1) ∧ Pl (x.2.1) ∧ nmOk (x.2.2) := by
  unfold shB at h
  simp only [Bool.and_eq_true, and_assoc] at h
  obtain ⟨h0, h1, h2⟩ := h
  exact ⟨nameB_ok.1 h0, plainB_ok.1 h1, nameB_ok.1 h2⟩
theorem shT_size {x : Shd} (h : shB x = true) : (shT x).size ≤ 200 := by
  have h := shT_ok h
  obtain ⟨h0, h1, h2⟩ := h
  have := name_size h0
  have := h1.size
  have := name_size h2
  simp only [shT, ByteArray.size_append, ba_lit, List.length_cons, List.length_nil]
  omega
theorem inT_ok {x : Inp} (h : inB x = true) : nmOk (x.1) ∧ (-2147483647 ≤ x.2.1 ∧ x.2.1 ≤ 2147483647) ∧ (-2147483647 ≤ x.2.2 ∧ x.2.2 ≤ 2147483647) := by
  unfold inB at h
  simp only [Bool.and_eq_true, and_assoc] at h
  obtain ⟨h0, h1, h2⟩ := h
  exact ⟨nameB_ok.1 h0, smallB_ok.1 h1, smallB_ok.1 h2⟩
theorem inT_size {x : Inp} (h : inB x = true) : (inT x).size ≤ 200 := by
  have h := inT_ok h
  obtain ⟨h0, h1, h2⟩ := h
  have := name_size h0
  have := numS_size _ h1.1 h1.2
  have := numS_size _ h2.1 h2.2
  simp only [inT, ByteArray.size_append, ba_lit, List.length_cons, List.length_nil]
  omega
theorem vaT_ok {x : ByteArray} (h : nameB x = true) : nmOk (x) := by
  exact nameB_ok.1 h
theorem vaT_size {x : ByteArray} (h : nameB x = true) : (vaT x).size ≤ 200 := by
  have h := vaT_ok h
  have := name_size h
  simp only [vaT, ByteArray.size_append, ba_lit, List.length_cons, List.length_nil]
  omega
theorem arT_ok {x : Arr} (h : arB x = true) : nmOk (x.1) ∧ Pl (x.2) := by
  unfold arB at h
  simp only [Bool.and_eq_true, and_assoc] at h
  obtain ⟨h0, h1⟩ := h
  exact ⟨nameB_ok.1 h0, plainB_ok.1 h1⟩
theorem arT_size {x : Arr} (h : arB x = true) : (arT x).size ≤ 200 := by
  have h := arT_ok h
  obtain ⟨h0, h1⟩ := h
  have := name_size h0
  have := h1.size
  simp only [arT, ByteArray.size_append, ba_lit, List.length_cons, List.length_nil]
  omega
theorem mdT_ok {x : Md} (h : mdB x = true) : nmOk (x.1) ∧ nmOk (x.2.1) ∧ (-2147483647 ≤ x.2.2.1 ∧ x.2.2.1 ≤ 2147483647) ∧ (-2147483647 ≤ x.2.2.2 ∧ x.2.2.2 ≤ 2147483647) := by
  unfold mdB at h
  simp only [Bool.and_eq_true, and_assoc] at h
  obtain ⟨h0, h1, h2, h3⟩ := h
  exact ⟨nameB_ok.1 h0, nameB_ok.1 h1, smallB_ok.1 h2, smallB_ok.1 h3⟩
theorem mdT_size {x : Md} (h : mdB x = true) : (mdT x).size ≤ 200 := by
  have h := mdT_ok h
  obtain ⟨h0, h1, h2, h3⟩ := h
  have := name_size h0
  have := name_size h1
  have := numS_size _ h2.1 h2.2
  have := numS_size _ h3.1 h3.2
  simp only [mdT, ByteArray.size_append, ba_lit, List.length_cons, List.length_nil]
  omega
theorem clT_ok {x : Clm} (h : clB x = true) : Pl (x.1) ∧ Pl (x.2) := by
  unfold clB at h
  simp only [Bool.and_eq_true, and_assoc] at h
  obtain ⟨h0, h1⟩ := h
  exact ⟨plainB_ok.1 h0, plainB_ok.1 h1⟩
theorem clT_size {x : Clm} (h : clB x = true) : (clT x).size ≤ 200 := by
  have h := clT_ok h
  obtain ⟨h0, h1⟩ := h
  have := h0.size
  have := h1.size
  simp only [clT, ByteArray.size_append, ba_lit, List.length_cons, List.length_nil]
  omega
theorem tk1_ok {x : Tk} (h : hdB x = true) : nmOk (x.name) ∧ Pl (x.period) ∧ Pl (x.deadline) ∧ Pl (x.priority) ∧ Pl (x.jitter) := by
  unfold hdB at h
  simp only [Bool.and_eq_true, and_assoc] at h
  obtain ⟨h0, h1, h2, h3, h4⟩ := h
  exact ⟨nameB_ok.1 h0, plainB_ok.1 h1, plainB_ok.1 h2, plainB_ok.1 h3, plainB_ok.1 h4⟩
theorem tk1_size {x : Tk} (h : hdB x = true) : (tk1 x).size ≤ 200 := by
  have h := tk1_ok h
  obtain ⟨h0, h1, h2, h3, h4⟩ := h
  have := name_size h0
  have := h1.size
  have := h2.size
  have := h3.size
  have := h4.size
  simp only [tk1, ByteArray.size_append, ba_lit, List.length_cons, List.length_nil]
  omega
theorem hd_of {t : Tk} (h : okTk t = true) : hdB t = true ∧ okSs 20 t.body = true ∧ (∀ x ∈ t.inputs, inB x = true) ∧ (∀ x ∈ t.vars, nameB x = true) ∧ (∀ x ∈ t.arrays, arB x = true) ∧ (∀ x ∈ t.modes, mdB x = true) ∧ ∀ x ∈ t.claims, clB x = true := by
  unfold okTk at h
  simp only [Bool.and_eq_true, and_assoc, List.all_eq_true] at h
  exact h
theorem tkT_size {t : Tk} (h : okTk t = true) (hd : dpF 8 t.body = false) (hs : TkSz t) : (tkT t).size ≤ 60002000000 := by
  obtain ⟨h0, hb, h1, h2, h3, h4, h5⟩ := hd_of h
  have e0 := tk1_size h0
  have e1 := catL_size (f := inT) (fun x hx => inT_size (h1 x hx))
  have e2 := catL_size (f := vaT) (fun x hx => vaT_size (h2 x hx))
  have e3 := catL_size (f := arT) (fun x hx => arT_size (h3 x hx))
  have e4 := catL_size (f := mdT) (fun x hx => mdT_size (h4 x hx))
  have e5 := catL_size (f := clT) (fun x hx => clT_size (h5 x hx))
  have e6 := sts_size (sp := Ksp) (fine_of 8 20 t.body (by omega) hb hd) (by show 2 + 2 * 8 ≤ 100; omega)
  have := hs.inputs
  have := hs.vars
  have := hs.arrays
  have := hs.modes
  have := hs.claims
  have := hs.body
  simp only [tkT, ByteArray.size_append, ba_lit, List.length_cons, List.length_nil]
  omega
theorem rProg_c (p : Pg) (hz : PgSz p) : Con Tryd.prog 39 [.row p.row] [] (fun K => K (.tup [Str (progF p).1, In .i64 (progF p).2]) []) := by
  refine con_intro Tryd.func39 rfl rfl (Nat.le_of_ble_eq_true rfl) (fun c hc => R_ (o_ r_ (ci_ r_ (fun bx => E_ r_ (E_ r_ (T_ (am_ (R_ (A_ 0 r_ (o_ r_ (bm_ r_ (rprintableB_c _) (o_ r_ (cd_ r_ (T_ ?_))))))))))))))
  by_cases hok : okPg p = false
  · have hN : (!okPg p) = true := by rw [hok]; rfl
    have e1 : progF p = (⟨#[]⟩, 10) := by unfold progF; rw [if_pos hok]
    refine aq_ r_ h_ (R_ (E_ r_ (E_ r_ (T_ (ar_ (aw_ (jq_ret2 rfl rfl rfl [] rfl (fun K h => by rw [e1] at h; exact h))))))))
  have hok : okPg p = true := by simpa using hok
  have hN : (!okPg p) = false := by rw [hok]; rfl
  have hokb : ¬ okPg p = false := by rw [hok]; simp
  refine ap_ r_ h_ (as_ (al_ ?_))
  -- none is too deep
  have eT : (p.tasks.map Tk.row).length = p.tasks.length := List.length_map _
  refine am_ (jc_cut (ι := Unit) [] (fun _ => p.tasks.any (fun t => dpF 8 t.body) = false) (fun _ => [(1, .cell (.val (.pointer (some ⟨bx, 0, none⟩))))]) (fun _ => [.blk bx 40 p.row]) ?_ ?_)
  · refine R_ (E_ r_ (T_ (au_ (jc_loopS (ι := Nat) [] (fun k => k ≤ p.tasks.length ∧ (p.tasks.take k).any (fun t => dpF 8 t.body) = false) (fun k => (4, In .i64 (k : Int)) :: [(1, .cell (.val (.pointer (some ⟨bx, 0, none⟩))))]) (fun _ => [.blk bx 40 p.row]) (fun k => p.tasks.length - k) 0 ⟨Nat.zero_le _, rfl⟩ ?_ ?_ ?_))))
    · exact bc_ 0 r_ sub_end
    · (repeat (first | exact True.intro | refine ⟨rfl, ?_⟩))
    rintro k ⟨hk, hall⟩
    by_cases hlt : k < p.tasks.length
    · have hlt2 : (k : Int) < ((p.tasks.map Tk.row).length : Int) := by omega
      by_cases hd : dpF 8 p.tasks[k].body = true
      · have hany : p.tasks.any (fun t => dpF 8 t.body) = true := any_yes hlt hd
        have e1 : progF p = (⟨#[]⟩, 4) := by unfold progF; rw [if_neg hokb, if_pos hany]
        refine am_ (R_ (M_ r_ (F_ r_ (L_ 0 r_ (o_ r_ (br_ r_ (fun hlen => o_ r_ (bw_ r_ r_ (T_ (aq_ r_ u_ (as_ (al_ (B_ (R_ (F_ r_ (L_ 0 r_ (M_ r_ ?_)))))))))))))))))
        refine o_ r_ (cc_ r_ r_ g_ r_ r_ b_ (o_ r_ (cf_ r_ r_ r_ b_ r_ b_ (o_ r_ (cb_ r_ r_ (o_ r_ (bm_ r_ (rDeep_c _) (T_ (aq_ r_ h_ (R_ (E_ r_ (E_ r_ (T_ (ar_ (az_ (aw_ (aw_ (az_ (aw_ ?_)))))))))))))))))))
        refine jq_ret2 rfl rfl rfl [] rfl (fun K h => by rw [e1] at h; exact h)
      · have hd : dpF 8 p.tasks[k].body = false := by simpa using hd
        refine am_ (R_ (M_ r_ (F_ r_ (L_ 0 r_ (o_ r_ (br_ r_ (fun hlen => o_ r_ (bw_ r_ r_ (T_ (aq_ r_ u_ (as_ (al_ (B_ (R_ (F_ r_ (L_ 0 r_ (M_ r_ ?_)))))))))))))))))
        refine o_ r_ (cc_ r_ r_ g_ r_ r_ b_ (o_ r_ (cf_ r_ r_ r_ b_ r_ b_ (o_ r_ (cb_ r_ r_ (o_ r_ (bm_ r_ (rDeep_c _) (T_ (ap_ r_ h_ (as_ (ay_ (al_ (an_ (M_ r_ (o_ r_ (bj_ r_ r_ g_ (E_ r_ (ak_ (jq_againS (k + 1) ⟨hlt, any_snoc hlt hall hd⟩ g_ ?_ ?_)))))))))))))))))))
        · exact bc_ 0 r_ sub_end
        · (repeat (first | exact True.intro | refine ⟨rfl, ?_⟩))
    · have hlt2 : ¬ (k : Int) < ((p.tasks.map Tk.row).length : Int) := by omega
      refine am_ (R_ (M_ r_ (F_ r_ (L_ 0 r_ (o_ r_ (br_ r_ (fun hlen => o_ r_ (bw_ r_ r_ (T_ (ap_ r_ w_ (av_ (ax_ (ax_ (ba_ (jq_cutS () (by rw [List.take_of_length_le g_] at hall; exact hall) ?_ ?_)))))))))))))))
      · exact bc_ 0 r_ sub_end
      · (repeat (first | exact True.intro | refine ⟨rfl, ?_⟩))
  intro _ hdeep
  have hok2 := hok
  unfold okPg at hok2
  simp only [Bool.and_eq_true, List.all_eq_true, and_assoc] at hok2
  obtain ⟨hR, hSh, hTk⟩ := hok2
  have zr := hz.res
  have zs := hz.shared
  have zl := hz.len
  refine jc_ownNil 5 1 g_ (R_ (E_ r_ (T_ (am_ ?_))))
  have hY0 : ((⟨#[]⟩ : ByteArray)).size ≤ 0 := Nat.le_refl _
  refine jc_cut (ι := Value) [] (fun _ => True) (fun v => (5, .cell (.val v)) :: [(1, .cell (.val (.pointer (some ⟨bx, 0, none⟩))))]) (fun v => [Bw v ((⟨#[]⟩ : ByteArray) ++ catL resT (p.res)), .blk bx 40 p.row]) ?_ ?_
  · refine R_ (E_ r_ (T_ (au_ (jc_loopS (ι := Nat × Value) [] (fun i => i.1 ≤ (p.res).length) (fun i => (6, In .i64 (i.1 : Int)) :: (5, .cell (.val i.2)) :: [(1, .cell (.val (.pointer (some ⟨bx, 0, none⟩))))]) (fun i => [Bw i.2 ((⟨#[]⟩ : ByteArray) ++ catL resT ((p.res).take i.1)), .blk bx 40 p.row]) (fun i => (p.res).length - i.1) (0, (.slice none 0 0)) (Nat.zero_le _) ?_ ?_ ?_))))
    · rw [show (⟨#[]⟩ : ByteArray) ++ catL resT ((p.res).take 0) = (⟨#[]⟩ : ByteArray) by rw [List.take_zero, catL, ba_nil]]
      exact bc_ 0 r_ (bc_ 0 r_ sub_end)
    · (repeat (first | exact True.intro | refine ⟨rfl, ?_⟩))
    rintro ⟨k, v⟩ hk
    dsimp only at hk ⊢
    have eL : ((p.res).map Wrow).length = (p.res).length := List.length_map _
    by_cases hlt : k < (p.res).length
    · have hlt2 : (k : Int) < (((p.res).map Wrow).length : Int) := by omega
      have hsz := catL_takeS (f := resT) (l := p.res) (fun x hx => resT_size (hR x hx)) k
      have hnx := catL_take resT ((⟨#[]⟩ : ByteArray)) hlt
      have hfs := resT_size (hR _ (List.getElem_mem hlt))
      have hYs : ((⟨#[]⟩ : ByteArray) ++ catL resT ((p.res).take k)).size ≤ 0 + 200000 := by rw [ByteArray.size_append]; omega
      generalize (⟨#[]⟩ : ByteArray) ++ catL resT ((p.res).take k) = Z at hYs hnx ⊢
      have gk := resT_ok (hR _ (List.getElem_mem hlt))
      have g0 := gk
      have := name_size g0
      refine am_ (R_ (M_ r_ (F_ r_ (L_ 1 r_ (o_ r_ (br_ r_ (fun hlen => o_ r_ (bw_ r_ r_ (T_ (aq_ r_ u_ (as_ (al_ (B_ (an_ (M_ r_ (F_ r_ (L_ 1 r_ ?_)))))))))))))))))
      refine M_ r_ (o_ r_ (cc_ r_ r_ g_ r_ r_ b_ (o_ r_ (cb_ r_ r_ (o_ r_ (ow_strcat rfl rfl (by simp only [ByteArray.size_append, ba_lit, List.length_cons, List.length_nil] ; omega) (o_ r_ (ow_strcat rfl rfl (by simp only [ByteArray.size_append, ba_lit, List.length_cons, List.length_nil] ; omega) (o_ r_ (ow_appendS 0 rfl rfl rfl rfl rfl rfl rfl rfl (by show _ + (resT (p.res)[k]).size ≤ _ ; omega) (fun v1 _ => ?_)))))))))))
      refine E_ r_ (ak_ (ay_ (al_ (an_ (M_ r_ (o_ r_ (bj_ r_ r_ g_ (E_ r_ (ak_ (jq_againS (i := (k, v)) (k + 1, v1) hlt (by dsimp only; omega) ?_ ?_))))))))))
      · dsimp only
        rw [hnx]
        exact bc_ 0 r_ (bc_ 0 r_ sub_end)
      · (repeat (first | exact True.intro | refine ⟨rfl, ?_⟩))
    · have hlt2 : ¬ (k : Int) < (((p.res).map Wrow).length : Int) := by omega
      rw [List.take_of_length_le (show (p.res).length ≤ k by omega)]
      refine am_ (R_ (M_ r_ (F_ r_ (L_ 1 r_ (o_ r_ (br_ r_ (fun hlen => o_ r_ (bw_ r_ r_ (T_ (ap_ r_ w_ (av_ (ax_ (ax_ (ba_ (jq_cutS v trivial ?_ ?_)))))))))))))))
      · exact bc_ 0 r_ (bc_ 0 r_ sub_end)
      · (repeat (first | exact True.intro | refine ⟨rfl, ?_⟩))
  intro vA _
  rw [nil_ba]
  have hY1 := catL_size (f := resT) (fun x hx => resT_size (hR x hx))
  refine am_ (jc_cut (ι := Value) [] (fun _ => True) (fun v => (5, .cell (.val v)) :: [(1, .cell (.val (.pointer (some ⟨bx, 0, none⟩))))]) (fun v => [Bw v (catL resT p.res ++ catL shT (p.shared)), .blk bx 40 p.row]) ?_ ?_)
  · refine R_ (E_ r_ (T_ (au_ (jc_loopS (ι := Nat × Value) [] (fun i => i.1 ≤ (p.shared).length) (fun i => (7, In .i64 (i.1 : Int)) :: (5, .cell (.val i.2)) :: [(1, .cell (.val (.pointer (some ⟨bx, 0, none⟩))))]) (fun i => [Bw i.2 (catL resT p.res ++ catL shT ((p.shared).take i.1)), .blk bx 40 p.row]) (fun i => (p.shared).length - i.1) (0, vA) (Nat.zero_le _) ?_ ?_ ?_))))
    · rw [show catL resT p.res ++ catL shT ((p.shared).take 0) = catL resT p.res by rw [List.take_zero, catL, ba_nil]]
      exact bc_ 0 r_ (bc_ 0 r_ sub_end)
    · (repeat (first | exact True.intro | refine ⟨rfl, ?_⟩))
    rintro ⟨k, v⟩ hk
    dsimp only at hk ⊢
    have eL : ((p.shared).map ShRow).length = (p.shared).length := List.length_map _
    by_cases hlt : k < (p.shared).length
    · have hlt2 : (k : Int) < (((p.shared).map ShRow).length : Int) := by omega
      have hsz := catL_takeS (f := shT) (l := p.shared) (fun x hx => shT_size (hSh x hx)) k
      have hnx := catL_take shT (catL resT p.res) hlt
      have hfs := shT_size (hSh _ (List.getElem_mem hlt))
      have hYs : (catL resT p.res ++ catL shT ((p.shared).take k)).size ≤ 200000 + 200000 := by rw [ByteArray.size_append]; omega
      generalize catL resT p.res ++ catL shT ((p.shared).take k) = Z at hYs hnx ⊢
      have gk := shT_ok (hSh _ (List.getElem_mem hlt))
      obtain ⟨g0, g1, g2⟩ := gk
      have := name_size g0
      have := g1.size
      have := name_size g2
      refine am_ (R_ (M_ r_ (F_ r_ (L_ 1 r_ (o_ r_ (br_ r_ (fun hlen => o_ r_ (bw_ r_ r_ (T_ (aq_ r_ u_ (as_ (al_ (B_ (R_ (F_ r_ (L_ 1 r_ (M_ r_ ?_)))))))))))))))))
      refine o_ r_ (cc_ r_ r_ g_ r_ r_ b_ (o_ r_ (cr_ r_ r_ r_ (o_ r_ (bl_ r_ r_ (fun bl => S_ 0 r_ (T_ (jc_anyB 16 none rfl k_ k_ (yM_ r_ (yF_ r_ (yF_ r_ (yL_ 0 r_ (aa_ (fun c => ow_strcat rfl rfl (by simp only [ByteArray.size_append, ba_lit, List.length_cons, List.length_nil] ; omega) p_) ?_)))))))))))))
      refine aa_ (fun c => ow_strcat rfl rfl (by simp only [ByteArray.size_append, ba_lit, List.length_cons, List.length_nil] ; omega) p_) (yF_ r_ (yF_ r_ (yL_ 0 r_ (aa_ (fun c => bm_ r_ (rnumF_c g1) p_) (aa_ (fun c => ow_strcat rfl rfl (by simp only [ByteArray.size_append, ba_lit, List.length_cons, List.length_nil] ; omega) p_) ?_)))))
      refine aa_ (fun c => ow_strcat rfl rfl (by simp only [ByteArray.size_append, ba_lit, List.length_cons, List.length_nil] ; omega) p_) (yF_ r_ (yL_ 0 r_ (aa_ (fun c => ow_strcat rfl rfl (by simp only [ByteArray.size_append, ba_lit, List.length_cons, List.length_nil] ; omega) p_) (aa_ (fun c => ow_strcat rfl rfl (by simp only [ByteArray.size_append, ba_lit, List.length_cons, List.length_nil] ; omega) p_) (ae_ ?_)))))
      refine afin_none (o_ r_ (ow_appendS 1 rfl rfl rfl rfl rfl rfl rfl rfl (by show _ + (shT (p.shared)[k]).size ≤ _ ; omega) (fun v1 _ => E_ r_ (ak_ (ay_ (al_ (an_ (M_ r_ (o_ r_ (bj_ r_ r_ g_ (E_ r_ (ak_ (jq_againS (i := (k, v)) (k + 1, v1) hlt (by dsimp only; omega) ?_ ?_)))))))))))))
      · dsimp only
        rw [hnx]
        exact bc_ 0 r_ (bc_ 1 r_ sub_end)
      · (repeat (first | exact True.intro | refine ⟨rfl, ?_⟩))
    · have hlt2 : ¬ (k : Int) < (((p.shared).map ShRow).length : Int) := by omega
      rw [List.take_of_length_le (show (p.shared).length ≤ k by omega)]
      refine am_ (R_ (M_ r_ (F_ r_ (L_ 1 r_ (o_ r_ (br_ r_ (fun hlen => o_ r_ (bw_ r_ r_ (T_ (ap_ r_ w_ (av_ (ax_ (ax_ (ba_ (jq_cutS v trivial ?_ ?_)))))))))))))))
      · exact bc_ 0 r_ (bc_ 0 r_ sub_end)
      · (repeat (first | exact True.intro | refine ⟨rfl, ?_⟩))
  intro vB _
  have hY2 : (catL resT p.res ++ catL shT p.shared).size ≤ 400000 := by
    have := catL_size (f := shT) (fun x hx => shT_size (hSh x hx))
    rw [ByteArray.size_append]; omega
  generalize hX2 : catL resT p.res ++ catL shT p.shared = X2 at hY2 ⊢
  have hdk : ∀ t ∈ p.tasks, dpF 8 t.body = false := fun t ht => by simpa using List.any_eq_false.1 hdeep t ht
  have htz : ∀ t ∈ p.tasks, (tkT t).size ≤ 60002000000 := fun t ht => tkT_size (hTk t ht) (hdk t ht) (hz.tasks t ht)
  refine am_ (jc_cut (ι := Value) [] (fun _ => True) (fun v => (5, .cell (.val v)) :: [(1, .cell (.val (.pointer (some ⟨bx, 0, none⟩))))]) (fun v => [Bw v (X2 ++ catL tkT p.tasks), .blk bx 40 p.row]) ?_ ?_)
  · refine R_ (E_ r_ (T_ (au_ (jc_loopS (ι := Nat × Value) [] (fun i => i.1 ≤ p.tasks.length) (fun i => (9, In .i64 (i.1 : Int)) :: (5, .cell (.val i.2)) :: [(1, .cell (.val (.pointer (some ⟨bx, 0, none⟩))))]) (fun i => [Bw i.2 (X2 ++ catL tkT (p.tasks.take i.1)), .blk bx 40 p.row]) (fun i => p.tasks.length - i.1) (0, vB) (Nat.zero_le _) ?_ ?_ ?_))))
    · rw [show X2 ++ catL tkT (p.tasks.take 0) = X2 by rw [List.take_zero, catL, ba_nil]]
      exact bc_ 0 r_ (bc_ 0 r_ sub_end)
    · (repeat (first | exact True.intro | refine ⟨rfl, ?_⟩))
    rintro ⟨kt, v⟩ hkt
    dsimp only at hkt ⊢
    by_cases hltt : kt < p.tasks.length
    · have hlt2 : (kt : Int) < ((p.tasks.map Tk.row).length : Int) := by omega
      have hsz := catL_takeS (f := tkT) (l := p.tasks) htz kt
      have hnx := catL_take tkT X2 hltt
      have hmt := List.getElem_mem hltt
      have htk := htz _ hmt
      have hYs : (X2 ++ catL tkT (p.tasks.take kt)).size ≤ 60002000400000 := by
        have : p.tasks.length * 60002000000 ≤ 1000 * 60002000000 := Nat.mul_le_mul_right _ zl
        rw [ByteArray.size_append]; omega
      generalize X2 ++ catL tkT (p.tasks.take kt) = Z0 at hYs hnx ⊢
      obtain ⟨h0, hb, h1, h2, h3, h4, h5⟩ := hd_of (hTk _ hmt)
      have tz := hz.tasks _ hmt
      have zi := tz.inputs
      have zv := tz.vars
      have za := tz.arrays
      have zm := tz.modes
      have zc := tz.claims
      have zb := tz.body
      have hdt := hdk _ hmt
      refine am_ (R_ (M_ r_ (F_ r_ (L_ 1 r_ (o_ r_ (br_ r_ (fun hlen => o_ r_ (bw_ r_ r_ (T_ (aq_ r_ u_ (as_ (al_ (B_ (R_ (F_ r_ (L_ 1 r_ (M_ r_ ?_)))))))))))))))))
      refine o_ r_ (cc_ r_ r_ g_ r_ r_ b_ (o_ r_ (cr_ r_ r_ r_ (o_ r_ (bl_ r_ r_ (fun bl => S_ 0 r_ (T_ ?_)))))))
      generalize p.tasks[kt] = t at *
      have gk := tk1_ok h0
      obtain ⟨g0, g1, g2, g3, g4⟩ := gk
      have := name_size g0
      have := g1.size
      have := g2.size
      have := g3.size
      have := g4.size
      have hts := tk1_size h0
      refine am_ (jc_anyB 25 none rfl k_ k_ (yM_ r_ (yF_ r_ (yL_ 0 r_ (aa_ (fun c => ow_strcat rfl rfl (by simp only [ByteArray.size_append, ba_lit, List.length_cons, List.length_nil] ; omega) p_) (aa_ (fun c => ow_strcat rfl rfl (by simp only [ByteArray.size_append, ba_lit, List.length_cons, List.length_nil] ; omega) p_) (yF_ r_ (yL_ 0 r_ (aa_ (fun c => bm_ r_ (rnumF_c g1) p_) ?_)))))))))
      refine aa_ (fun c => ow_strcat rfl rfl (by simp only [ByteArray.size_append, ba_lit, List.length_cons, List.length_nil] ; omega) p_) (aa_ (fun c => ow_strcat rfl rfl (by simp only [ByteArray.size_append, ba_lit, List.length_cons, List.length_nil] ; omega) p_) (yF_ r_ (yL_ 0 r_ (aa_ (fun c => bm_ r_ (rnumF_c g2) p_) ?_))))
      refine aa_ (fun c => ow_strcat rfl rfl (by simp only [ByteArray.size_append, ba_lit, List.length_cons, List.length_nil] ; omega) p_) (aa_ (fun c => ow_strcat rfl rfl (by simp only [ByteArray.size_append, ba_lit, List.length_cons, List.length_nil] ; omega) p_) (yF_ r_ (yL_ 0 r_ (aa_ (fun c => bm_ r_ (rnumF_c g3) p_) ?_))))
      refine aa_ (fun c => ow_strcat rfl rfl (by simp only [ByteArray.size_append, ba_lit, List.length_cons, List.length_nil] ; omega) p_) (aa_ (fun c => ow_strcat rfl rfl (by simp only [ByteArray.size_append, ba_lit, List.length_cons, List.length_nil] ; omega) p_) (yF_ r_ (yL_ 0 r_ (aa_ (fun c => bm_ r_ (rnumF_c g4) p_) ?_))))
      refine aa_ (fun c => ow_strcat rfl rfl (by simp only [ByteArray.size_append, ba_lit, List.length_cons, List.length_nil] ; omega) p_) (aa_ (fun c => ow_strcat rfl rfl (by simp only [ByteArray.size_append, ba_lit, List.length_cons, List.length_nil] ; omega) p_) (ae_ (afin_none (o_ r_ (ow_appendS 1 rfl rfl rfl rfl rfl rfl rfl rfl (by show _ + (tk1 t).size ≤ _ ; omega) (fun v1 _ => E_ r_ (T_ (am_ ?_))))))))
      rw [show (((((((((((⟨#[116, 97, 115, 107, 32]⟩ : ByteArray) ++ t.name) ++ (⟨#[32, 112, 101, 114, 105, 111, 100, 32]⟩ : ByteArray)) ++ numS t.period) ++ (⟨#[32, 100, 101, 97, 100, 108, 105, 110, 101, 32]⟩ : ByteArray)) ++ numS t.deadline) ++ (⟨#[32, 112, 114, 105, 111, 114, 105, 116, 121, 32]⟩ : ByteArray)) ++ numS t.priority) ++ (⟨#[32, 106, 105, 116, 116, 101, 114, 32]⟩ : ByteArray)) ++ numS t.jitter) ++ (⟨#[10]⟩ : ByteArray)) = tk1 t from rfl]
      generalize hE0 : Z0 ++ tk1 t = Y0 at *
      have hY0 : Y0.size ≤ 60002000400200 := by rw [← hE0, ByteArray.size_append]; omega
      refine jc_cut (ι := Value) [] (fun _ => True) (fun v => (5, .cell (.val v)) :: [(1, .cell (.val (.pointer (some ⟨bx, 0, none⟩)))), (9, In .i64 (kt : Int)), (10, .cell (.val (.pointer (some ⟨bl, 0, none⟩))))]) (fun v => [Bw v (Y0 ++ catL inT (t.inputs)), .blk bl 50 t.row, .blk bx 40 p.row]) ?_ ?_
      · refine R_ (E_ r_ (T_ (au_ ?_)))
        refine jc_loopS (ι := Nat × Value) [] (fun i => i.1 ≤ (t.inputs).length) (fun i => (11, In .i64 (i.1 : Int)) :: (5, .cell (.val i.2)) :: [(1, .cell (.val (.pointer (some ⟨bx, 0, none⟩)))), (9, In .i64 (kt : Int)), (10, .cell (.val (.pointer (some ⟨bl, 0, none⟩))))]) (fun i => [Bw i.2 (Y0 ++ catL inT ((t.inputs).take i.1)), .blk bl 50 t.row, .blk bx 40 p.row]) (fun i => (t.inputs).length - i.1) (0, v1) (Nat.zero_le _) ?_ ?_ ?_
        · rw [show Y0 ++ catL inT ((t.inputs).take 0) = Y0 by rw [List.take_zero, catL, ba_nil]]
          exact bc_ 0 r_ (bc_ 0 r_ (bc_ 0 r_ sub_end))
        · (repeat (first | exact True.intro | refine ⟨rfl, ?_⟩))
        rintro ⟨k, v⟩ hk
        dsimp only at hk ⊢
        have eL : ((t.inputs).map InRow).length = (t.inputs).length := List.length_map _
        by_cases hlt : k < (t.inputs).length
        · have hlt2 : (k : Int) < (((t.inputs).map InRow).length : Int) := by omega
          have hsz := catL_takeS (f := inT) (l := t.inputs) (fun x hx => inT_size (h1 x hx)) k
          have hnx := catL_take inT (Y0) hlt
          have hfs := inT_size (h1 _ (List.getElem_mem hlt))
          have hYs : (Y0 ++ catL inT ((t.inputs).take k)).size ≤ 60002000400200 + 200000 := by rw [ByteArray.size_append]; omega
          generalize Y0 ++ catL inT ((t.inputs).take k) = Z at hYs hnx ⊢
          have gk := inT_ok (h1 _ (List.getElem_mem hlt))
          obtain ⟨g0, g1, g2⟩ := gk
          have := name_size g0
          have := numS_size _ g1.1 g1.2
          have := numS_size _ g2.1 g2.2
          refine am_ (R_ (M_ r_ (F_ r_ (L_ 1 r_ (o_ r_ (br_ r_ (fun hlen => o_ r_ (bw_ r_ r_ (T_ (aq_ r_ u_ (as_ (al_ (B_ (jc_anyB 27 none rfl k_ k_ (yM_ r_ (yF_ r_ (yL_ 1 r_ ?_)))))))))))))))))
          refine yM_ r_ (aa_ (fun c => cc_ r_ r_ g_ r_ r_ b_ p_) (aa_ (fun c => cf_ r_ r_ r_ b_ r_ b_ p_) (aa_ (fun c => cb_ r_ r_ p_) (aa_ (fun c => ow_strcat rfl rfl (by simp only [ByteArray.size_append, ba_lit, List.length_cons, List.length_nil] ; omega) p_) (aa_ (fun c => ow_strcat rfl rfl (by simp only [ByteArray.size_append, ba_lit, List.length_cons, List.length_nil] ; omega) p_) (yF_ r_ (yL_ 1 r_ (yM_ r_ ?_))))))))
          refine aa_ (fun c => cc_ r_ r_ g_ r_ r_ b_ p_) (aa_ (fun c => cf_ r_ r_ r_ b_ r_ b_ p_) (aa_ (fun c => cb_ r_ r_ p_) (aa_ (fun c => bm_ r_ (refNumber_c _ g1) p_) (aa_ (fun c => ow_strcat rfl rfl (by simp only [ByteArray.size_append, ba_lit, List.length_cons, List.length_nil] ; omega) p_) (aa_ (fun c => ow_strcat rfl rfl (by simp only [ByteArray.size_append, ba_lit, List.length_cons, List.length_nil] ; omega) p_) ?_)))))
          refine yF_ r_ (yL_ 1 r_ (yM_ r_ (aa_ (fun c => cc_ r_ r_ g_ r_ r_ b_ p_) (aa_ (fun c => cf_ r_ r_ r_ b_ r_ b_ p_) (aa_ (fun c => cb_ r_ r_ p_) (aa_ (fun c => bm_ r_ (refNumber_c _ g2) p_) (aa_ (fun c => ow_strcat rfl rfl (by simp only [ByteArray.size_append, ba_lit, List.length_cons, List.length_nil] ; omega) p_) ?_)))))))
          refine aa_ (fun c => ow_strcat rfl rfl (by simp only [ByteArray.size_append, ba_lit, List.length_cons, List.length_nil] ; omega) p_) (ae_ (afin_none (o_ r_ (ow_appendS 0 rfl rfl rfl rfl rfl rfl rfl rfl (by show _ + (inT (t.inputs)[k]).size ≤ _ ; omega) (fun v1 _ => E_ r_ (ak_ (ay_ (al_ (an_ (M_ r_ (o_ r_ (bj_ r_ r_ g_ (E_ r_ (ak_ (jq_againS (i := (k, v)) (k + 1, v1) hlt (by dsimp only; omega) ?_ ?_)))))))))))))))
          · dsimp only
            rw [hnx]
            exact bc_ 0 r_ (bc_ 0 r_ (bc_ 0 r_ sub_end))
          · (repeat (first | exact True.intro | refine ⟨rfl, ?_⟩))
        · have hlt2 : ¬ (k : Int) < (((t.inputs).map InRow).length : Int) := by omega
          rw [List.take_of_length_le (show (t.inputs).length ≤ k by omega)]
          refine am_ (R_ (M_ r_ (F_ r_ (L_ 1 r_ (o_ r_ (br_ r_ (fun hlen => o_ r_ (bw_ r_ r_ (T_ (ap_ r_ w_ (av_ (ax_ (ax_ (ba_ (jq_cutS v trivial ?_ ?_)))))))))))))))
          · exact bc_ 0 r_ (bc_ 0 r_ (bc_ 0 r_ sub_end))
          · (repeat (first | exact True.intro | refine ⟨rfl, ?_⟩))
      intro vN0 _
      have hS0 := catL_size (f := inT) (l := t.inputs) (fun x hx => inT_size (h1 x hx))
      generalize hE1 : Y0 ++ catL inT (t.inputs) = Y1 at *
      have hY1 : Y1.size ≤ 60002000600200 := by rw [← hE1, ByteArray.size_append]; omega
      clear hS0 hY0
      refine am_ (jc_cut (ι := Value) [] (fun _ => True) (fun v => (5, .cell (.val v)) :: [(1, .cell (.val (.pointer (some ⟨bx, 0, none⟩)))), (9, In .i64 (kt : Int)), (10, .cell (.val (.pointer (some ⟨bl, 0, none⟩))))]) (fun v => [Bw v (Y1 ++ catL vaT (t.vars)), .blk bl 50 t.row, .blk bx 40 p.row]) ?_ ?_)
      · refine R_ (E_ r_ (T_ (au_ ?_)))
        refine jc_loopS (ι := Nat × Value) [] (fun i => i.1 ≤ (t.vars).length) (fun i => (12, In .i64 (i.1 : Int)) :: (5, .cell (.val i.2)) :: [(1, .cell (.val (.pointer (some ⟨bx, 0, none⟩)))), (9, In .i64 (kt : Int)), (10, .cell (.val (.pointer (some ⟨bl, 0, none⟩))))]) (fun i => [Bw i.2 (Y1 ++ catL vaT ((t.vars).take i.1)), .blk bl 50 t.row, .blk bx 40 p.row]) (fun i => (t.vars).length - i.1) (0, vN0) (Nat.zero_le _) ?_ ?_ ?_
        · rw [show Y1 ++ catL vaT ((t.vars).take 0) = Y1 by rw [List.take_zero, catL, ba_nil]]
          exact bc_ 0 r_ (bc_ 0 r_ (bc_ 0 r_ sub_end))
        · (repeat (first | exact True.intro | refine ⟨rfl, ?_⟩))
        rintro ⟨k, v⟩ hk
        dsimp only at hk ⊢
        have eL : ((t.vars).map Wrow).length = (t.vars).length := List.length_map _
        by_cases hlt : k < (t.vars).length
        · have hlt2 : (k : Int) < (((t.vars).map Wrow).length : Int) := by omega
          have hsz := catL_takeS (f := vaT) (l := t.vars) (fun x hx => vaT_size (h2 x hx)) k
          have hnx := catL_take vaT (Y1) hlt
          have hfs := vaT_size (h2 _ (List.getElem_mem hlt))
          have hYs : (Y1 ++ catL vaT ((t.vars).take k)).size ≤ 60002000600200 + 200000 := by rw [ByteArray.size_append]; omega
          generalize Y1 ++ catL vaT ((t.vars).take k) = Z at hYs hnx ⊢
          have gk := vaT_ok (h2 _ (List.getElem_mem hlt))
          have g0 := gk
          have := name_size g0
          refine am_ (R_ (M_ r_ (F_ r_ (L_ 1 r_ (o_ r_ (br_ r_ (fun hlen => o_ r_ (bw_ r_ r_ (T_ (aq_ r_ u_ (as_ (al_ (B_ (an_ (M_ r_ (F_ r_ (L_ 1 r_ ?_)))))))))))))))))
          refine M_ r_ (o_ r_ (cc_ r_ r_ g_ r_ r_ b_ (o_ r_ (cb_ r_ r_ (o_ r_ (ow_strcat rfl rfl (by simp only [ByteArray.size_append, ba_lit, List.length_cons, List.length_nil] ; omega) (o_ r_ (ow_strcat rfl rfl (by simp only [ByteArray.size_append, ba_lit, List.length_cons, List.length_nil] ; omega) (o_ r_ (ow_appendS 0 rfl rfl rfl rfl rfl rfl rfl rfl (by show _ + (vaT (t.vars)[k]).size ≤ _ ; omega) (fun v1 _ => ?_)))))))))))
          refine E_ r_ (ak_ (ay_ (al_ (an_ (M_ r_ (o_ r_ (bj_ r_ r_ g_ (E_ r_ (ak_ (jq_againS (i := (k, v)) (k + 1, v1) hlt (by dsimp only; omega) ?_ ?_))))))))))
          · dsimp only
            rw [hnx]
            exact bc_ 0 r_ (bc_ 0 r_ (bc_ 0 r_ sub_end))
          · (repeat (first | exact True.intro | refine ⟨rfl, ?_⟩))
        · have hlt2 : ¬ (k : Int) < (((t.vars).map Wrow).length : Int) := by omega
          rw [List.take_of_length_le (show (t.vars).length ≤ k by omega)]
          refine am_ (R_ (M_ r_ (F_ r_ (L_ 1 r_ (o_ r_ (br_ r_ (fun hlen => o_ r_ (bw_ r_ r_ (T_ (ap_ r_ w_ (av_ (ax_ (ax_ (ba_ (jq_cutS v trivial ?_ ?_)))))))))))))))
          · exact bc_ 0 r_ (bc_ 0 r_ (bc_ 0 r_ sub_end))
          · (repeat (first | exact True.intro | refine ⟨rfl, ?_⟩))
      intro vN1 _
      have hS1 := catL_size (f := vaT) (l := t.vars) (fun x hx => vaT_size (h2 x hx))
      generalize hE2 : Y1 ++ catL vaT (t.vars) = Y2 at *
      have hY2 : Y2.size ≤ 60002000800200 := by rw [← hE2, ByteArray.size_append]; omega
      clear hS1 hY1
      refine am_ (jc_cut (ι := Value) [] (fun _ => True) (fun v => (5, .cell (.val v)) :: [(1, .cell (.val (.pointer (some ⟨bx, 0, none⟩)))), (9, In .i64 (kt : Int)), (10, .cell (.val (.pointer (some ⟨bl, 0, none⟩))))]) (fun v => [Bw v (Y2 ++ catL arT (t.arrays)), .blk bl 50 t.row, .blk bx 40 p.row]) ?_ ?_)
      · refine R_ (E_ r_ (T_ (au_ ?_)))
        refine jc_loopS (ι := Nat × Value) [] (fun i => i.1 ≤ (t.arrays).length) (fun i => (13, In .i64 (i.1 : Int)) :: (5, .cell (.val i.2)) :: [(1, .cell (.val (.pointer (some ⟨bx, 0, none⟩)))), (9, In .i64 (kt : Int)), (10, .cell (.val (.pointer (some ⟨bl, 0, none⟩))))]) (fun i => [Bw i.2 (Y2 ++ catL arT ((t.arrays).take i.1)), .blk bl 50 t.row, .blk bx 40 p.row]) (fun i => (t.arrays).length - i.1) (0, vN1) (Nat.zero_le _) ?_ ?_ ?_
        · rw [show Y2 ++ catL arT ((t.arrays).take 0) = Y2 by rw [List.take_zero, catL, ba_nil]]
          exact bc_ 0 r_ (bc_ 0 r_ (bc_ 0 r_ sub_end))
        · (repeat (first | exact True.intro | refine ⟨rfl, ?_⟩))
        rintro ⟨k, v⟩ hk
        dsimp only at hk ⊢
        have eL : ((t.arrays).map ArRow).length = (t.arrays).length := List.length_map _
        by_cases hlt : k < (t.arrays).length
        · have hlt2 : (k : Int) < (((t.arrays).map ArRow).length : Int) := by omega
          have hsz := catL_takeS (f := arT) (l := t.arrays) (fun x hx => arT_size (h3 x hx)) k
          have hnx := catL_take arT (Y2) hlt
          have hfs := arT_size (h3 _ (List.getElem_mem hlt))
          have hYs : (Y2 ++ catL arT ((t.arrays).take k)).size ≤ 60002000800200 + 200000 := by rw [ByteArray.size_append]; omega
          generalize Y2 ++ catL arT ((t.arrays).take k) = Z at hYs hnx ⊢
          have gk := arT_ok (h3 _ (List.getElem_mem hlt))
          obtain ⟨g0, g1⟩ := gk
          have := name_size g0
          have := g1.size
          refine am_ (R_ (M_ r_ (F_ r_ (L_ 1 r_ (o_ r_ (br_ r_ (fun hlen => o_ r_ (bw_ r_ r_ (T_ (aq_ r_ u_ (as_ (al_ (B_ (jc_anyB 18 none rfl k_ k_ (yM_ r_ (yF_ r_ (yL_ 1 r_ ?_)))))))))))))))))
          refine yM_ r_ (aa_ (fun c => cc_ r_ r_ g_ r_ r_ b_ p_) (aa_ (fun c => cf_ r_ r_ r_ b_ r_ b_ p_) (aa_ (fun c => cb_ r_ r_ p_) (aa_ (fun c => ow_strcat rfl rfl (by simp only [ByteArray.size_append, ba_lit, List.length_cons, List.length_nil] ; omega) p_) (aa_ (fun c => ow_strcat rfl rfl (by simp only [ByteArray.size_append, ba_lit, List.length_cons, List.length_nil] ; omega) p_) (yF_ r_ (yL_ 1 r_ (yM_ r_ ?_))))))))
          refine aa_ (fun c => cc_ r_ r_ g_ r_ r_ b_ p_) (aa_ (fun c => cf_ r_ r_ r_ b_ r_ b_ p_) (aa_ (fun c => cb_ r_ r_ p_) (aa_ (fun c => bm_ r_ (rnumF_c g1) p_) (aa_ (fun c => ow_strcat rfl rfl (by simp only [ByteArray.size_append, ba_lit, List.length_cons, List.length_nil] ; omega) p_) (aa_ (fun c => ow_strcat rfl rfl (by simp only [ByteArray.size_append, ba_lit, List.length_cons, List.length_nil] ; omega) p_) (ae_ ?_))))))
          refine afin_none (o_ r_ (ow_appendS 0 rfl rfl rfl rfl rfl rfl rfl rfl (by show _ + (arT (t.arrays)[k]).size ≤ _ ; omega) (fun v1 _ => E_ r_ (ak_ (ay_ (al_ (an_ (M_ r_ (o_ r_ (bj_ r_ r_ g_ (E_ r_ (ak_ (jq_againS (i := (k, v)) (k + 1, v1) hlt (by dsimp only; omega) ?_ ?_)))))))))))))
          · dsimp only
            rw [hnx]
            exact bc_ 0 r_ (bc_ 0 r_ (bc_ 0 r_ sub_end))
          · (repeat (first | exact True.intro | refine ⟨rfl, ?_⟩))
        · have hlt2 : ¬ (k : Int) < (((t.arrays).map ArRow).length : Int) := by omega
          rw [List.take_of_length_le (show (t.arrays).length ≤ k by omega)]
          refine am_ (R_ (M_ r_ (F_ r_ (L_ 1 r_ (o_ r_ (br_ r_ (fun hlen => o_ r_ (bw_ r_ r_ (T_ (ap_ r_ w_ (av_ (ax_ (ax_ (ba_ (jq_cutS v trivial ?_ ?_)))))))))))))))
          · exact bc_ 0 r_ (bc_ 0 r_ (bc_ 0 r_ sub_end))
          · (repeat (first | exact True.intro | refine ⟨rfl, ?_⟩))
      intro vN2 _
      have hS2 := catL_size (f := arT) (l := t.arrays) (fun x hx => arT_size (h3 x hx))
      generalize hE3 : Y2 ++ catL arT (t.arrays) = Y3 at *
      have hY3 : Y3.size ≤ 60002001000200 := by rw [← hE3, ByteArray.size_append]; omega
      clear hS2 hY2
      refine am_ (jc_cut (ι := Value) [] (fun _ => True) (fun v => (5, .cell (.val v)) :: [(1, .cell (.val (.pointer (some ⟨bx, 0, none⟩)))), (9, In .i64 (kt : Int)), (10, .cell (.val (.pointer (some ⟨bl, 0, none⟩))))]) (fun v => [Bw v (Y3 ++ catL mdT (t.modes)), .blk bl 50 t.row, .blk bx 40 p.row]) ?_ ?_)
      · refine R_ (E_ r_ (T_ (au_ ?_)))
        refine jc_loopS (ι := Nat × Value) [] (fun i => i.1 ≤ (t.modes).length) (fun i => (14, In .i64 (i.1 : Int)) :: (5, .cell (.val i.2)) :: [(1, .cell (.val (.pointer (some ⟨bx, 0, none⟩)))), (9, In .i64 (kt : Int)), (10, .cell (.val (.pointer (some ⟨bl, 0, none⟩))))]) (fun i => [Bw i.2 (Y3 ++ catL mdT ((t.modes).take i.1)), .blk bl 50 t.row, .blk bx 40 p.row]) (fun i => (t.modes).length - i.1) (0, vN2) (Nat.zero_le _) ?_ ?_ ?_
        · rw [show Y3 ++ catL mdT ((t.modes).take 0) = Y3 by rw [List.take_zero, catL, ba_nil]]
          exact bc_ 0 r_ (bc_ 0 r_ (bc_ 0 r_ sub_end))
        · (repeat (first | exact True.intro | refine ⟨rfl, ?_⟩))
        rintro ⟨k, v⟩ hk
        dsimp only at hk ⊢
        have eL : ((t.modes).map MdRow).length = (t.modes).length := List.length_map _
        by_cases hlt : k < (t.modes).length
        · have hlt2 : (k : Int) < (((t.modes).map MdRow).length : Int) := by omega
          have hsz := catL_takeS (f := mdT) (l := t.modes) (fun x hx => mdT_size (h4 x hx)) k
          have hnx := catL_take mdT (Y3) hlt
          have hfs := mdT_size (h4 _ (List.getElem_mem hlt))
          have hYs : (Y3 ++ catL mdT ((t.modes).take k)).size ≤ 60002001000200 + 200000 := by rw [ByteArray.size_append]; omega
          generalize Y3 ++ catL mdT ((t.modes).take k) = Z at hYs hnx ⊢
          have gk := mdT_ok (h4 _ (List.getElem_mem hlt))
          obtain ⟨g0, g1, g2, g3⟩ := gk
          have := name_size g0
          have := name_size g1
          have := numS_size _ g2.1 g2.2
          have := numS_size _ g3.1 g3.2
          refine am_ (R_ (M_ r_ (F_ r_ (L_ 1 r_ (o_ r_ (br_ r_ (fun hlen => o_ r_ (bw_ r_ r_ (T_ (aq_ r_ u_ (as_ (al_ (B_ (R_ (F_ r_ (L_ 1 r_ (M_ r_ ?_)))))))))))))))))
          refine o_ r_ (cc_ r_ r_ g_ r_ r_ b_ (o_ r_ (cr_ r_ r_ r_ (o_ r_ (bl_ r_ r_ (fun bl => S_ 0 r_ (T_ (jc_anyB 19 none rfl k_ k_ (yM_ r_ (yF_ r_ (yL_ 0 r_ (aa_ (fun c => ow_strcat rfl rfl (by simp only [ByteArray.size_append, ba_lit, List.length_cons, List.length_nil] ; omega) p_) (aa_ (fun c => ow_strcat rfl rfl (by simp only [ByteArray.size_append, ba_lit, List.length_cons, List.length_nil] ; omega) p_) ?_)))))))))))))
          refine yF_ r_ (yL_ 0 r_ (aa_ (fun c => ow_strcat rfl rfl (by simp only [ByteArray.size_append, ba_lit, List.length_cons, List.length_nil] ; omega) p_) (aa_ (fun c => ow_strcat rfl rfl (by simp only [ByteArray.size_append, ba_lit, List.length_cons, List.length_nil] ; omega) p_) (yF_ r_ (yL_ 0 r_ (aa_ (fun c => bm_ r_ (refNumber_c _ g2) p_) ?_))))))
          refine aa_ (fun c => ow_strcat rfl rfl (by simp only [ByteArray.size_append, ba_lit, List.length_cons, List.length_nil] ; omega) p_) (aa_ (fun c => ow_strcat rfl rfl (by simp only [ByteArray.size_append, ba_lit, List.length_cons, List.length_nil] ; omega) p_) (yF_ r_ (yL_ 0 r_ (aa_ (fun c => bm_ r_ (refNumber_c _ g3) p_) ?_))))
          refine aa_ (fun c => ow_strcat rfl rfl (by simp only [ByteArray.size_append, ba_lit, List.length_cons, List.length_nil] ; omega) p_) (aa_ (fun c => ow_strcat rfl rfl (by simp only [ByteArray.size_append, ba_lit, List.length_cons, List.length_nil] ; omega) p_) (ae_ (afin_none (o_ r_ (ow_appendS 1 rfl rfl rfl rfl rfl rfl rfl rfl (by show _ + (mdT (t.modes)[k]).size ≤ _ ; omega) (fun v1 _ => E_ r_ (ak_ (ay_ (al_ ?_)))))))))
          refine an_ (M_ r_ (o_ r_ (bj_ r_ r_ g_ (E_ r_ (ak_ (jq_againS (i := (k, v)) (k + 1, v1) hlt (by dsimp only; omega) ?_ ?_))))))
          · dsimp only
            rw [hnx]
            exact bc_ 0 r_ (bc_ 1 r_ (bc_ 1 r_ sub_end))
          · (repeat (first | exact True.intro | refine ⟨rfl, ?_⟩))
        · have hlt2 : ¬ (k : Int) < (((t.modes).map MdRow).length : Int) := by omega
          rw [List.take_of_length_le (show (t.modes).length ≤ k by omega)]
          refine am_ (R_ (M_ r_ (F_ r_ (L_ 1 r_ (o_ r_ (br_ r_ (fun hlen => o_ r_ (bw_ r_ r_ (T_ (ap_ r_ w_ (av_ (ax_ (ax_ (ba_ (jq_cutS v trivial ?_ ?_)))))))))))))))
          · exact bc_ 0 r_ (bc_ 0 r_ (bc_ 0 r_ sub_end))
          · (repeat (first | exact True.intro | refine ⟨rfl, ?_⟩))
      intro vN3 _
      have hS3 := catL_size (f := mdT) (l := t.modes) (fun x hx => mdT_size (h4 x hx))
      generalize hE4 : Y3 ++ catL mdT (t.modes) = Y4 at *
      have hY4 : Y4.size ≤ 60002001200200 := by rw [← hE4, ByteArray.size_append]; omega
      clear hS3 hY3
      refine am_ (jc_cut (ι := Value) [] (fun _ => True) (fun v => (5, .cell (.val v)) :: [(1, .cell (.val (.pointer (some ⟨bx, 0, none⟩)))), (9, In .i64 (kt : Int)), (10, .cell (.val (.pointer (some ⟨bl, 0, none⟩))))]) (fun v => [Bw v (Y4 ++ catL clT (t.claims)), .blk bl 50 t.row, .blk bx 40 p.row]) ?_ ?_)
      · refine R_ (E_ r_ (T_ (au_ ?_)))
        refine jc_loopS (ι := Nat × Value) [] (fun i => i.1 ≤ (t.claims).length) (fun i => (16, In .i64 (i.1 : Int)) :: (5, .cell (.val i.2)) :: [(1, .cell (.val (.pointer (some ⟨bx, 0, none⟩)))), (9, In .i64 (kt : Int)), (10, .cell (.val (.pointer (some ⟨bl, 0, none⟩))))]) (fun i => [Bw i.2 (Y4 ++ catL clT ((t.claims).take i.1)), .blk bl 50 t.row, .blk bx 40 p.row]) (fun i => (t.claims).length - i.1) (0, vN3) (Nat.zero_le _) ?_ ?_ ?_
        · rw [show Y4 ++ catL clT ((t.claims).take 0) = Y4 by rw [List.take_zero, catL, ba_nil]]
          exact bc_ 0 r_ (bc_ 0 r_ (bc_ 0 r_ sub_end))
        · (repeat (first | exact True.intro | refine ⟨rfl, ?_⟩))
        rintro ⟨k, v⟩ hk
        dsimp only at hk ⊢
        have eL : ((t.claims).map ClRow).length = (t.claims).length := List.length_map _
        by_cases hlt : k < (t.claims).length
        · have hlt2 : (k : Int) < (((t.claims).map ClRow).length : Int) := by omega
          have hsz := catL_takeS (f := clT) (l := t.claims) (fun x hx => clT_size (h5 x hx)) k
          have hnx := catL_take clT (Y4) hlt
          have hfs := clT_size (h5 _ (List.getElem_mem hlt))
          have hYs : (Y4 ++ catL clT ((t.claims).take k)).size ≤ 60002001200200 + 200000 := by rw [ByteArray.size_append]; omega
          generalize Y4 ++ catL clT ((t.claims).take k) = Z at hYs hnx ⊢
          have gk := clT_ok (h5 _ (List.getElem_mem hlt))
          obtain ⟨g0, g1⟩ := gk
          have := g0.size
          have := g1.size
          refine am_ (R_ (M_ r_ (F_ r_ (L_ 1 r_ (o_ r_ (br_ r_ (fun hlen => o_ r_ (bw_ r_ r_ (T_ (aq_ r_ u_ (as_ (al_ (B_ (jc_anyB 19 none rfl k_ k_ (yM_ r_ (yF_ r_ (yL_ 1 r_ ?_)))))))))))))))))
          refine yM_ r_ (aa_ (fun c => cc_ r_ r_ g_ r_ r_ b_ p_) (aa_ (fun c => cf_ r_ r_ r_ b_ r_ b_ p_) (aa_ (fun c => cb_ r_ r_ p_) (aa_ (fun c => bm_ r_ (rnumF_c g0) p_) (aa_ (fun c => ow_strcat rfl rfl (by simp only [ByteArray.size_append, ba_lit, List.length_cons, List.length_nil] ; omega) p_) (aa_ (fun c => ow_strcat rfl rfl (by simp only [ByteArray.size_append, ba_lit, List.length_cons, List.length_nil] ; omega) p_) ?_))))))
          refine yF_ r_ (yL_ 1 r_ (yM_ r_ (aa_ (fun c => cc_ r_ r_ g_ r_ r_ b_ p_) (aa_ (fun c => cf_ r_ r_ r_ b_ r_ b_ p_) (aa_ (fun c => cb_ r_ r_ p_) (aa_ (fun c => bm_ r_ (rnumF_c g1) p_) (aa_ (fun c => ow_strcat rfl rfl (by simp only [ByteArray.size_append, ba_lit, List.length_cons, List.length_nil] ; omega) p_) ?_)))))))
          refine aa_ (fun c => ow_strcat rfl rfl (by simp only [ByteArray.size_append, ba_lit, List.length_cons, List.length_nil] ; omega) p_) (ae_ (afin_none (o_ r_ (ow_appendS 0 rfl rfl rfl rfl rfl rfl rfl rfl (by show _ + (clT (t.claims)[k]).size ≤ _ ; omega) (fun v1 _ => E_ r_ (ak_ (ay_ (al_ (an_ (M_ r_ (o_ r_ (bj_ r_ r_ g_ (E_ r_ (ak_ (jq_againS (i := (k, v)) (k + 1, v1) hlt (by dsimp only; omega) ?_ ?_)))))))))))))))
          · dsimp only
            rw [hnx]
            exact bc_ 0 r_ (bc_ 0 r_ (bc_ 0 r_ sub_end))
          · (repeat (first | exact True.intro | refine ⟨rfl, ?_⟩))
        · have hlt2 : ¬ (k : Int) < (((t.claims).map ClRow).length : Int) := by omega
          rw [List.take_of_length_le (show (t.claims).length ≤ k by omega)]
          refine am_ (R_ (M_ r_ (F_ r_ (L_ 1 r_ (o_ r_ (br_ r_ (fun hlen => o_ r_ (bw_ r_ r_ (T_ (ap_ r_ w_ (av_ (ax_ (ax_ (ba_ (jq_cutS v trivial ?_ ?_)))))))))))))))
          · exact bc_ 0 r_ (bc_ 0 r_ (bc_ 0 r_ sub_end))
          · (repeat (first | exact True.intro | refine ⟨rfl, ?_⟩))
      intro vN4 _
      have hS4 := catL_size (f := clT) (l := t.claims) (fun x hx => clT_size (h5 x hx))
      generalize hE5 : Y4 ++ catL clT (t.claims) = Y5 at *
      have hY5 : Y5.size ≤ 60002001400200 := by rw [← hE5, ByteArray.size_append]; omega
      clear hS4 hY4
      have hfine := fine_of 8 20 t.body (by omega) hb hdt
      have hbs := sts_size (sp := Ksp) hfine (by show 2 + 2 * 8 ≤ 100; omega)
      have hX1 : (Y5 ++ (⟨#[98, 111, 100, 121, 10]⟩ : ByteArray)).size = Y5.size + 5 := by rw [ByteArray.size_append]; rfl
      have con1 := fun v => rbody_c 8 t.body Ksp (Y5 ++ (⟨#[98, 111, 100, 121, 10]⟩ : ByteArray)) v hfine (by show 2 + 2 * 8 ≤ 100; omega) (by omega)
      have hX3 : ((Y5 ++ (⟨#[98, 111, 100, 121, 10]⟩ : ByteArray)) ++ stsT Ksp t.body).size = (Y5 ++ (⟨#[98, 111, 100, 121, 10]⟩ : ByteArray)).size + (stsT Ksp t.body).size := ByteArray.size_append ..
      refine R_ (M_ r_ (o_ r_ (ow_appendS 0 rfl rfl rfl rfl rfl rfl rfl rfl (by simp only [ba_lit, List.length_cons, List.length_nil] ; omega) (fun v1 _ => E_ r_ (T_ (R_ (M_ r_ (F_ r_ (L_ 1 r_ (o_ r_ (bt_ [0] rfl rfl (con1 _) (fun pp hpp => E_ r_ (T_ (an_ (M_ r_ (o_ r_ (ow_appendS 0 rfl rfl rfl rfl rfl rfl rfl rfl (by simp only [ba_lit, List.length_cons, List.length_nil] ; omega) (fun v1 _ => E_ r_ ?_))))))))))))))))))
      refine ak_ (ay_ (al_ (an_ (M_ r_ (o_ r_ (bj_ r_ r_ g_ (E_ r_ (ak_ (jq_againS (i := (kt, v)) (kt + 1, v1) hltt (by dsimp only; omega) ?_ ?_)))))))))
      · dsimp only
        rw [hnx, show Z0 ++ tkT t = ((Y5 ++ (⟨#[98, 111, 100, 121, 10]⟩ : ByteArray)) ++ stsT Ksp t.body) ++ (⟨#[101, 110, 100, 10]⟩ : ByteArray) by rw [← hE5, ← hE4, ← hE3, ← hE2, ← hE1, ← hE0]; simp only [tkT, ByteArray.append_assoc]]
        exact bc_ 0 r_ (bc_ 1 r_ sub_end)
      · (repeat (first | exact True.intro | refine ⟨rfl, ?_⟩))
    · have hlt2 : ¬ (kt : Int) < ((p.tasks.map Tk.row).length : Int) := by omega
      rw [List.take_of_length_le (show p.tasks.length ≤ kt by omega)]
      refine am_ (R_ (M_ r_ (F_ r_ (L_ 1 r_ (o_ r_ (br_ r_ (fun hlen => o_ r_ (bw_ r_ r_ (T_ (ap_ r_ w_ (av_ (ax_ (ax_ (ba_ (jq_cutS v trivial ?_ ?_)))))))))))))))
      · exact bc_ 0 r_ (bc_ 0 r_ sub_end)
      · (repeat (first | exact True.intro | refine ⟨rfl, ?_⟩))
  intro vC _
  have hprog : X2 ++ catL tkT p.tasks = progT p := by rw [← hX2]; rfl
  rw [hprog]
  have hPs : (progT p).size ≤ 60002000400000 := by
    have h1 := catL_size (f := tkT) htz
    have : p.tasks.length * 60002000000 ≤ 1000 * 60002000000 := Nat.mul_le_mul_right _ zl
    rw [← hprog, ByteArray.size_append]; omega
  have ePn : ((bytesI (progT p)).map Brow).length = (progT p).size := by rw [List.length_map, bytesI_len]
  have e0 : progF p = if 8192 < (progT p).size then (⟨#[]⟩, 4) else (progT p, 0) := by unfold progF; rw [if_neg hokb, if_neg (by rw [hdeep]; simp)]
  by_cases hbig : 8192 < (progT p).size
  · have hbig2 : (8192 : Int) < (((bytesI (progT p)).map Brow).length : Int) := by omega
    rw [if_pos hbig] at e0
    refine am_ (R_ (M_ r_ (o_ r_ (cw_ 0 r_ r_ (fun hlen => o_ r_ (bz_ r_ r_ (T_ (aq_ r_ u_ (R_ (E_ r_ (E_ r_ (T_ (ar_ (aw_ (jq_ret2 rfl rfl rfl [] rfl (fun K h => by rw [e0] at h; exact h))))))))))))))))
  · have hbig2 : ¬ (8192 : Int) < (((bytesI (progT p)).map Brow).length : Int) := by omega
    rw [if_neg hbig] at e0
    refine am_ (R_ (M_ r_ (o_ r_ (cw_ 0 r_ r_ (fun hlen => o_ r_ (bz_ r_ r_ (T_ (ap_ r_ w_ (as_ (al_ (R_ (M_ r_ (jl_freeze 264 0 rfl rfl (by rw [hc]; simp [hb]) (o_ r_ (ow_bytesToString r_ r_ r_ ?_)))))))))))))))
    rw [bytesOf_bytesI]
    refine E_ r_ (E_ r_ (T_ (ar_ (jq_ret2 rfl rfl rfl [] rfl (fun K h => by rw [e0] at h; exact h)))))
end Go.Proofs.YtamajcgdfjeehaaDoor
end

section
namespace Go.Proofs.YtamajcgdfjeehaaDoor
open Go.Vc
theorem con_conseq {P : Program} [Gl P] {f : FuncId} {ss : List S} {Hin : List Ch} {post post' : (S → List Ch → Prop) → Prop} (hp : ∀ K, post' K → post K) (h : Con P f ss Hin post) : Con P f ss Hin post' := by
  intro vs w A h1 h2 h3 h4 h5 h6
  refine (h vs w A h1 h2 h3 h4 h5 h6).mono ?_
  rintro e w' ⟨v, s, Ho, he, hK, hs, hrest⟩
  exact ⟨v, s, Ho, he, fun K h => hK K (hp K h), hs, hrest⟩
attribute [local irreducible] JL JC JQ OpWp Con ConN
attribute [local irreducible] progT StG BlG
theorem progF_ok {p : Pg} (h : (progF p).2 = 0) : okPg p = true ∧ p.tasks.any (fun t => dpF 8 t.body) = false ∧ (progT p).size ≤ 8192 ∧ (progF p).1 = progT p := by
  unfold progF at h ⊢
  by_cases h1 : okPg p = false
  · rw [if_pos h1] at h; cases h
  rw [if_neg h1] at h ⊢
  by_cases h2 : p.tasks.any (fun t => dpF 8 t.body) = true
  · rw [if_pos h2] at h; cases h
  rw [if_neg h2] at h ⊢
  by_cases h3 : 8192 < (progT p).size
  · rw [if_pos h3] at h; cases h
  rw [if_neg h3]
  exact ⟨by simpa using h1, by simpa using h2, by omega, rfl⟩
attribute [local irreducible] progF

/-! The text of a made program -/
theorem gNewT_c (L : List Int) : Con Tryd.prog 16 [.cell (.list (L.map Irow))] [] (fun K => ∀ b : Nat, True → K (Ptr b) [Dk b L]) := con_conseq (fun _ h b => h b trivial) (gNew_c L)
theorem TaskG.sz {Sh : List Shd} {nm : ByteArray} {W : Int} {t : Tk} (h : TaskG Sh nm W t) : TkSz t := by
  obtain ⟨lab, l, n, hl, hb⟩ := h.body
  have h1 := body_szs hl
  have h2 := Sm.szs_take l n
  refine ⟨by have := h.inputs.1; omega, by rw [h.vars]; decide, ?_, ?_, ?_, by rw [hb]; omega⟩
  · rcases h.arrays with e | ⟨k, _, e⟩ <;> rw [e] <;> simp
  · rcases h.modes with e | ⟨x, lo, hi, _, _, e⟩ <;> rw [e] <;> simp
  · rcases h.claims with e | ⟨a, b, _, _, _, e⟩ <;> rw [e] <;> simp
theorem PgG.sz {T : Nat} {W : Int} {p : Pg} (hT : T ≤ 1000) (h : PgG T W p) : PgSz p := by
  refine ⟨?_, ?_, by rw [h.len]; exact hT, ?_⟩
  · obtain ⟨n, hn, e⟩ := h.res
    rw [e]
    rcases n with _ | _ | n <;> simp [RSl]
  · rcases h.shared with e | ⟨r, k, _, _, e⟩ <;> rw [e] <;> simp
  · intro t ht
    obtain ⟨i, hi, rfl⟩ := List.mem_iff_getElem.1 ht
    exact (h.tasks i hi).sz
theorem Text_c (p : Pg) (hz : PgSz p) : Con Tryd.prog 20 [.row p.row] [] (fun K => K (.tup [Str (progF p).1, In .i64 (progF p).2]) []) := by
  refine con_intro Tryd.func20 rfl rfl (Nat.le_of_ble_eq_true rfl) (fun c hc => R_ (o_ r_ (ci_ r_ (fun bx => E_ r_ (E_ r_ (T_ (R_ (A_ 0 r_ (o_ r_ (bm_ r_ (rProg_c p hz) (X_ r_ (X_ r_ (E_ r_ (E_ r_ (T_ (ar_ (jq_ret2 rfl rfl rfl [] rfl (fun K h => h))))))))))))))))))
end Go.Proofs.YtamajcgdfjeehaaDoor
end

section
namespace Go.Vc
open Go.RowKit

/-! Bytes made of a string, to be turned -/
theorem store_free {P : Program} {w : World} {g o : Nat} {t : TypeId} {fz : Nat × Nat} {cur : Array Value} {v : Value} (hg : w.heap[g]? = some (.cells cur t fz)) (hfz : ∀ k, k < cur.size → ¬ (fz.1 ≤ k ∧ k < fz.2)) (ho : o < cur.size) (h1 : v.oneCell' = true) :
    (store (⟨g, o, none⟩ : Addr) v).run P w = .ok () (w.setRow g (cur.setIfInBounds o v)) := by
  have hcell : w.cell? ⟨g, o, none⟩ = some cur[o] := by simp [World.cell?, hg, ho]
  have hfro : w.frozen? ⟨g, o, none⟩ = false := by
    have := hfz o ho
    obtain ⟨lo, hi⟩ := fz
    simp only [World.frozen?, hg, Bool.and_eq_false_iff, decide_eq_false_iff_not]
    simp only at this
    omega
  rw [run_store P w _ v _ h1, hcell]
  simp [hfro, setCell_eq_setRow w g o cur t fz v hg]
theorem run_storeCells_free (P : Program) (g o : Nat) (t : TypeId) (fz : Nat × Nat) : ∀ (vs : List Value) (i : Nat) (cur : Array Value) (w : World), w.heap[g]? = some (.cells cur t fz) → (∀ k, k < cur.size → ¬ (fz.1 ≤ k ∧ k < fz.2)) → o + i + vs.length ≤ cur.size → (∀ v ∈ vs, v.oneCell' = true) →
    (storeCells ⟨g, o, none⟩ vs i).run P w = .ok () (w.setRow g (cur.toList.take (o + i) ++ vs ++ cur.toList.drop (o + i + vs.length)).toArray)
  | [], i, cur, w, hg, _, _, _ => by
    simp only [storeCells, List.append_nil, List.length_nil, Nat.add_zero, List.take_append_drop, Array.toArray_toList]
    rw [setRow_self w g cur t fz hg]
    rfl
  | v :: rest, i, cur, w, hg, hfz, hl, h1 => by
    have hi : o + i < cur.size := by simp at hl; omega
    have hadd : (⟨g, o, none⟩ : Addr).add i = ⟨g, o + i, none⟩ := by unfold Addr.add; split <;> simp_all
    have hst : (store ((⟨g, o, none⟩ : Addr).add i) v).run P w = .ok () (w.setRow g (cur.setIfInBounds (o + i) v)) := by
      rw [hadd]
      exact store_free hg hfz hi (h1 v (by simp))
    have ih := run_storeCells_free P g o t fz rest (i + 1) (cur.setIfInBounds (o + i) v) (w.setRow g (cur.setIfInBounds (o + i) v)) (setRow_heap w g cur _ t _ hg) (by simpa using hfz) (by simp at hl ⊢; omega) (fun x hx => h1 x (by simp [hx]))
    simp only [storeCells, Sem.run_bind, hst, Result.andThen_ok, ih, setRow_setRow]
    congr 3
    have e1 : (cur.setIfInBounds (o + i) v).toList = cur.toList.set (o + i) v := by simp
    rw [e1, show o + (i + 1) = o + i + 1 by omega, List.length_cons, show o + i + (rest.length + 1) = o + i + 1 + rest.length by omega]
    have hlt : o + i < cur.toList.length := by simpa using hi
    rw [List.take_set, List.drop_set_of_lt (by omega)]
    rw [List.take_succ_eq_append_getElem hlt, List.set_append_right _ _ (by simp; omega)]
    simp [Nat.min_eq_left (Nat.le_of_lt hi)]
section
variable {P : Program} [Gl P] {nt : Nat} {c : Cx P nt} {env : Env} {H Hr : List Ch} {K : S → List Ch → Prop}
variable {d : Option Tmp} {ty t t' u : TypeId} {pos : String} {af : Array Edge} {g : Option (Nat × Bool)} {x y : Operand}
theorem ow_strBytesB [TI P t] [SL P t'] (ht : TI.u P t = .string) (he : TI.u P (SL.e P t') = .int .u8) {s : ByteArray} (hs : s.size ≤ 9223372036854775807) (hx : env.ev x = some (Str s))
    (hK : ∀ v, c.Fresh v → K (.cell (.val v)) (.ownB v (SL.e P t') (bytesI s) :: H)) : OpWp c ⟨d, .convert t t' x, ty, pos, af, g⟩ env H K := by
  intro a w h next Q hn
  have hrun := run_bytes_of_string (P := P) w t t' (SL.e P t') s (by rw [TI.hu (P := P) (t := t), ht]) SL.hs (by rw [TI.hu (P := P) (t := SL.e P t'), he])
  have hge := grownCap_ge w s.size 0 (SL.e P t')
  have hcm : grownCap w s.size 0 (SL.e P t') ≤ maxLen := grownCap_le_maxLen w s.size 0 (SL.e P t') (by unfold maxLen; omega)
  generalize grownCap w s.size 0 (SL.e P t') = cap at hrun hge hcm
  have hbz : (bytesRow s cap).size = cap := by
    unfold bytesRow
    simp only [Array.size_append, Array.size_map, Array.size_replicate]
    have : s.data.size = s.size := rfl
    omega
  generalize hww : w.drew.alloc (.cells (bytesRow s cap) (SL.e P t') ((bytesRow s cap).size, (bytesRow s cap).size + 1)) = w' at hrun
  have hsz : w'.heap.size = w.heap.size + 1 := by rw [← hww]; simp
  have hold : ∀ k, k < w.heap.size → w'.heap[k]? = w.heap[k]? := fun k hk => by rw [← hww]; exact (MapKept.heap_alloc w.drew _).2 k hk
  have hnew : w'.heap[w.heap.size]? = some (.cells (bytesRow s cap) (SL.e P t') ((bytesRow s cap).size, (bytesRow s cap).size + 1)) := by rw [← hww]; exact (MapKept.heap_alloc w.drew _).1
  have hg : Grow (hb []) w w' := ⟨by rw [← hww]; rfl, by rw [← hww]; rfl, by rw [← hww]; rfl, by omega, fun k hk _ => hold k hk⟩
  have h' : StW c ([] ++ H) w := h.heap
  have hlen : (bytesI s).length = s.size := bytesI_len s
  obtain ⟨s1, s2⟩ := StW.step (H1' := [.ownB (.slice (some ⟨w.heap.size, 0, none⟩) s.size cap) (SL.e P t') (bytesI s)]) h' hg (by simp [hb, Ch.bs, Value.ownBlock]) (by simp [hb, Ch.bs, Value.ownBlock]) (by
    intro ch hch
    simp only [List.mem_singleton] at hch
    subst hch
    refine ⟨w.heap.size, cap, bytesRow s cap, _, by rw [hlen], hnew, fun k hk => by simp only; omega, by rw [hlen]; exact hge, hcm, hbz, ?_⟩
    unfold bytesRow
    rw [Array.toList_append, List.take_left' (by rw [hlen]; simp)]
    simp [bytesI])
  unfold Oper.wp
  have hex : (execOp a.eval ⟨d, .convert t t' x, ty, pos, af, g⟩).run P w = .ok (.value (.slice (some ⟨w.heap.size, 0, none⟩) s.size cap)) w' := by
    simp only [execOp, ev_val h hx, Sem.run_bind, hrun, Result.andThen_ok, Sem.run_pure]
  rw [hex]
  exact hn _ _ _ _ (hK _ (fun b hb => by simp only [Value.ownBlock, Option.some.injEq] at hb; have := h.heap.size; omega)) s1 ⟨rfl, rfl⟩ s2
theorem bytes_ok {a : Act} {w : World} {v : Value} {e : TypeId} {L : List Int} {j : Nat} (h : St c env H a w) (hp : pick [j] H = some ([.ownB v e L], Hr)) : BytesOk w e v L := h.heap.ok (.ownB v e L) ((pick_perm hp).mem_iff.2 (by simp))
theorem ow_lenB [SL P t] {v : Value} {e : TypeId} {L : List Int} (j : Nat) (hx : env.ev x = some (.cell (.val v))) (hp : pick [j] H = some ([.ownB v e L], Hr)) (hK : L.length ≤ 9223372036854775807 → K (In .i64 L.length) H) :
    OpWp c ⟨d, .call { callee := .builtin .len, args := #[x], argTypes := #[t] }, ty, pos, af, g⟩ env H K := by
  by_cases hm : L.length ≤ 9223372036854775807
  · exact ow_valx rfl (fun a w hs => by
      obtain ⟨g, cap, cur, fz, hv, _⟩ := bytes_ok hs hp
      simp [execOp, resolve, invoke, builtin, Builtin.len_, run_elem t, ev_val hs hx, hv, goInt]) (hK hm)
  · intro a w hs
    obtain ⟨g, cap, cur, fz, hv, _, _, h1, h2, _⟩ := bytes_ok hs hp
    unfold maxLen at h2
    omega
theorem ow_indexB [SL P t] {v : Value} {e : TypeId} {L : List Int} {m : Int} (j : Nat) (hx : env.ev x = some (.cell (.val v))) (hp : pick [j] H = some ([.ownB v e L], Hr)) (hy : env.ev y = some (In .i64 m)) (h0 : 0 ≤ m) (hlt : m.toNat < L.length)
    (hz : (TI.i P (SL.e P t)).size = 1) (hK : K (.cell (.inn v m.toNat)) H) : OpWp c ⟨d, .indexAddr t x y, ty, pos, af, g⟩ env H K :=
  ow_val (fun a w h => by
    obtain ⟨b, cap, cur, fz, rfl, _⟩ := bytes_ok h hp
    refine ⟨.pointer (some ⟨b, m.toNat, none⟩), ?_, b, L.length, cap, rfl, rfl⟩
    have : 0 ≤ m ∧ m < ↑L.length := ⟨h0, by omega⟩
    simp [execOp, ev_val h hx, ev_val h hy, Instr.indexAt, asIntOf, run_elem t, this, run_sizeOf, add_at, hz]) hK
theorem ow_storeB [TI P t] {v : Value} {e : TypeId} {i : Nat} {L : List Int} {n : Int} (j : Nat) (hx : env.ev x = some (.cell (.inn v i))) (hy : env.ev y = some (In .u8 n)) (hp : pick [j] H = some ([.ownB v e L], Hr)) (hlt : i < L.length)
    (hz : (TI.i P t).size = 1) (hK : K .void (.ownB v e (L.set i n) :: Hr)) : OpWp c ⟨d, .store t x y, ty, pos, af, g⟩ env H K := by
  intro a w h next Q hn
  have hperm := pick_perm hp
  have h' : StW c (.ownB v e L :: Hr) w := h.heap.perm hperm
  have hav : c.av (.ownB v e L :: Hr) = c.av H := av_perm c hperm
  obtain ⟨b, n', cap, hv, hxe⟩ := ev_ok h hx
  subst hv
  obtain ⟨b', cap', cur, fz, hve, hh, hfz, g3, g4, g5, g6⟩ := bytes_ok h hp
  simp only [Value.slice.injEq, Option.some.injEq, Addr.mk.injEq] at hve
  obtain ⟨⟨rfl, _⟩, rfl, rfl⟩ := hve
  have hyv := ev_val h hy
  have hst := store_free (P := P) (v := .int .u8 n) hh hfz (show i < cur.size by omega) rfl
  have hrun : (execOp a.eval ⟨d, .store t x y, ty, pos, af, g⟩).run P w = .ok .skip (w.setRow b (cur.setIfInBounds i (.int .u8 n))) := by
    have hsz : ¬ (Value.int IntKind.u8 n).cells.size ≠ (TI.i P t).size := by rw [hz]; simp [Value.cells]
    have hadd : (⟨b, i, none⟩ : Addr).add 0 = ⟨b, i, none⟩ := by unfold Addr.add; split <;> simp_all
    simp only [execOp, hxe, hyv, Instr.storeAt, Instr.sureAddr, storeVar, Sem.run_bind, Sem.run_pure, Result.andThen_ok, run_sizeOf, if_neg hsz]
    simp [Value.cells, storeCells, hadd, hst]
  have hg : Grow (hb [.ownB (.slice (some ⟨b, 0, none⟩) L.length cap) e L]) w (w.setRow b (cur.setIfInBounds i (.int .u8 n))) := setRow_grow w b _
  obtain ⟨s1, s2⟩ := StW.step (H1 := [.ownB (.slice (some ⟨b, 0, none⟩) L.length cap) e L]) (H1' := [.ownB (.slice (some ⟨b, 0, none⟩) L.length cap) e (L.set i n)]) h' hg (fun b hb => .inl hb) (by simp [hb, Ch.bs, Value.ownBlock]) (by
    intro ch hch
    simp only [List.mem_singleton] at hch
    subst hch
    refine ⟨b, cap, _, fz, by rw [List.length_set], setRow_heap w b _ _ e _ hh, by simpa using hfz, by rw [List.length_set]; exact g3, g4, by simpa using g5, ?_⟩
    rw [List.length_set, Array.toList_setIfInBounds, List.take_set, g6, List.map_set])
  unfold Oper.wp
  rw [hrun]
  exact hn .void _ undef _ hK s1 trivial (fun s v hs => s2 s v (by rw [List.singleton_append, hav]; exact hs))
theorem ow_trimB [SL P t] {v : Value} {e : TypeId} {L : List Int} {m : Int} (j : Nat) (hx : env.ev x = some (.cell (.val v))) (hp : pick [j] H = some ([.ownB v e L], Hr)) (hy : env.ev y = some (In .i64 m)) (h0 : 0 ≤ m) (hle : m.toNat ≤ L.length)
    (hK : K (.cell (.val (trimV v m.toNat))) H) : OpWp c ⟨d, .slice t x none (some y) none, ty, pos, af, g⟩ env H K :=
  ow_val (fun a w h => by
    obtain ⟨b, cap, cur, fz, rfl, _, _, h1, _⟩ := bytes_ok h hp
    refine ⟨.slice (some ⟨b, 0, none⟩) m.toNat cap, ?_, rfl, rfl⟩
    have hb : 0 ≤ m ∧ m ≤ (cap : Int) := ⟨h0, by omega⟩
    simp [execOp, ev_val h hx, ev_val h hy, Instr.sliceAt, Instr.slice, Instr.sliceBounds, Instr.sliceBound, asIntOf, run_elem t, run_sizeOf, hb]
    intro _
    simp [Addr.add]) hK
theorem ow_sufB [SL P t] {v : Value} {e : TypeId} {L : List Int} {m : Int} (j : Nat) (hx : env.ev x = some (.cell (.val v))) (hp : pick [j] H = some ([.ownB v e L], Hr)) (hy : env.ev y = some (In .i64 m)) (h0 : 0 ≤ m) (hle : m.toNat ≤ L.length)
    (hz : (TI.i P (SL.e P t)).size = 1) (hK : K (.cell (.val (sufV v m.toNat 1))) H) : OpWp c ⟨d, .slice t x (some y) none none, ty, pos, af, g⟩ env H K :=
  ow_val (fun a w h => by
    obtain ⟨b, cap, cur, fz, rfl, _⟩ := bytes_ok h hp
    refine ⟨_, ?_, rfl, rfl⟩
    have hb : 0 ≤ m ∧ m ≤ (L.length : Int) := ⟨h0, by omega⟩
    simp [execOp, ev_val h hx, ev_val h hy, Instr.sliceAt, Instr.slice, Instr.sliceBounds, Instr.sliceBound, asIntOf, run_elem t, run_sizeOf, hb, sufV, hz]) hK
/-- append(b[:i], b[k:]...), in place. -/
theorem ow_appendCutB [SL P t] {v : Value} {e : TypeId} {L : List Int} {i k : Nat} (j : Nat) (hx : env.ev x = some (.cell (.val (trimV v i)))) (hy : env.ev y = some (.cell (.val (sufV v k 1)))) (hp : pick [j] H = some ([.ownB v e L], Hr)) (he : e = SL.e P t) (hik : i ≤ k) (hk : k ≤ L.length) (hk1 : k ≤ i + 1)
    (hz : (TI.i P (SL.e P t)).size = 1) (hK : K (.cell (.val (trimV v (i + (L.length - k))))) (.ownB (trimV v (i + (L.length - k))) e (L.take i ++ L.drop k) :: Hr)) :
    OpWp c ⟨d, .call { callee := .builtin .append, args := #[x, y], argTypes := #[t, t] }, ty, pos, af, g⟩ env H K := by
  subst he
  intro a w h next Q hn
  have hperm := pick_perm hp
  have h' : StW c (.ownB v (SL.e P t) L :: Hr) w := h.heap.perm hperm
  have hav : c.av (.ownB v (SL.e P t) L :: Hr) = c.av H := av_perm c hperm
  obtain ⟨b, cap, cur, fz, rfl, hh, hfz, g3, g4, g5, g6⟩ := bytes_ok h hp
  have h1x := ev_val h hx
  have h1y := ev_val h hy
  have hcl : cur.toList.length = cap := by simpa using g5
  have hnl : (L.drop k).length = L.length - k := List.length_drop ..
  -- the cells that are moved
  have hget : ∀ q u, ((L.drop k).map (Value.int .u8))[q]? = some u → w.cell? ⟨b, k + q, none⟩ = some u := by
    intro q u hq
    rw [List.getElem?_map, List.getElem?_drop, ← List.getElem?_map, ← g6] at hq
    have hq2 : k + q < L.length := by
      rcases Nat.lt_or_ge (k + q) L.length with h | h
      · exact h
      · rw [List.getElem?_eq_none (by rw [List.length_take]; omega)] at hq; cases hq
    rw [List.getElem?_take_of_lt hq2] at hq
    simp only [World.cell?, hh]
    rw [← Array.getElem?_toList]
    exact hq
  obtain ⟨M, hM⟩ : ∃ M, M = (L.drop k).map (Value.int .u8) := ⟨_, rfl⟩
  have hMl : M.length = L.length - k := by rw [hM, List.length_map, hnl]
  have hMo : ∀ u ∈ M, u.oneCell' = true := by intro u hu; rw [hM] at hu; obtain ⟨n, _, rfl⟩ := List.mem_map.1 hu; rfl
  rw [← hM] at hget
  have hst := run_storeCells_free P b i (SL.e P t) fz M 0 cur w hh hfz (by omega) hMo
  simp only [Nat.add_zero] at hst
  have hrun : (execOp a.eval ⟨d, .call { callee := .builtin .append, args := #[x, y], argTypes := #[t, t] }, ty, pos, af, g⟩).run P w = .ok (.value (.slice (some ⟨b, 0, none⟩) (i + (L.length - k)) cap)) (w.setRow b (cur.toList.take i ++ M ++ cur.toList.drop (i + M.length)).toArray) := by
    have hroom : i + (L.length - k) ≤ cap := by omega
    simp only [trimV] at h1x
    simp only [sufV] at h1y
    simp only [execOp, resolve, invoke, builtin, Sem.run_bind, Sem.run_pure, Result.andThen_ok, List.map_toArray, List.map_cons, List.map_nil, h1x, h1y]
    have hfc : (Builtin.firstCells 1 (L.length - k) (.slice (if cap = k then some ⟨b, 0, none⟩ else some ((⟨b, 0, none⟩ : Addr).add k)) (L.length - k) (cap - k))).run P w = .ok M.toArray w := by
      by_cases hck : cap = k
      · have h0 : L.length - k = 0 := by omega
        have hM0 : M = [] := List.eq_nil_of_length_eq_zero (by omega)
        rw [if_pos hck, h0, hM0]
        exact run_firstCells_some (P := P) w 1 0 ⟨b, 0, none⟩ 0 (cap - k) [] (by simp) (by simp)
      · rw [if_neg hck]
        have hadd : (⟨b, 0, none⟩ : Addr).add k = ⟨b, k, none⟩ := by rw [add_at]; simp
        rw [hadd]
        exact run_firstCells_some (P := P) w 1 (L.length - k) ⟨b, k, none⟩ (L.length - k) (cap - k) M (by omega) (fun q u hq => by rw [add_at]; exact hget q u hq)
    have hadd2 : (⟨b, 0, none⟩ : Addr).add i = ⟨b, i, none⟩ := by rw [add_at]; simp
    simp [Builtin.append_, run_elem t, run_sizeOf, Builtin.lenOf, hz, hroom, hfc, hadd2, hst]
  generalize hw2 : w.setRow b (cur.toList.take i ++ M ++ cur.toList.drop (i + M.length)).toArray = w2 at hrun
  have hg : Grow (hb [.ownB (.slice (some ⟨b, 0, none⟩) L.length cap) (SL.e P t) L]) w w2 := by rw [← hw2]; exact setRow_grow w b _
  have hll : (L.take i ++ L.drop k).length = i + (L.length - k) := by rw [List.length_append, hnl, List.length_take]; omega
  obtain ⟨s1, s2⟩ := StW.step (H1 := [.ownB (.slice (some ⟨b, 0, none⟩) L.length cap) (SL.e P t) L]) (H1' := [.ownB (.slice (some ⟨b, 0, none⟩) (i + (L.length - k)) cap) (SL.e P t) (L.take i ++ L.drop k)]) h' hg (fun b hb => .inl hb) (by simp [hb, Ch.bs, Value.ownBlock]) (by
    intro ch hch
    simp only [List.mem_singleton] at hch
    subst hch
    have hn2 : (cur.toList.take i ++ M ++ cur.toList.drop (i + M.length)).length = cap := by
      simp only [List.length_append, List.length_take, List.length_drop]
      omega
    refine ⟨b, cap, _, fz, by rw [hll], by rw [← hw2]; exact setRow_heap w b _ _ _ _ hh, by rw [List.size_toArray, hn2, ← g5]; exact hfz, by rw [hll]; omega, g4, by rw [List.size_toArray, hn2], ?_⟩
    rw [hll, List.map_append, List.map_take, ← g6, List.take_take, Nat.min_eq_left (by omega), ← hM]
    exact List.take_left' (by simp only [List.length_append, List.length_take]; omega))
  unfold Oper.wp
  rw [hrun]
  exact hn _ _ _ _ hK s1 ⟨rfl, rfl⟩ (fun s v hs => s2 s v (by rw [List.singleton_append, hav]; exact hs))
/-- Such bytes, only read from here on. -/
theorem st_freezeBy {a : Act} {w : World} {i j : Nat} {v : Value} {e : TypeId} {L : List Int} (h : St c env H a w) (hi : env.lookup i = some (.cell (.val v))) (hp : pick [j] H = some ([.ownB v e L], Hr)) (hX : c.Fresh v) :
    St c ((i, .cell (.list (L.map Brow))) :: env) Hr a w := by
  have h' : StW c ([.ownB v e L] ++ Hr) w := h.heap.perm (pick_perm hp)
  have hav : c.av ([.ownB v e L] ++ Hr) = c.av H := av_perm c (pick_perm hp)
  obtain ⟨d1, d2⟩ := h'.drop
  obtain ⟨b, cap, cur, fz, rfl, hh, hfz, g3, g4, g5, g6⟩ := bytes_ok h hp
  have hnd := h'.nodup
  rw [List.singleton_append, hb_cons, List.nodup_append] at hnd
  have hgn : b ∉ hb Hr := fun hx => hnd.2.2 b (by simp [Ch.bs, Value.ownBlock]) b hx rfl
  have hgA : ¬ c.av Hr b := by
    intro hx
    rcases hx with hx | hx
    · have := hX b rfl; have := c.bnd b hx; omega
    · exact hgn hx
  have hrows : ∀ (w : World) (A : Nat → Prop) (L : List Int), RdRows w A 1 (L.map Brow) (L.map (Value.int .u8)) := by
    intro w A L
    induction L with
    | nil => rfl
    | cons n L ih => exact ⟨[.int .u8 n], L.map (Value.int .u8), rfl, rfl, ⟨_, _, rfl, ⟨rfl, rfl⟩, rfl⟩, ih⟩
  refine ⟨h.size, h.defers, fun t s hl => ?_, d1⟩
  rcases lookup_cons hl with ⟨rfl, rfl⟩ | ⟨_, hl⟩
  · have : a.tmps.getD t undef = .slice (some ⟨b, 0, none⟩) L.length cap := (h.slots t _ hi).1
    rw [this]
    refine ⟨some ⟨b, 0, none⟩, cap, by rw [List.length_map], by rw [List.length_map]; exact g3, g4, .inr ⟨b, 0, L.map (Value.int .u8), 1, rfl, hgA, ?_, Nat.one_pos, hrows _ _ L⟩⟩
    intro q u hq
    rw [← g6] at hq
    have hq2 : q < L.length := by
      rcases Nat.lt_or_ge q L.length with h | h
      · exact h
      · rw [List.getElem?_eq_none (by rw [List.length_take]; omega)] at hq; cases hq
    rw [List.getElem?_take_of_lt hq2] at hq
    simp only [World.cell?, hh, Nat.zero_add]
    rw [← Array.getElem?_toList]
    exact hq
  · exact d2 _ _ (by rw [hav]; exact h.slots t s hl)
theorem jc_freezeBy {Q : Exit → Act → World → Prop} {code : Code} (i j : Nat) {v : Value} {e : TypeId} {L : List Int} (hi : env.lookup i = some (.cell (.val v))) (hp : pick [j] H = some ([.ownB v e L], Hr)) (hX : c.Fresh v)
    (h : JC c code Q ((i, .cell (.list (L.map Brow))) :: env) Hr) : JC c code Q env H := fun a w hs => h a w (st_freezeBy hs hi hp hX)
theorem jl_freezeBy {ops : Array Oper} {l : List Oper} {Q : Exit → Act → World → Prop} (i j : Nat) {v : Value} {e : TypeId} {L : List Int} (hi : env.lookup i = some (.cell (.val v))) (hp : pick [j] H = some ([.ownB v e L], Hr)) (hX : c.Fresh v)
    (h : JL c ops Q l ((i, .cell (.list (L.map Brow))) :: env) Hr) : JL c ops Q l env H := fun a w hs => h a w (st_freezeBy hs hi hp hX)
theorem jq_freezeBy {ex : Exit} {Q : Exit → Act → World → Prop} (i j : Nat) {v : Value} {e : TypeId} {L : List Int} (hi : env.lookup i = some (.cell (.val v))) (hp : pick [j] H = some ([.ownB v e L], Hr)) (hX : c.Fresh v)
    (h : JQ c Q ex ((i, .cell (.list (L.map Brow))) :: env) Hr) : JQ c Q ex env H := fun a w hs => h a w (st_freezeBy hs hi hp hX)
theorem fresh_trim {v : Value} {m : Nat} (h : c.Fresh v) : c.Fresh (trimV v m) := by
  intro b hb
  cases v with
  | slice p n cap => cases p <;> exact h b hb
  | _ => exact h b hb
theorem rdRows_drop {w : World} {A : Nat → Prop} {k : Nat} : ∀ {rows : List (List C)} {vs : List Value} (m : Nat), RdRows w A k rows vs → RdRows w A k (rows.drop m) (vs.drop (m * k))
  | _, _, 0, h => by simpa using h
  | [], _, m + 1, h => by simp only [RdRows] at h; subst h; simp [RdRows]
  | r0 :: rows, _, m + 1, h => by
    obtain ⟨c0, r, rfl, q1, q2, q3⟩ := h
    rw [List.drop_succ_cons, Nat.add_mul, Nat.one_mul, Nat.add_comm (m * k) k, ← List.drop_drop, List.drop_left' q1]
    exact rdRows_drop m q3
theorem list_drop {w : World} {A : Nat → Prop} {rows : List (List C)} {ad : Option Addr} {cap m q : Nat} (hb : rows.length = 0 ∨ ∃ b off vs k, ad = some ⟨b, off, none⟩ ∧ ¬ A b ∧ Cells w b off vs ∧ 0 < k ∧ RdRows w A k rows vs) (h1 : rows.length ≤ cap) (h2 : cap ≤ maxLen) (hle : m ≤ rows.length) (hk : ∀ row ∈ rows, row.length = q) :
    Rd1 w A (.list (rows.drop m)) (.slice (if cap = m then ad else ad.map (·.add (m * q))) (rows.length - m) (cap - m)) := by
  have hlen : (rows.drop m).length = rows.length - m := List.length_drop ..
  refine ⟨_, _, by rw [hlen], by omega, by omega, ?_⟩
  by_cases hnil : rows.length = m
  · exact .inl (by omega)
  rcases hb with hb | ⟨b, off, vs, k, rfl, hA, hc, hk2, hr⟩
  · exact .inl (by omega)
  · have hkk : k = q := by
      match rows, hr, hk, hnil, hle with
      | [], _, _, hn, hl => simp at hn hl; omega
      | r0 :: _, hr, hk, _, _ =>
        obtain ⟨c0, _, _, q1, q2, _⟩ := hr
        rw [← q1, rdRow_length q2]
        exact hk r0 (by simp)
    have hcm : ¬ cap = m := by omega
    rw [if_neg hcm]
    exact .inr ⟨b, off + m * k, vs.drop (m * k), k, by rw [← hkk]; simp [add_at], hA, cells_drop hc _, hk2, rdRows_drop _ hr⟩
/-- The end of a list. -/
theorem ow_suffix [SL P t] {rows : List (List C)} {m : Int} (hx : env.ev x = some (.cell (.list rows))) (hy : env.ev y = some (In .i64 m)) (h0 : 0 ≤ m) (hle : m.toNat ≤ rows.length) (hk : ∀ row ∈ rows, row.length = (TI.i P (SL.e P t)).size)
    (hK : K (.cell (.list (rows.drop m.toNat))) H) : OpWp c ⟨d, .slice t x (some y) none none, ty, pos, af, g⟩ env H K :=
  ow_val (fun a w h => by
    obtain ⟨ad, cap, he, h1, h2, hb⟩ := ev_ok h hx
    refine ⟨.slice (if cap = m.toNat then ad else ad.map (·.add (m.toNat * (TI.i P (SL.e P t)).size))) (rows.length - m.toNat) (cap - m.toNat), ?_, list_drop hb h1 h2 hle hk⟩
    have hb : 0 ≤ m ∧ m ≤ (rows.length : Int) := ⟨h0, by omega⟩
    simp [execOp, he, ev_val h hy, Instr.sliceAt, Instr.slice, Instr.sliceBounds, Instr.sliceBound, asIntOf, run_elem t, run_sizeOf, hb]) hK
theorem hok_prefix {Sw : World → Prop} [SL P t] {rows : List (List C)} {m : Int} (hx : env.ev x = some (.cell (.list rows))) (hy : env.ev y = some (In .i64 m)) (h0 : 0 ≤ m) (hle : m.toNat ≤ rows.length) :
    HOk c Sw env H ⟨d, .slice t x none (some y) none, ty, pos, af, none⟩ (.cell (.list (rows.take m.toNat))) :=
  fun a w h _ => by
    obtain ⟨ad, cap, he, h1, h2, hb⟩ := ev_ok h hx
    refine ⟨.slice ad m.toNat cap, fun w' _ => ?_, ?_⟩
    · have hb : 0 ≤ m ∧ m ≤ (cap : Int) := ⟨h0, by omega⟩
      simp [execOp, he, ev_val h hy, Instr.sliceAt, Instr.slice, Instr.sliceBounds, Instr.sliceBound, asIntOf, run_elem t, run_sizeOf, hb]
      intro _
      cases ad <;> simp [Addr.add]
    · have hlen : (rows.take m.toNat).length = m.toNat := by simp; omega
      refine ⟨ad, cap, by rw [hlen], by omega, h2, ?_⟩
      rcases hb with hb | ⟨b, off, vs, k, rfl, hA, hc, hk, hr⟩
      · exact .inl (by omega)
      · exact .inr ⟨b, off, vs.take (m.toNat * k), k, rfl, hA, cells_take hc _, hk, rdRows_take m.toNat hr hle⟩
theorem hok_suffix {Sw : World → Prop} [SL P t] {rows : List (List C)} {m : Int} (hx : env.ev x = some (.cell (.list rows))) (hy : env.ev y = some (In .i64 m)) (h0 : 0 ≤ m) (hle : m.toNat ≤ rows.length) {k : Nat} (hz : (TI.i P (SL.e P t)).size = k) (hk : ∀ row ∈ rows, row.length = k) :
    HOk c Sw env H ⟨d, .slice t x (some y) none none, ty, pos, af, none⟩ (.cell (.list (rows.drop m.toNat))) :=
  fun a w h _ => by
    rw [← hz] at hk
    obtain ⟨ad, cap, he, h1, h2, hb⟩ := ev_ok h hx
    refine ⟨.slice (if cap = m.toNat then ad else ad.map (·.add (m.toNat * (TI.i P (SL.e P t)).size))) (rows.length - m.toNat) (cap - m.toNat), fun w' _ => ?_, list_drop hb h1 h2 hle hk⟩
    have hb : 0 ≤ m ∧ m ≤ (rows.length : Int) := ⟨h0, by omega⟩
    simp [execOp, he, ev_val h hy, Instr.sliceAt, Instr.slice, Instr.sliceBounds, Instr.sliceBound, asIntOf, run_elem t, run_sizeOf, hb]
theorem hok_indexList {Sw : World → Prop} [SL P t] {rows : List (List C)} {m : Int} {row : List C} (hx : env.ev x = some (.cell (.list rows))) (hy : env.ev y = some (In .i64 m)) (h0 : 0 ≤ m) (hrow : rows[m.toNat]? = some row) (hz : (TI.i P (SL.e P t)).size = row.length) (hp : 0 < row.length) :
    HOk c Sw env H ⟨d, .indexAddr t x y, ty, pos, af, none⟩ (.cell (.place row)) :=
  fun a w h _ => by
    obtain ⟨hlt, _⟩ := List.getElem?_eq_some_iff.1 hrow
    obtain ⟨ad, cap, he, _, _, hb⟩ := ev_ok h hx
    rcases hb with hb | ⟨b, off, vs, k, rfl, hA, hc, hk, hr⟩
    · omega
    · obtain ⟨cs, h1, h2, h3⟩ := rdRows_get hr hc hrow
      have hkl : k = row.length := by rw [← h2, rdRow_length h1]
      refine ⟨.pointer (some ⟨b, off + m.toNat * k, none⟩), fun w' _ => ?_, b, _, cs, rfl, hA, hp, h3, h1⟩
      have : 0 ≤ m ∧ m < ↑rows.length := ⟨h0, by omega⟩
      simp [execOp, he, ev_val h hy, Instr.indexAt, asIntOf, run_elem t, this, run_sizeOf, add_at, hz, hkl]
theorem hok_indexMap {Sw : World → Prop} [SL P t] {α : Type} {f : α → List C} {l : List α} {m : Int} (hx : env.ev x = some (.cell (.list (l.map f)))) (hy : env.ev y = some (In .i64 m)) (h0 : 0 ≤ m) (hlt : m.toNat < l.length) {k : Nat} (hz : (TI.i P (SL.e P t)).size = k) (hf : ∀ a, (f a).length = k) (hp : 0 < k) :
    HOk c Sw env H ⟨d, .indexAddr t x y, ty, pos, af, none⟩ (.cell (.place (f l[m.toNat]))) :=
  hok_indexList hx hy h0 (by simp [List.getElem?_eq_getElem hlt]) (by rw [hz, hf]) (by rw [hf]; exact hp)
theorem rows_len {α : Type} {f : α → List C} {l : List α} {k : Nat} (h : ∀ a, (f a).length = k) : ∀ r ∈ l.map f, r.length = k := by
  intro r hr
  obtain ⟨a, _, rfl⟩ := List.mem_map.1 hr
  exact h a
theorem rows_len_take {α : Type} {f : α → List C} {l : List α} {k i : Nat} (h : ∀ a, (f a).length = k) : ∀ r ∈ (l.map f).take i, r.length = k := fun r hr => rows_len h r (List.mem_of_mem_take hr)
theorem rows_len_drop {α : Type} {f : α → List C} {l : List α} {k i : Nat} (h : ∀ a, (f a).length = k) : ∀ r ∈ (l.map f).drop i, r.length = k := fun r hr => rows_len h r (List.mem_of_mem_drop hr)
theorem rows_len_one {r0 : List C} {k : Nat} (h : r0.length = k) : ∀ r ∈ [r0], r.length = k := by
  intro r hr
  rw [List.mem_singleton.1 hr]
  exact h
end
end Go.Vc
end

section
namespace Go.Proofs.YtamajcgdfjeehaaDoor
open Go.Vc
attribute [local irreducible] JL JC JQ OpWp Con ConN HOk
attribute [local irreducible] progF progT StG BlG scan byteAt runLen isL isD isName hasW
set_option maxHeartbeats 8000000


theorem TokenPrograms_c (ha : Con Tryd.prog 19 [] [] (fun K => K (Bl true) [])) (L : List Int) (hL : InR L) (n : Int) (hn : -9223372036854775808 ≤ n ∧ n ≤ 9223372036854775807) (y w : Int) (_hy : 0 ≤ y ∧ y ≤ 255) (hw : 0 ≤ w ∧ w ≤ 255) :
    Con Tryd.prog 5 [.cell (.list (L.map Irow)), In .i64 n, In .u8 y, In .u8 w] [] (fun K => K (Bl true) []) := by
  refine con_intro Tryd.func5 rfl rfl (Nat.le_of_ble_eq_true rfl) (fun c hc => ?_)
  by_cases hLn : L.length ≤ 400
  · have hd : (!decide (L.length ≤ 400)) = false := by simp [hLn]
    refine R_ (E_ r_ (T_ (am_ (R_ (M_ r_ (o_ r_ (bm_ r_ (gFew_c _) (o_ r_ (ce_ r_ (T_ (ap_ r_ v_ (as_ (al_ (R_ (M_ r_ (o_ r_ (bt_ [] rfl rfl (gNewT_c L) (fun bd hbd => ?_))))))))))))))))))
    skip
    refine o_ r_ (bt_ [0] rfl rfl (gProgram_c hL hLn 2) (fun p hp => ?_))
    have hz : PgSz p := hp.sz (by decide)
    refine o_ r_ (bm_ r_ (Text_c p hz) (M_ r_ (X_ r_ (X_ r_ (E_ r_ (E_ r_ (T_ (am_ (am_ ?_)))))))))
    by_cases hs : (progF p).2 = 0 ∧ (progF p).1 ≠ ⟨#[]⟩
    · obtain ⟨hs1, hs2⟩ := hs
      obtain ⟨_, _, hs3, hs4⟩ := progF_ok hs1
      rw [← hs4] at hs3
      generalize (progF p).1 = s at hs2 hs3 ⊢
      generalize (progF p).2 = e at hs1 ⊢
      subst hs1
      have hs0 : 0 < s.size := by
        rcases Nat.eq_zero_or_pos s.size with h | h
        · exact absurd (ByteArray.size_eq_zero_iff.1 h) hs2
        · exact h
      clear hp hz hd
      have hbl := bytesI_len s
      have hmod : 0 ≤ n % (s.size : Int) ∧ n % (s.size : Int) < s.size := ⟨Int.emod_nonneg _ (by omega), Int.emod_lt_of_pos _ (by omega)⟩
      have h4 : w % 4 = 0 ∨ w % 4 = 1 ∨ w % 4 = 2 ∨ w % 4 = 3 := by omega
      rcases h4 with h4 | h4 | h4 | h4
      · refine an_ (M_ r_ (o_ r_ (bx_ r_ r_ (M_ r_ (ah_ r_ r_ b_ (bd_ r_ (ah_ r_ r_ b_ (cs_ r_ r_ (o_ r_ (bv_ r_ r_ r_ (T_ (ap_ r_ w_ (as_ (al_ (R_ (M_ r_ (o_ r_ (ow_strBytesB rfl rfl g_ rfl (fun v0 fv0 => E_ r_ (T_ ?_))))))))))))))))))))
        refine R_ (M_ r_ (M_ r_ (o_ r_ (ow_lenB 0 rfl rfl (fun _ => o_ r_ (bm_ rfl (gMod_c _ _ (by rw [bytesI_len]; omega) hn) (E_ r_ (T_ (am_ (R_ (M_ r_ (o_ r_ (ow_remU8 r_ r_ g_ g_ (T_ (au_ (R_ (o_ r_ (bn_ r_ r_ (E_ r_ ?_)))))))))))))))))))
        refine T_ (aq_ r_ u_ (an_ (M_ r_ (M_ r_ (M_ r_ (o_ r_ (ow_indexB 0 rfl rfl rfl (by rw [hbl] ; omega) (by rw [hbl] ; omega) rfl (ag_ (ow_storeB 0 rfl rfl rfl (by rw [hbl] ; omega) rfl (ak_ (ay_ (al_ (jc_freezeBy 11 0 rfl rfl fv0 ?_)))))))))))))
        generalize (bytesI s).set (n % ((bytesI s).length : Int)).toNat y = M
        have hsame : Con Tryd.prog 23 [.cell (.list ((scan (bytesOf M)).1.map Tok.row)), .cell (.list ((scan (bytesOf M)).1.map Tok.row)), Bl true] [] (fun K => K (Bl true) []) := by
          have := Same_c (scan (bytesOf M)).1 (scan (bytesOf M)).1 true
          rwa [sameL_refl] at this
        refine R_ (M_ r_ (o_ r_ (ow_bytesToString (l := M) r_ r_ r_ (o_ r_ (bm_ r_ (Scan_c _) (M_ r_ (X_ r_ (X_ r_ (X_ r_ (E_ r_ (E_ r_ (E_ r_ (T_ (R_ (M_ r_ (o_ r_ (ow_bytesToString (l := M) r_ r_ r_ (o_ r_ (bm_ r_ (rScan_c _) ?_)))))))))))))))))))
        refine M_ r_ (X_ r_ (X_ r_ (X_ r_ (E_ r_ (E_ r_ (E_ r_ (T_ (R_ (M_ r_ (M_ r_ (o_ r_ (bn_ r_ r_ (M_ r_ (ah_ r_ x_ b_ (bd_ r_ (ah_ r_ x_ b_ (bd_ r_ (ah_ r_ x_ b_ (bn_ r_ r_ ?_)))))))))))))))))))
        refine o_ r_ (bp_ r_ x_ r_ (M_ r_ (ah_ r_ x_ b_ (bd_ r_ (ah_ r_ x_ b_ (bd_ r_ (ah_ r_ x_ b_ (bm_ r_ (hsame) (o_ r_ (bp_ r_ x_ r_ (M_ r_ (ah_ r_ r_ b_ (bm_ r_ (ha) (o_ r_ (bp_ r_ r_ r_ (E_ r_ (T_ (ar_ (jq_ret1 rfl rfl [] rfl (fun K h => h))))))))))))))))))))
      · refine an_ (M_ r_ (o_ r_ (bx_ r_ r_ (M_ r_ (ah_ r_ r_ b_ (bd_ r_ (ah_ r_ r_ b_ (cs_ r_ r_ (o_ r_ (bv_ r_ r_ r_ (T_ (ap_ r_ w_ (as_ (al_ (R_ (M_ r_ (o_ r_ (ow_strBytesB rfl rfl g_ rfl (fun v0 fv0 => E_ r_ (T_ ?_))))))))))))))))))))
        refine R_ (M_ r_ (M_ r_ (o_ r_ (ow_lenB 0 rfl rfl (fun _ => o_ r_ (bm_ rfl (gMod_c _ _ (by rw [bytesI_len]; omega) hn) (E_ r_ (T_ (am_ ?_)))))))))
        rw [hbl]
        generalize n % (s.size : Int) = i at hmod ⊢
        refine R_ (M_ r_ (o_ r_ (ow_remU8 r_ r_ g_ g_ (T_ (au_ (R_ (o_ r_ (bn_ r_ r_ (E_ r_ (T_ (ap_ r_ v_ (R_ (o_ r_ (bn_ r_ r_ (E_ r_ (T_ (aq_ r_ u_ (jc_anyB 7 none rfl k_ k_ ?_))))))))))))))))))
        refine yM_ r_ (yM_ r_ (aa_ (fun c => ow_trimB 0 r_ r_ r_ g_ g_ ⟨rfl, .refl _⟩) (yM_ r_ (yM_ r_ (aa_ (fun c => bj_ r_ r_ g_ p_) (aa_ (fun c => ow_sufB 0 r_ r_ r_ g_ g_ r_ ⟨rfl, .refl _⟩) (ae_ (afin_none (o_ r_ (ow_appendCutB 0 r_ r_ r_ r_ g_ g_ g_ r_ (E_ r_ (ak_ (ay_ (al_ (jc_freezeBy 11 0 rfl rfl (fresh_trim fv0) ?_)))))))))))))))
        generalize (bytesI s).take i.toNat ++ (bytesI s).drop (i + 1).toNat = M
        have hsame : Con Tryd.prog 23 [.cell (.list ((scan (bytesOf M)).1.map Tok.row)), .cell (.list ((scan (bytesOf M)).1.map Tok.row)), Bl true] [] (fun K => K (Bl true) []) := by
          have := Same_c (scan (bytesOf M)).1 (scan (bytesOf M)).1 true
          rwa [sameL_refl] at this
        refine R_ (M_ r_ (o_ r_ (ow_bytesToString (l := M) r_ r_ r_ (o_ r_ (bm_ r_ (Scan_c _) (M_ r_ (X_ r_ (X_ r_ (X_ r_ (E_ r_ (E_ r_ (E_ r_ (T_ (R_ (M_ r_ (o_ r_ (ow_bytesToString (l := M) r_ r_ r_ (o_ r_ (bm_ r_ (rScan_c _) ?_)))))))))))))))))))
        refine M_ r_ (X_ r_ (X_ r_ (X_ r_ (E_ r_ (E_ r_ (E_ r_ (T_ (R_ (M_ r_ (M_ r_ (o_ r_ (bn_ r_ r_ (M_ r_ (ah_ r_ x_ b_ (bd_ r_ (ah_ r_ x_ b_ (bd_ r_ (ah_ r_ x_ b_ (bn_ r_ r_ ?_)))))))))))))))))))
        refine o_ r_ (bp_ r_ x_ r_ (M_ r_ (ah_ r_ x_ b_ (bd_ r_ (ah_ r_ x_ b_ (bd_ r_ (ah_ r_ x_ b_ (bm_ r_ (hsame) (o_ r_ (bp_ r_ x_ r_ (M_ r_ (ah_ r_ r_ b_ (bm_ r_ (ha) (o_ r_ (bp_ r_ r_ r_ (E_ r_ (T_ (ar_ (jq_ret1 rfl rfl [] rfl (fun K h => h))))))))))))))))))))
      · have eM : ((bytesI s).map Brow).length = s.size := by rw [List.length_map, hbl]
        refine an_ (M_ r_ (o_ r_ (bx_ r_ r_ (M_ r_ (ah_ r_ r_ b_ (bd_ r_ (ah_ r_ r_ b_ (cs_ r_ r_ (o_ r_ (bv_ r_ r_ r_ (T_ (ap_ r_ w_ (as_ (al_ (R_ (M_ r_ (o_ r_ (ow_strBytes r_ r_ g_ r_ (E_ r_ (T_ ?_))))))))))))))))))))
        refine R_ (M_ r_ (M_ r_ (o_ r_ (br_ r_ (fun hlen => o_ r_ (bm_ rfl (gMod_c _ _ (by rw [eM] ; omega) hn) (E_ r_ (T_ (am_ ?_)))))))))
        rw [eM]
        generalize bytesI s = M at hbl eM ⊢
        generalize n % (s.size : Int) = i at hmod ⊢
        refine jc_cut (ι := List Int) [] (fun _ => True) (fun M => [(11, .cell (.list (M.map Brow)))]) (fun _ => []) ?_ ?_
        · refine R_ (M_ r_ (o_ r_ (ow_remU8 r_ r_ g_ g_ (T_ (au_ (R_ (o_ r_ (bn_ r_ r_ (E_ r_ (T_ (ap_ r_ v_ (R_ (o_ r_ (bn_ r_ r_ (E_ r_ (T_ (ap_ r_ v_ (R_ ?_))))))))))))))))))
          refine o_ r_ (bn_ r_ r_ (E_ r_ (T_ (aq_ r_ u_ (jc_reset [(11, .cell (.list (M.map Brow))), (12, In .i64 i)] [] ?_ ⟨[], _, rfl⟩ ?_)))))
          · (repeat (first | exact True.intro | refine ⟨rfl, ?_⟩))
          clear hs4 hs2 hs0 h4 hn hL hLn hbd ha eM
          have hi : i.toNat < M.length := by omega
          have eR : S.cell (.list (((([] : List (List C)) ++ (M.map Brow).take i.toNat) ++ [[C.val (.int .u8 M[i.toNat])]]) ++ (M.map Brow).drop i.toNat)) = .cell (.list (((M.take i.toNat ++ [M[i.toNat]]) ++ M.drop i.toNat).map Brow)) := by
            simp only [List.nil_append, List.map_append, List.map_take, List.map_drop, List.map_cons, List.map_nil]
          refine jc_hp0 15 (n := 16) rfl k_ (df_ (i := 1) rfl k_ k_ k_ b_ (by (repeat (first | refine pani_then ?_ | refine pani_block ?_)); exact pani_body) (dk_ rfl) ?_)
          refine df_ (i := 2) rfl k_ k_ k_ b_ (by (repeat (first | refine pani_then ?_ | refine pani_block ?_)); exact pani_body) (dk_ rfl) ?_
          refine df_ (i := 3) rfl k_ k_ k_ b_ (by (repeat (first | refine pani_then ?_ | refine pani_block ?_)); exact pani_body) (hok_prefix rfl rfl g_ (by simp only [List.length_map]; omega)) ?_
          refine df_ (i := 5) rfl k_ k_ k_ b_ (by (repeat (first | refine pani_then ?_ | refine pani_block ?_)); exact pani_body) (dk_ rfl) ?_
          refine df_ (i := 6) rfl k_ k_ k_ b_ (by (repeat (first | refine pani_then ?_ | refine pani_block ?_)); exact pani_body) (dk_ rfl) ?_
          refine df_ (i := 7) rfl k_ k_ k_ b_ (by (repeat (first | refine pani_then ?_ | refine pani_block ?_)); exact pani_body) (hok_indexMap (k := 1) rfl rfl g_ g_ rfl (fun _ => rfl) (by decide)) ?_
          refine df_ (i := 11) rfl k_ k_ k_ b_ (by (repeat (first | refine pani_then ?_ | refine pani_block ?_)); exact pani_body) (dk_ rfl) ?_
          refine df_ (i := 12) rfl k_ k_ k_ b_ (by (repeat (first | refine pani_then ?_ | refine pani_block ?_)); exact pani_body) (dk_ rfl) ?_
          refine df_ (i := 13) rfl k_ k_ k_ b_ (by (repeat (first | refine pani_then ?_ | refine pani_block ?_)); exact pani_body) (hok_suffix (k := 1) rfl rfl g_ (by simp only [List.length_map]; omega) rfl (rows_len (fun _ => rfl))) ?_
          refine hp_br2 (i := 0) (j := 8) rfl rfl k_ rfl ?_ ?_
          refine hs_v (ow_buildSliceOwn (rows := []) rfl rfl (nb rfl) rfl rfl (nb rfl) (fun v _ _ => ⟨?_, ?_⟩))
          exact keep0
          refine hp_br2 (i := 4) (j := 8) rfl rfl k_ rfl ?_ ?_
          refine hs_v (ow_append 0 rfl rfl rfl rfl rfl rfl rfl (by first | exact rows_len_take (fun _ => rfl) | exact rows_len_drop (fun _ => rfl) | exact rows_len_one rfl) (by show (_ + _) * 1 ≤ _ ; simp only [List.length_append, List.length_take, List.length_drop, List.length_map, List.length_cons, List.length_nil] ; omega) (by simp only [List.length_append, List.length_take, List.length_drop, List.length_map, List.length_cons, List.length_nil] ; omega) (fun v _ => ⟨?_, ?_⟩))
          exact keep0
          refine dg_ (i := 8) r_ k_ b_ (cb_ r_ r_ ⟨?_, ?_⟩)
          exact keep0
          refine dg_ (i := 9) r_ k_ b_ (bq_ r_ r_ b_ r_ r_ b_ ⟨?_, ?_⟩)
          exact keep0
          refine dg_ (i := 10) rfl k_ b_ (ow_append 0 rfl rfl rfl rfl rfl rfl rfl (by first | exact rows_len_take (fun _ => rfl) | exact rows_len_drop (fun _ => rfl) | exact rows_len_one rfl) (by show (_ + _) * 1 ≤ _ ; simp only [List.length_append, List.length_take, List.length_drop, List.length_map, List.length_cons, List.length_nil] ; omega) (by simp only [List.length_append, List.length_take, List.length_drop, List.length_map, List.length_cons, List.length_nil] ; omega) (fun v _ => ⟨?_, ?_⟩))
          exact keep0
          refine dg_ (i := 14) rfl k_ b_ (ow_append 0 rfl rfl rfl rfl rfl rfl rfl (by first | exact rows_len_take (fun _ => rfl) | exact rows_len_drop (fun _ => rfl) | exact rows_len_one rfl) (by show (_ + _) * 1 ≤ _ ; simp only [List.length_append, List.length_take, List.length_drop, List.length_map, List.length_cons, List.length_nil] ; omega) (by simp only [List.length_append, List.length_take, List.length_drop, List.length_map, List.length_cons, List.length_nil] ; omega) (fun v _ => ⟨?_, ?_⟩))
          exact keep0
          refine df_ (i := 15) rfl k_ k_ k_ b_ (by (repeat (first | refine pani_then ?_ | refine pani_block ?_)); exact pani_body) (hok_assign rfl) ?_
          refine hp_done k_ ?_
          rotate_left
          refine hs_v (cb_ rfl rfl ⟨?_, ?_⟩)
          exact keep0
          refine hp_br2 (i := 4) (j := 9) rfl rfl k_ rfl ?_ ?_
          refine hs_v (ow_append 0 rfl rfl rfl rfl rfl rfl rfl (by first | exact rows_len_take (fun _ => rfl) | exact rows_len_drop (fun _ => rfl) | exact rows_len_one rfl) (by show (_ + _) * 1 ≤ _ ; simp only [List.length_append, List.length_take, List.length_drop, List.length_map, List.length_cons, List.length_nil] ; omega) (by simp only [List.length_append, List.length_take, List.length_drop, List.length_map, List.length_cons, List.length_nil] ; omega) (fun v _ => ⟨?_, ?_⟩))
          exact keep0
          refine dg_ (i := 9) r_ k_ b_ (bq_ r_ r_ b_ r_ r_ b_ ⟨?_, ?_⟩)
          exact keep0
          refine dg_ (i := 10) rfl k_ b_ (ow_append 0 rfl rfl rfl rfl rfl rfl rfl (by first | exact rows_len_take (fun _ => rfl) | exact rows_len_drop (fun _ => rfl) | exact rows_len_one rfl) (by show (_ + _) * 1 ≤ _ ; simp only [List.length_append, List.length_take, List.length_drop, List.length_map, List.length_cons, List.length_nil] ; omega) (by simp only [List.length_append, List.length_take, List.length_drop, List.length_map, List.length_cons, List.length_nil] ; omega) (fun v _ => ⟨?_, ?_⟩))
          exact keep0
          refine dg_ (i := 14) rfl k_ b_ (ow_append 0 rfl rfl rfl rfl rfl rfl rfl (by first | exact rows_len_take (fun _ => rfl) | exact rows_len_drop (fun _ => rfl) | exact rows_len_one rfl) (by show (_ + _) * 1 ≤ _ ; simp only [List.length_append, List.length_take, List.length_drop, List.length_map, List.length_cons, List.length_nil] ; omega) (by simp only [List.length_append, List.length_take, List.length_drop, List.length_map, List.length_cons, List.length_nil] ; omega) (fun v _ => ⟨?_, ?_⟩))
          exact keep0
          refine df_ (i := 15) rfl k_ k_ k_ b_ (by (repeat (first | refine pani_then ?_ | refine pani_block ?_)); exact pani_body) (hok_assign rfl) ?_
          refine hp_done k_ ?_
          rotate_left
          refine hs_v (bq_ rfl rfl (nb rfl) rfl rfl (nb rfl) ⟨?_, ?_⟩)
          exact keep0
          refine dg_ (i := 4) rfl k_ b_ (ow_append 0 rfl rfl rfl rfl rfl rfl rfl (by first | exact rows_len_take (fun _ => rfl) | exact rows_len_drop (fun _ => rfl) | exact rows_len_one rfl) (by show (_ + _) * 1 ≤ _ ; simp only [List.length_append, List.length_take, List.length_drop, List.length_map, List.length_cons, List.length_nil] ; omega) (by simp only [List.length_append, List.length_take, List.length_drop, List.length_map, List.length_cons, List.length_nil] ; omega) (fun v _ => ⟨?_, ?_⟩))
          exact keep0
          refine dg_ (i := 10) rfl k_ b_ (ow_append 0 rfl rfl rfl rfl rfl rfl rfl (by first | exact rows_len_take (fun _ => rfl) | exact rows_len_drop (fun _ => rfl) | exact rows_len_one rfl) (by show (_ + _) * 1 ≤ _ ; simp only [List.length_append, List.length_take, List.length_drop, List.length_map, List.length_cons, List.length_nil] ; omega) (by simp only [List.length_append, List.length_take, List.length_drop, List.length_map, List.length_cons, List.length_nil] ; omega) (fun v _ => ⟨?_, ?_⟩))
          exact keep0
          refine dg_ (i := 14) rfl k_ b_ (ow_append 0 rfl rfl rfl rfl rfl rfl rfl (by first | exact rows_len_take (fun _ => rfl) | exact rows_len_drop (fun _ => rfl) | exact rows_len_one rfl) (by show (_ + _) * 1 ≤ _ ; simp only [List.length_append, List.length_take, List.length_drop, List.length_map, List.length_cons, List.length_nil] ; omega) (by simp only [List.length_append, List.length_take, List.length_drop, List.length_map, List.length_cons, List.length_nil] ; omega) (fun v _ => ⟨?_, ?_⟩))
          exact keep0
          refine df_ (i := 15) rfl k_ k_ k_ b_ (by (repeat (first | refine pani_then ?_ | refine pani_block ?_)); exact pani_body) (hok_assign rfl) ?_
          refine hp_done k_ ?_
          rotate_left
          refine hs_v (cb_ rfl rfl ⟨?_, ?_⟩)
          exact keep0
          refine hp_br2 (i := 0) (j := 9) rfl rfl k_ rfl ?_ ?_
          refine hs_v (ow_buildSliceOwn (rows := []) rfl rfl (nb rfl) rfl rfl (nb rfl) (fun v _ _ => ⟨?_, ?_⟩))
          exact keep0
          refine hp_br2 (i := 4) (j := 9) rfl rfl k_ rfl ?_ ?_
          refine hs_v (ow_append 0 rfl rfl rfl rfl rfl rfl rfl (by first | exact rows_len_take (fun _ => rfl) | exact rows_len_drop (fun _ => rfl) | exact rows_len_one rfl) (by show (_ + _) * 1 ≤ _ ; simp only [List.length_append, List.length_take, List.length_drop, List.length_map, List.length_cons, List.length_nil] ; omega) (by simp only [List.length_append, List.length_take, List.length_drop, List.length_map, List.length_cons, List.length_nil] ; omega) (fun v _ => ⟨?_, ?_⟩))
          exact keep0
          refine dg_ (i := 9) r_ k_ b_ (bq_ r_ r_ b_ r_ r_ b_ ⟨?_, ?_⟩)
          exact keep0
          refine dg_ (i := 10) rfl k_ b_ (ow_append 0 rfl rfl rfl rfl rfl rfl rfl (by first | exact rows_len_take (fun _ => rfl) | exact rows_len_drop (fun _ => rfl) | exact rows_len_one rfl) (by show (_ + _) * 1 ≤ _ ; simp only [List.length_append, List.length_take, List.length_drop, List.length_map, List.length_cons, List.length_nil] ; omega) (by simp only [List.length_append, List.length_take, List.length_drop, List.length_map, List.length_cons, List.length_nil] ; omega) (fun v _ => ⟨?_, ?_⟩))
          exact keep0
          refine dg_ (i := 14) rfl k_ b_ (ow_append 0 rfl rfl rfl rfl rfl rfl rfl (by first | exact rows_len_take (fun _ => rfl) | exact rows_len_drop (fun _ => rfl) | exact rows_len_one rfl) (by show (_ + _) * 1 ≤ _ ; simp only [List.length_append, List.length_take, List.length_drop, List.length_map, List.length_cons, List.length_nil] ; omega) (by simp only [List.length_append, List.length_take, List.length_drop, List.length_map, List.length_cons, List.length_nil] ; omega) (fun v _ => ⟨?_, ?_⟩))
          exact keep0
          refine df_ (i := 15) rfl k_ k_ k_ b_ (by (repeat (first | refine pani_then ?_ | refine pani_block ?_)); exact pani_body) (hok_assign rfl) ?_
          refine hp_done k_ ?_
          rotate_left
          refine hs_v (bq_ rfl rfl (nb rfl) rfl rfl (nb rfl) ⟨?_, ?_⟩)
          exact keep0
          refine dg_ (i := 4) rfl k_ b_ (ow_append 0 rfl rfl rfl rfl rfl rfl rfl (by first | exact rows_len_take (fun _ => rfl) | exact rows_len_drop (fun _ => rfl) | exact rows_len_one rfl) (by show (_ + _) * 1 ≤ _ ; simp only [List.length_append, List.length_take, List.length_drop, List.length_map, List.length_cons, List.length_nil] ; omega) (by simp only [List.length_append, List.length_take, List.length_drop, List.length_map, List.length_cons, List.length_nil] ; omega) (fun v _ => ⟨?_, ?_⟩))
          exact keep0
          refine dg_ (i := 10) rfl k_ b_ (ow_append 0 rfl rfl rfl rfl rfl rfl rfl (by first | exact rows_len_take (fun _ => rfl) | exact rows_len_drop (fun _ => rfl) | exact rows_len_one rfl) (by show (_ + _) * 1 ≤ _ ; simp only [List.length_append, List.length_take, List.length_drop, List.length_map, List.length_cons, List.length_nil] ; omega) (by simp only [List.length_append, List.length_take, List.length_drop, List.length_map, List.length_cons, List.length_nil] ; omega) (fun v _ => ⟨?_, ?_⟩))
          exact keep0
          refine dg_ (i := 14) rfl k_ b_ (ow_append 0 rfl rfl rfl rfl rfl rfl rfl (by first | exact rows_len_take (fun _ => rfl) | exact rows_len_drop (fun _ => rfl) | exact rows_len_one rfl) (by show (_ + _) * 1 ≤ _ ; simp only [List.length_append, List.length_take, List.length_drop, List.length_map, List.length_cons, List.length_nil] ; omega) (by simp only [List.length_append, List.length_take, List.length_drop, List.length_map, List.length_cons, List.length_nil] ; omega) (fun v _ => ⟨?_, ?_⟩))
          exact keep0
          refine df_ (i := 15) rfl k_ k_ k_ b_ (by (repeat (first | refine pani_then ?_ | refine pani_block ?_)); exact pani_body) (hok_assign rfl) ?_
          refine hp_done k_ ?_
          rotate_left
          refine hs_v (bq_ rfl rfl (nb rfl) rfl rfl (nb rfl) ⟨?_, ?_⟩)
          exact keep0
          refine dg_ (i := 0) rfl k_ b_ (ow_buildSliceOwn (rows := []) rfl rfl b_ rfl rfl b_ (fun v _ _ => ⟨?_, ?_⟩))
          exact keep0
          refine dg_ (i := 4) rfl k_ b_ (ow_append 0 rfl rfl rfl rfl rfl rfl rfl (by first | exact rows_len_take (fun _ => rfl) | exact rows_len_drop (fun _ => rfl) | exact rows_len_one rfl) (by show (_ + _) * 1 ≤ _ ; simp only [List.length_append, List.length_take, List.length_drop, List.length_map, List.length_cons, List.length_nil] ; omega) (by simp only [List.length_append, List.length_take, List.length_drop, List.length_map, List.length_cons, List.length_nil] ; omega) (fun v _ => ⟨?_, ?_⟩))
          exact keep0
          refine dg_ (i := 10) rfl k_ b_ (ow_append 0 rfl rfl rfl rfl rfl rfl rfl (by first | exact rows_len_take (fun _ => rfl) | exact rows_len_drop (fun _ => rfl) | exact rows_len_one rfl) (by show (_ + _) * 1 ≤ _ ; simp only [List.length_append, List.length_take, List.length_drop, List.length_map, List.length_cons, List.length_nil] ; omega) (by simp only [List.length_append, List.length_take, List.length_drop, List.length_map, List.length_cons, List.length_nil] ; omega) (fun v _ => ⟨?_, ?_⟩))
          exact keep0
          refine dg_ (i := 14) rfl k_ b_ (ow_append 0 rfl rfl rfl rfl rfl rfl rfl (by first | exact rows_len_take (fun _ => rfl) | exact rows_len_drop (fun _ => rfl) | exact rows_len_one rfl) (by show (_ + _) * 1 ≤ _ ; simp only [List.length_append, List.length_take, List.length_drop, List.length_map, List.length_cons, List.length_nil] ; omega) (by simp only [List.length_append, List.length_take, List.length_drop, List.length_map, List.length_cons, List.length_nil] ; omega) (fun v _ => ⟨?_, ?_⟩))
          exact keep0
          refine df_ (i := 15) rfl k_ k_ k_ b_ (by (repeat (first | refine pani_then ?_ | refine pani_block ?_)); exact pani_body) (hok_assign rfl) ?_
          refine hp_done k_ ?_
          rotate_left
          · refine jq_freeze 11 0 rfl rfl (by rw [hc]; simp [hb]) (jq_same 11 rfl eR (ay_ (jq_cutS ((M.take i.toNat ++ [M[i.toNat]]) ++ M.drop i.toNat) trivial ?_ ?_)))
            · exact sub_end
            · (repeat (first | exact True.intro | refine ⟨rfl, ?_⟩))
          · refine jq_freeze 11 0 rfl rfl (by rw [hc]; simp [hb]) (jq_same 11 rfl eR (ay_ (jq_cutS ((M.take i.toNat ++ [M[i.toNat]]) ++ M.drop i.toNat) trivial ?_ ?_)))
            · exact sub_end
            · (repeat (first | exact True.intro | refine ⟨rfl, ?_⟩))
          · refine jq_freeze 11 0 rfl rfl (by rw [hc]; simp [hb]) (jq_same 11 rfl eR (ay_ (jq_cutS ((M.take i.toNat ++ [M[i.toNat]]) ++ M.drop i.toNat) trivial ?_ ?_)))
            · exact sub_end
            · (repeat (first | exact True.intro | refine ⟨rfl, ?_⟩))
          · refine jq_freeze 11 0 rfl rfl (by rw [hc]; simp [hb]) (jq_same 11 rfl eR (ay_ (jq_cutS ((M.take i.toNat ++ [M[i.toNat]]) ++ M.drop i.toNat) trivial ?_ ?_)))
            · exact sub_end
            · (repeat (first | exact True.intro | refine ⟨rfl, ?_⟩))
          · refine jq_freeze 11 0 rfl rfl (by rw [hc]; simp [hb]) (jq_same 11 rfl eR (ay_ (jq_cutS ((M.take i.toNat ++ [M[i.toNat]]) ++ M.drop i.toNat) trivial ?_ ?_)))
            · exact sub_end
            · (repeat (first | exact True.intro | refine ⟨rfl, ?_⟩))
          · refine jq_freeze 11 0 rfl rfl (by rw [hc]; simp [hb]) (jq_same 11 rfl eR (ay_ (jq_cutS ((M.take i.toNat ++ [M[i.toNat]]) ++ M.drop i.toNat) trivial ?_ ?_)))
            · exact sub_end
            · (repeat (first | exact True.intro | refine ⟨rfl, ?_⟩))
        intro M _
        have hsame : Con Tryd.prog 23 [.cell (.list ((scan (bytesOf M)).1.map Tok.row)), .cell (.list ((scan (bytesOf M)).1.map Tok.row)), Bl true] [] (fun K => K (Bl true) []) := by
          have := Same_c (scan (bytesOf M)).1 (scan (bytesOf M)).1 true
          rwa [sameL_refl] at this
        refine R_ (M_ r_ (o_ r_ (ow_bytesToString (l := M) r_ r_ r_ (o_ r_ (bm_ r_ (Scan_c _) (M_ r_ (X_ r_ (X_ r_ (X_ r_ (E_ r_ (E_ r_ (E_ r_ (T_ (R_ (M_ r_ (o_ r_ (ow_bytesToString (l := M) r_ r_ r_ (o_ r_ (bm_ r_ (rScan_c _) ?_)))))))))))))))))))
        refine M_ r_ (X_ r_ (X_ r_ (X_ r_ (E_ r_ (E_ r_ (E_ r_ (T_ (R_ (M_ r_ (M_ r_ (o_ r_ (bn_ r_ r_ (M_ r_ (ah_ r_ x_ b_ (bd_ r_ (ah_ r_ x_ b_ (bd_ r_ (ah_ r_ x_ b_ (bn_ r_ r_ ?_)))))))))))))))))))
        refine o_ r_ (bp_ r_ x_ r_ (M_ r_ (ah_ r_ x_ b_ (bd_ r_ (ah_ r_ x_ b_ (bd_ r_ (ah_ r_ x_ b_ (bm_ r_ (hsame) (o_ r_ (bp_ r_ x_ r_ (M_ r_ (ah_ r_ r_ b_ (bm_ r_ (ha) (o_ r_ (bp_ r_ r_ r_ (E_ r_ (T_ (ar_ (jq_ret1 rfl rfl [] rfl (fun K h => h))))))))))))))))))))
      · have eM : ((bytesI s).map Brow).length = s.size := by rw [List.length_map, hbl]
        refine an_ (M_ r_ (o_ r_ (bx_ r_ r_ (M_ r_ (ah_ r_ r_ b_ (bd_ r_ (ah_ r_ r_ b_ (cs_ r_ r_ (o_ r_ (bv_ r_ r_ r_ (T_ (ap_ r_ w_ (as_ (al_ (R_ (M_ r_ (o_ r_ (ow_strBytes r_ r_ g_ r_ (E_ r_ (T_ ?_))))))))))))))))))))
        refine R_ (M_ r_ (M_ r_ (o_ r_ (br_ r_ (fun hlen => o_ r_ (bm_ rfl (gMod_c _ _ (by rw [eM] ; omega) hn) (E_ r_ (T_ (am_ (R_ (M_ r_ (o_ r_ (ow_remU8 r_ r_ g_ g_ (T_ (au_ (R_ (o_ r_ (bn_ r_ r_ (E_ r_ ?_)))))))))))))))))))
        refine T_ (ap_ r_ v_ (R_ (o_ r_ (bn_ r_ r_ (E_ r_ (T_ (ap_ r_ v_ (R_ (o_ r_ (bn_ r_ r_ (E_ r_ (T_ (ap_ r_ v_ (as_ (ay_ (al_ ?_))))))))))))))))
        generalize bytesI s = M at hbl eM ⊢
        have hsame : Con Tryd.prog 23 [.cell (.list ((scan (bytesOf M)).1.map Tok.row)), .cell (.list ((scan (bytesOf M)).1.map Tok.row)), Bl true] [] (fun K => K (Bl true) []) := by
          have := Same_c (scan (bytesOf M)).1 (scan (bytesOf M)).1 true
          rwa [sameL_refl] at this
        refine R_ (M_ r_ (o_ r_ (ow_bytesToString (l := M) r_ r_ r_ (o_ r_ (bm_ r_ (Scan_c _) (M_ r_ (X_ r_ (X_ r_ (X_ r_ (E_ r_ (E_ r_ (E_ r_ (T_ (R_ (M_ r_ (o_ r_ (ow_bytesToString (l := M) r_ r_ r_ (o_ r_ (bm_ r_ (rScan_c _) ?_)))))))))))))))))))
        refine M_ r_ (X_ r_ (X_ r_ (X_ r_ (E_ r_ (E_ r_ (E_ r_ (T_ (R_ (M_ r_ (M_ r_ (o_ r_ (bn_ r_ r_ (M_ r_ (ah_ r_ x_ b_ (bd_ r_ (ah_ r_ x_ b_ (bd_ r_ (ah_ r_ x_ b_ (bn_ r_ r_ ?_)))))))))))))))))))
        refine o_ r_ (bp_ r_ x_ r_ (M_ r_ (ah_ r_ x_ b_ (bd_ r_ (ah_ r_ x_ b_ (bd_ r_ (ah_ r_ x_ b_ (bm_ r_ (hsame) (o_ r_ (bp_ r_ x_ r_ (M_ r_ (ah_ r_ r_ b_ (bm_ r_ (ha) (o_ r_ (bp_ r_ r_ r_ (E_ r_ (T_ (ar_ (jq_ret1 rfl rfl [] rfl (fun K h => h))))))))))))))))))))
    · by_cases he : (progF p).2 = 0
      · have hs : (progF p).1 = ⟨#[]⟩ := Classical.not_not.1 fun h => hs ⟨he, h⟩
        rw [he, hs]
        refine an_ (M_ r_ (o_ r_ (bx_ r_ r_ (M_ r_ (ah_ r_ r_ b_ (bd_ r_ (ah_ r_ r_ b_ (cs_ r_ r_ (o_ r_ (bv_ r_ r_ r_ (T_ (aq_ r_ x_ (R_ (o_ r_ (bm_ r_ (ha) (E_ r_ (T_ (ar_ (aw_ (jq_ret1 rfl rfl [] rfl (fun K h => h)))))))))))))))))))))
      · refine an_ (M_ r_ (o_ r_ (bx_ r_ r_ (M_ r_ (ai_ r_ u_ b_ (ai_ r_ u_ b_ (o_ r_ (bp_ r_ u_ r_ (T_ (aq_ r_ r_ (R_ (o_ r_ (bm_ r_ (ha) (E_ r_ (T_ (ar_ (aw_ (jq_ret1 rfl rfl [] rfl (fun K h => h)))))))))))))))))))
  · have hd : (!decide (L.length ≤ 400)) = true := by simp [hLn]
    refine R_ (E_ r_ (T_ (am_ (R_ (M_ r_ (o_ r_ (bm_ r_ (gFew_c _) (o_ r_ (ce_ r_ (T_ (aq_ r_ u_ (R_ (o_ r_ (bm_ r_ (ha) (E_ r_ (T_ (ar_ (aw_ ?_))))))))))))))))))
    refine jq_ret1 rfl rfl [] rfl (fun K h => h)
end Go.Proofs.YtamajcgdfjeehaaDoor
end

section
namespace Go.Proofs.YtamajcgdfjeehaaDoor
set_option maxRecDepth 100000
def laysItoa_ren : Go.Shelf.Ren := ⟨fun | 129 => 148 | 171 => 58 | 243 => 94 | 246 => 119 | 283 => 132 | 284 => 133 | 285 => 134 | 286 => 135 | 317 => 147 | 318 => 149 | 319 => 150 | 320 => 151 | 337 => 153 | 338 => 154 | n => n, fun | 0 => 0 | 2 => 2 | 3 => 3 | 4 => 4 | 5 => 5 | 9 => 9 | 20 => 20 | 37 => 22 | 46 => 106 | 51 => 176 | 53 => 165 | 171 => 164 | 173 => 168 | 212 => 175 | 213 => 177 | 232 => 180 | 233 => 181 | n => n, fun | 17 => 4 | 18 => 5 | 19 => 6 | n => n⟩
theorem laysItoa : Go.Proofs.LaysM.n171 Tryd.prog laysItoa_ren := {
  mixed := by kernel_rfl,
  f129 := Tryd.func148.trans (congrArg some (by kernel_rfl)),
  f171 := Tryd.func58.trans (congrArg some (by kernel_rfl)),
  f243 := Tryd.func94.trans (congrArg some (by kernel_rfl)),
  f246 := Tryd.func119.trans (congrArg some (by kernel_rfl)),
  f283 := Tryd.func132.trans (congrArg some (by kernel_rfl)),
  f284 := Tryd.func133.trans (congrArg some (by kernel_rfl)),
  f285 := Tryd.func134.trans (congrArg some (by kernel_rfl)),
  f286 := Tryd.func135.trans (congrArg some (by kernel_rfl)),
  f317 := Tryd.func147.trans (congrArg some (by kernel_rfl)),
  f318 := Tryd.func149.trans (congrArg some (by kernel_rfl)),
  f319 := Tryd.func150.trans (congrArg some (by kernel_rfl)),
  f320 := Tryd.func151.trans (congrArg some (by kernel_rfl)),
  f337 := Tryd.func153.trans (congrArg some (by kernel_rfl)),
  f338 := Tryd.func154.trans (congrArg some (by kernel_rfl)),
  t0 := Tryd.underlying0,
  a0 := Tryd.isAgg0,
  z0 := Tryd.sizeOf0,
  v0 := Tryd.zeroValue0,
  t2 := Tryd.underlying2,
  a2 := Tryd.isAgg2,
  z2 := Tryd.sizeOf2,
  v2 := Tryd.zeroValue2,
  t3 := Tryd.underlying3,
  a3 := Tryd.isAgg3,
  z3 := Tryd.sizeOf3,
  v3 := Tryd.zeroValue3,
  t4 := Tryd.underlying4,
  a4 := Tryd.isAgg4,
  z4 := Tryd.sizeOf4,
  v4 := Tryd.zeroValue4,
  t5 := Tryd.underlying5,
  a5 := Tryd.isAgg5,
  z5 := Tryd.sizeOf5,
  v5 := Tryd.zeroValue5,
  t9 := Tryd.underlying9,
  a9 := Tryd.isAgg9,
  z9 := Tryd.sizeOf9,
  v9 := Tryd.zeroValue9,
  t20 := Tryd.underlying20,
  a20 := Tryd.isAgg20,
  z20 := Tryd.sizeOf20,
  v20 := Tryd.zeroValue20,
  t37 := Tryd.underlying22,
  a37 := Tryd.isAgg22,
  z37 := Tryd.sizeOf22,
  v37 := Tryd.zeroValue22,
  t46 := Tryd.underlying106,
  a46 := Tryd.isAgg106,
  z46 := Tryd.sizeOf106,
  v46 := Tryd.zeroValue106,
  t51 := Tryd.underlying176,
  a51 := Tryd.isAgg176,
  z51 := Tryd.sizeOf176,
  v51 := Tryd.zeroValue176,
  t53 := Tryd.underlying165,
  a53 := Tryd.isAgg165,
  z53 := Tryd.sizeOf165,
  v53 := Tryd.zeroValue165,
  t171 := Tryd.underlying164,
  a171 := Tryd.isAgg164,
  z171 := Tryd.sizeOf164,
  v171 := Tryd.zeroValue164,
  t173 := Tryd.underlying168,
  a173 := Tryd.isAgg168,
  z173 := Tryd.sizeOf168,
  v173 := Tryd.zeroValue168,
  t212 := Tryd.underlying175,
  a212 := Tryd.isAgg175,
  z212 := Tryd.sizeOf175,
  v212 := Tryd.zeroValue175,
  t213 := Tryd.underlying177,
  a213 := Tryd.isAgg177,
  z213 := Tryd.sizeOf177,
  t232 := Tryd.underlying180,
  a232 := Tryd.isAgg180,
  z232 := Tryd.sizeOf180,
  v232 := Tryd.zeroValue180,
  t233 := Tryd.underlying181,
  a233 := Tryd.isAgg181,
  z233 := Tryd.sizeOf181,
  v233 := Tryd.zeroValue181,
  g17 := by kernel_rfl,
  g18 := by kernel_rfl,
  g19 := by kernel_rfl,
  i0 := by kernel_rfl,
  i2 := by kernel_rfl,
  i3 := by kernel_rfl,
  i4 := by kernel_rfl,
  i5 := by kernel_rfl,
  i9 := by kernel_rfl,
  i20 := by kernel_rfl,
  i37 := by kernel_rfl,
  i46 := by kernel_rfl,
  i51 := by kernel_rfl,
  i53 := by kernel_rfl,
  i171 := by kernel_rfl,
  i173 := by kernel_rfl,
  i212 := by kernel_rfl,
  i232 := by kernel_rfl,
  i233 := by kernel_rfl,
  m17 := by kernel_rfl,
  m18 := by kernel_rfl,
  m19 := by kernel_rfl }
end Go.Proofs.YtamajcgdfjeehaaDoor
end

section
namespace Go.Proofs.YtamajcgdfjeehaaDoor
open Go.Vc
attribute [local irreducible] JL JC JQ OpWp
attribute [local irreducible] nextT scan byteAt rsign runLen signLen numVal isL isD

theorem itoa_c (n : Int) (h0 : 0 ≤ n) (h1 : n ≤ 2147483647) : Con Tryd.prog 58 [In .i64 n] [] (fun K => K (Str (decS n.toNat)) []) := by
  rintro vs w A _ _ _ ⟨v, r, rfl, ⟨rfl, _⟩, hr⟩ _ ⟨g, hg1, hg2, htab⟩
  simp only [SOks] at hr
  subst hr
  refine (Any.strconv_Itoa laysItoa n g_ g_ w htab).mono ?_
  rintro e w' ⟨rfl, k, os, rfl⟩
  refine ⟨_, _, [], rfl, fun K h => h, ⟨?_, rfl⟩, by simp, by simp [hb], by simp [hb], ⟨rfl, rfl, rfl, ?_, ?_⟩⟩
  · obtain ⟨u, rfl⟩ : ∃ u : Nat, n = u := ⟨n.toNat, by omega⟩
    rw [Lib.itoa_nonneg, Int.toNat_natCast]
    unfold decS
    rfl
  · simp [Sort.grow]
  · intro j hj _
    show (w.heap ++ os)[j]? = _
    rw [Array.getElem?_append_left hj]

/-- A token's word. -/
def wordT (t : Tok) : ByteArray := if t.kind = 1 ∨ t.kind = 3 then t.text else if t.kind = 2 then (if t.num < 0 ∨ 2147483647 < t.num then ⟨#[48]⟩ else decS t.num.toNat) else ⟨#[]⟩
theorem Word_c (t : Tok) : Con Tryd.prog 38 [.row t.row] [] (fun K => K (Str (wordT t)) []) := by
  refine con_intro Tryd.func38 rfl rfl (Nat.le_of_ble_eq_true rfl) (fun c hc => R_ (o_ r_ (ci_ r_ (fun bx => E_ r_ (T_ (am_ (R_ (F_ r_ (L_ 0 r_ (T_ (au_ (am_ (R_ (o_ r_ (bn_ r_ r_ (E_ r_ (T_ ?_)))))))))))))))))
  refine jc_condd rfl (fun h1 => ?_) (fun h1 => ?_)
  · refine as_ (al_ (jc_condd rfl (fun _ => R_ (F_ r_ (L_ 0 r_ (E_ r_ (T_ (ar_ (az_ (aw_ ?_)))))))) (fun h => absurd h1 h)))
    have e : wordT t = t.text := by unfold wordT; rw [if_pos (.inl h1)]
    refine jq_ret1 rfl rfl [] rfl (fun K h => by rw [e] at h; exact h)
  · refine an_ (o_ r_ (bn_ r_ r_ (E_ r_ (T_ (jc_condd rfl (fun h3 => ?_) (fun h3 => ?_))))))
    · refine R_ (F_ r_ (L_ 0 r_ (E_ r_ (T_ (ar_ (az_ (aw_ ?_)))))))
      have e : wordT t = t.text := by unfold wordT; rw [if_pos (.inr h3)]
      refine jq_ret1 rfl rfl [] rfl (fun K h => by rw [e] at h; exact h)
    · refine R_ (o_ r_ (bn_ r_ r_ (E_ r_ (T_ (jc_condd rfl (fun h2 => ?_) (fun h2 => ?_))))))
      · have e : wordT t = if t.num < 0 ∨ 2147483647 < t.num then ⟨#[48]⟩ else decS t.num.toNat := by unfold wordT; rw [if_neg (fun h => h.elim h1 h3), if_pos h2]
        by_cases hn : t.num < 0
        · refine am_ (R_ (F_ r_ (L_ 0 r_ (o_ r_ (bw_ r_ r_ (M_ r_ (ai_ r_ u_ b_ (ai_ r_ u_ b_ (ai_ r_ u_ b_ (o_ r_ (bp_ r_ u_ r_ (T_ (jc_cond rfl (fun _ => R_ (E_ r_ (T_ (ar_ ?_)))) (fun h => by cases h))))))))))))))
          refine aw_ (az_ (aw_ ?_))
          rw [if_pos (.inl hn)] at e
          refine jq_ret1 rfl rfl [] rfl (fun K h => by rw [e] at h; exact h)
        · refine am_ (R_ (F_ r_ (L_ 0 r_ (o_ r_ (bw_ r_ r_ (M_ r_ (ah_ r_ w_ b_ (bf_ r_ r_ r_ b_ (ah_ r_ w_ b_ (bg_ 0 r_ r_ r_ r_ (ah_ r_ w_ b_ (bz_ r_ r_ (o_ r_ (bv_ r_ w_ r_ (T_ (jc_condd rfl (fun hg => ?_) (fun hg => ?_)))))))))))))))))
          · refine R_ (E_ r_ (T_ (ar_ (aw_ (az_ (aw_ ?_))))))
            rw [if_pos (.inr hg)] at e
            refine jq_ret1 rfl rfl [] rfl (fun K h => by rw [e] at h; exact h)
          · rw [if_neg (fun h => h.elim hn hg)] at e
            refine as_ (al_ (R_ (F_ r_ (L_ 0 r_ (o_ r_ (bm_ r_ (itoa_c _ g_ g_) (E_ r_ (T_ (ar_ (az_ (aw_ (jq_ret1 rfl rfl [] rfl (fun K h => by rw [e] at h; exact h)))))))))))))
      · have e : wordT t = ⟨#[]⟩ := by unfold wordT; rw [if_neg (fun h => h.elim h1 h3), if_neg h2]
        refine as_ (ay_ (al_ (R_ (E_ r_ (T_ (ar_ (jq_ret1 rfl rfl [] rfl (fun K h => by rw [e] at h; exact h))))))))
end Go.Proofs.YtamajcgdfjeehaaDoor
end

section
namespace Go.Proofs.YtamajcgdfjeehaaDoor
open Go.Vc
attribute [local irreducible] JL JC JQ OpWp Con ConN

def exT : ByteArray := ⟨#[105, 60, 61, 49, 48]⟩
def exL : List Tok := [⟨1, 0, 1, ⟨#[105]⟩⟩, ⟨3, 0, 1, ⟨#[60, 61]⟩⟩, ⟨2, 10, 1, ⟨#[]⟩⟩]
theorem ex1 : nextT (exT.extract 0 exT.size) = ((1, 0, ⟨#[105]⟩), 1) := by decide +kernel
theorem ex2 : nextT (exT.extract 1 exT.size) = ((3, 0, ⟨#[60, 61]⟩), 2) := by decide +kernel
theorem ex3 : nextT (exT.extract 3 exT.size) = ((2, 10, ⟨#[]⟩), 2) := by decide +kernel
theorem scanGo_tok {s : ByteArray} {k : Nat} {line : Int} {out : List Tok} {t : Int × Int × ByteArray} {n : Nat} (hk : k < s.size) (h1 : ¬ byteAt s k = 10) (h2 : ¬ (byteAt s k = 32 ∨ byteAt s k = 9)) (hn : nextT (s.extract k s.size) = (t, n)) (h0 : ¬ n = 0) :
    scanGo s k line out = scanGo s (k + n) line (out ++ [⟨t.1, t.2.1, line, t.2.2⟩]) := by
  rw [scanGo, dif_pos hk, if_neg h1, if_neg h2, hn, dif_neg h0]
theorem ex_scan : scan exT = (exL, 0, 0) := by
  unfold scan
  rw [if_neg (by decide), scanGo_tok (by decide) (by decide) (by decide) ex1 (by decide), scanGo_tok (by decide) (by decide) (by decide) ex2 (by decide), scanGo_tok (by decide) (by decide) (by decide) ex3 (by decide), scanGo, dif_neg (by decide)]
  rfl
theorem ex_name : isName ⟨#[97, 49]⟩ = true := by decide +kernel
theorem ex_word : wordT ⟨2, 10, 1, ⟨#[]⟩⟩ = ⟨#[49, 48]⟩ := by decide +kernel
attribute [local irreducible] nextT scan byteAt rsign runLen signLen numVal isL isD isName wordT
theorem exL_len : exL.length = 3 := rfl
theorem awake_c : Con Tryd.prog 19 [] [] (fun K => K (Bl true) []) := by
  have hS := Scan_c exT
  rw [ex_scan] at hS
  have hS : Con Tryd.prog 22 [Str exT] [] (fun K => K (.tup [.cell (.list [tokC 1 0 1 ⟨#[105]⟩, tokC 3 0 1 ⟨#[60, 61]⟩, tokC 2 10 1 ⟨#[]⟩]), In .i64 0, In .i64 0]) []) := hS
  have hN := Name_c ⟨#[97, 49]⟩
  rw [ex_name] at hN
  have hW := Word_c ⟨2, 10, 1, ⟨#[]⟩⟩
  rw [ex_word] at hW
  have hW : Con Tryd.prog 38 [.row (tokC 2 10 1 ⟨#[]⟩)] [] (fun K => K (Str ⟨#[49, 48]⟩) []) := hW
  refine con_intro Tryd.func19 rfl rfl (Nat.le_of_ble_eq_true rfl) (fun c hc => R_ (E_ r_ (T_ (R_ (o_ r_ (bm_ r_ (hS) (M_ r_ (X_ r_ (X_ r_ (X_ r_ (E_ r_ (E_ r_ (E_ r_ (T_ (R_ (M_ r_ ?_))))))))))))))))
  refine o_ r_ (bn_ r_ r_ (M_ r_ (ah_ r_ r_ b_ (bd_ r_ (ah_ r_ r_ b_ (bn_ r_ r_ (o_ r_ (bp_ r_ x_ r_ (M_ r_ (ah_ r_ r_ b_ (bd_ r_ (ah_ r_ r_ b_ (br_ r_ (fun hlen => ah_ r_ r_ b_ (bn_ r_ r_ (o_ r_ (bp_ r_ x_ r_ (M_ r_ (ah_ r_ r_ b_ (bd_ r_ (ah_ r_ r_ b_ (ow_indexAddr r_ r_ g_ r_ r_ b_ (ah_ r_ r_ b_ (cf_ r_ r_ r_ b_ r_ b_ (ah_ r_ r_ b_ (cb_ r_ r_ (ah_ r_ r_ b_ (cs_ r_ r_ ?_))))))))))))))))))))))))))))
  refine o_ r_ (bp_ r_ x_ r_ (M_ r_ (ah_ r_ r_ b_ (bd_ r_ (ah_ r_ r_ b_ (ow_indexAddr r_ r_ g_ r_ r_ b_ (ah_ r_ r_ b_ (cf_ r_ r_ r_ b_ r_ b_ (ah_ r_ r_ b_ (cb_ r_ r_ (ah_ r_ r_ b_ (cs_ r_ r_ (o_ r_ (bp_ r_ x_ r_ (M_ r_ (ah_ r_ r_ b_ (bd_ r_ (ah_ r_ r_ b_ (ow_indexAddr r_ r_ g_ r_ r_ b_ (ah_ r_ r_ b_ (cf_ r_ r_ r_ b_ r_ b_ (ah_ r_ r_ b_ (cb_ r_ r_ (ah_ r_ r_ b_ (bn_ r_ r_ (o_ r_ (bp_ r_ x_ r_ ?_)))))))))))))))))))))))))))
  refine M_ r_ (ah_ r_ r_ b_ (bm_ r_ (hN) (o_ r_ (bp_ r_ x_ r_ (M_ r_ (ah_ r_ r_ b_ (bd_ r_ (ah_ r_ r_ b_ (ow_indexAddr r_ r_ g_ r_ r_ b_ (ah_ r_ r_ b_ (cr_ r_ r_ r_ (ah_ r_ r_ b_ (bm_ r_ (hW) (ah_ r_ r_ b_ (cs_ r_ r_ (o_ r_ (bp_ r_ r_ r_ (E_ r_ (T_ (ar_ (jq_ret1 rfl rfl [] rfl (fun K h => h))))))))))))))))))))))

end Go.Proofs.YtamajcgdfjeehaaDoor
end

section
namespace Go.Proofs.YtamajcgdfjeehaaDoor
open Go.Vc
attribute [local irreducible] JL JC JQ OpWp Con ConN
theorem TokenPrograms_all (L : List Int) (n y w : Int) (hL : InR L) (hn : -9223372036854775808 ≤ n ∧ n ≤ 9223372036854775807) (hy : 0 ≤ y ∧ y ≤ 255) (hw : 0 ≤ w ∧ w ≤ 255) :
    Con Tryd.prog 5 [.cell (.list (L.map Irow)), In .i64 n, In .u8 y, In .u8 w] [] (fun K => K (Bl true) []) :=
  TokenPrograms_c awake_c L hL n hn y w hy hw
end Go.Proofs.YtamajcgdfjeehaaDoor
end

section
namespace Go.Vc
open Go.RowKit Go.ChangeShapes Go.WideShapes

section
variable {H : Type} {enc : TypeId × Value → H} {P : Program}

/-- Arguments read as they did. -/
theorem args_stay (hl : laidOutB P = true) {W W' : World} (hb : Below W.heap.size W W') : ∀ {ts : List TypeId} {vs : List Value} {ds : List (DataW H)} {ps : List MemPlace}, ts.all (fun t => P.readableRec t && decide (t < P.types.size)) = true →
    DataW.TrodAll enc P W 0 (fun _ => true) true ts vs ds ps → (∀ p ∈ ps, p.block < W.heap.size) → DataW.TrodAll enc P W' 0 (fun b => decide (b < W.heap.size)) true ts vs ds ps
  | [], vs, ds, ps, _, h, _ => by
    obtain ⟨rfl, rfl, rfl⟩ := trodAll_nil h
    rfl
  | t :: ts, vs, ds, ps, hr, h, hlt => by
    simp only [List.all_cons, Bool.and_eq_true, decide_eq_true_eq] at hr
    obtain ⟨⟨h1, h2⟩, h3⟩ := hr
    obtain ⟨v, vr, d, dr, p, q, rfl, rfl, rfl, g1, g2⟩ := trodAll_cons h
    exact ⟨p, q, Below.trod hl h1 h2 g1 hb (fun x hx => hlt x (List.mem_append.2 (.inl hx))), args_stay hl hb h3 g2 (fun x hx => hlt x (List.mem_append.2 (.inr hx))), rfl⟩

/-- What a law's row asks behind the call: true, and each argument reads as it did. -/
theorem law_post {f : Func} {s : ChangeSpec} {W W' : World} {args : Array Value} {ds : List (DataW H)} {before : List MemPlace} {bt : TypeId} (hv : s.vars = []) (hW : DataW.Whole enc P f.params.toList s.vars false W args.toList ds [] before)
    (hr : (s.fn H (ds ++ [])).results = [.lit (.bool true)]) (ha : (s.fn H (ds ++ [])).args = ds) (hg : (s.fn H (ds ++ [])).vars = []) (hrt : f.resultTypes = #[bt]) (hbt : P.underlying bt = some .bool)
    (hl : laidOutB P = true) (hrd : f.params.toList.all (fun t => P.readableRec t && decide (t < P.types.size)) = true) (hb : Below W.heap.size W W') : s.post enc P f false true false false W args (.bool true) W' := by
  have hlt := hW.lt
  have hW' := hW
  obtain ⟨p, q, hA, hV, rfl, _, _⟩ := hW'
  rw [hv] at hV
  obtain ⟨_, rfl⟩ := trodVars_none hV
  refine ⟨ds, [], p ++ [], [], p, [], hW, ?_, ?_, ?_, World.keptBut_mono (fun x hx => ⟨hx, .inr (.inl (by simpa using hx))⟩) (hb.frame (· ∈ p ++ [])), fun h => by cases h⟩
  · rw [hr, hrt]
    exact trodAll_mk1 (shut_bool hbt _)
  · rw [ha]
    exact args_stay hl hb hrd hA (fun x hx => hlt x (by simpa using hx))
  · rw [hg, hv]
    rfl

/-- A slice of integers that came in. -/
theorem rd_ints {W : World} {t e : TypeId} {k : IntKind} (ht : P.underlying t = some (.slice e)) (he : P.underlying e = some (.int k)) (hc : P.cellsOf e = 1) {v : Value} {d : DataW H} {ps : List MemPlace} (hs : ∃ a len cap, v = .slice a len cap)
    (h : DataW.Trod enc P W 0 (fun _ => true) true t v d ps) : ∃ L : List Int, Rd1 W (fun _ => False) (.list (L.map (fun n => [.val (.int k n)]))) v ∧ ∀ n ∈ L, (Lit.int k n).wf = true := by
  obtain ⟨a0, len0, cap0, rfl⟩ := hs
  obtain ⟨fuel, hf⟩ := h
  rcases open_ints ht he hc hf with ⟨hn, _⟩ | ⟨a, len, cap, zs, hcs, _, hle, hcap, hz, _, hcell, hwf⟩
  · simp only [Value.cells, List.cons.injEq, Value.slice.injEq, and_true] at hn
    obtain ⟨rfl, rfl, rfl⟩ := hn
    exact ⟨[], ⟨none, 0, rfl, Nat.le_refl _, Nat.zero_le _, .inl rfl⟩, by simp⟩
  · simp only [Value.cells, List.cons.injEq, Value.slice.injEq, and_true] at hcs
    obtain ⟨rfl, rfl, rfl⟩ := hcs
    simp only [if_true] at hz
    have hlen : (zs.take len0).length = len0 := by simp; omega
    refine ⟨zs.take len0, ⟨some a, cap0, by rw [List.length_map, hlen], by rw [List.length_map, hlen]; exact hle, hcap, ?_⟩, fun n hn => hwf n (List.mem_of_mem_take hn)⟩
    by_cases h0 : len0 = 0
    · exact .inl (by rw [List.length_map, hlen]; exact h0)
    · have h1 := hcell 0 (by omega)
      have hsp : a.spot = none := by simpa [Addr.add] using World.cell?_spot h1
      obtain ⟨b, off, sp⟩ := a
      simp only at hsp
      subst hsp
      refine .inr ⟨b, off, (zs.take len0).map (Value.int k), 1, rfl, id, ?_, Nat.one_pos, ?_⟩
      · intro j u hj
        rw [List.getElem?_map, Option.map_eq_some_iff] at hj
        obtain ⟨z, hz1, rfl⟩ := hj
        rw [List.getElem?_take] at hz1
        split at hz1
        · have hjl : j < zs.length := by omega
          have := hcell j hjl
          rw [add_at] at this
          rw [this]
          congr 2
          rw [List.getD_eq_getElem?_getD, hz1]
          rfl
        · cases hz1
      · generalize zs.take len0 = L
        induction L with
        | nil => rfl
        | cons n L ih => exact ⟨[.int k n], L.map (Value.int k), rfl, rfl, ⟨_, _, rfl, ⟨rfl, rfl⟩, rfl⟩, ih⟩

/-- From a contract to a run. -/
theorem con_run [Gl P] {f : FuncId} {ss : List S} {vs : List Value} {W : World} (con : Con P f ss [] (fun K => K (Bl true) [])) (hs : SOks W (fun _ => False) ss vs) (hgl : Gl.ok P W (fun _ => False) := by exact trivial) : Calls P f vs.toArray W (fun e W' => e = .returned (.bool true) ∧ Below W.heap.size W W') := by
  refine (con vs W (fun _ => False) (fun _ h => h.elim) (by simp [hb]) (by simp [hb]) hs (by simp) hgl).mono ?_
  rintro e W' ⟨v, s, Ho, rfl, hK, hv, _, _, _, hg⟩
  obtain ⟨rfl, rfl⟩ := hK (fun s' H' => s' = Bl true ∧ H' = []) ⟨rfl, rfl⟩
  obtain ⟨rfl, _⟩ := hv
  exact ⟨rfl, hg.os, hg.tape, hg.output, hg.size, fun k hk => hg.block k hk (by simp [hb])⟩
end
end Go.Vc
end

section
namespace Go.Proofs.YtamajcgdfjeehaaDoor
open Go.ChangeShapes Go.WideShapes Go.ChangeAt Go.RowKit Go.Vc

theorem own : ownKnob Tryd.prog.godebug = none := by kernel_rfl
theorem laidOut : laidOutB Tryd.prog = true := by kernel_rfl
theorem cells3 : Tryd.prog.cellsOf 3 = 1 := by kernel_rfl
theorem cells5 : Tryd.prog.cellsOf 5 = 1 := by kernel_rfl
theorem gTab : Tryd.prog.globalNamed "internal/strconv.uint64pow10" = some 4 := by kernel_rfl
theorem gTabType : (Tryd.prog.globals[4]?).map (·.type) = some 175 := by kernel_rfl
theorem cellsTab : Tryd.prog.cellsOf 175 = 20 := by kernel_rfl
theorem cellsU64 : Tryd.prog.cellsOf 165 = 1 := by kernel_rfl
theorem tabData_eq : (Rows.laid_internal_strconv_uint64pow10 : DataW Unit) = Lib.tabData .u64 Lib.pow10Tab := by kernel_rfl

/-- What the row's list gives: the table lies as it was laid. -/
theorem gl_of {W : World} (h : laidMetH Tryd.prog Rows.tokenProgramsRow.laid W) : Gl.ok Tryd.prog W (fun _ => False) := by
  have h1 : laidMet Tryd.prog Rows.tokenProgramsRow.laid W := h
  have h2 := laidMet.tail (laidMet.tail h1)
  rw [tabData_eq] at h2
  exact ⟨4, gTab, id, Lib.tabIs_of_head (rest := []) gTab gTabType Tryd.underlying175 Tryd.underlying165 cellsU64 cellsTab h2⟩

/-- A world for the witness: as the program's start lays it. -/
noncomputable def laidWorld (os : Os) : World := World.doorLaid Tryd.prog 400 os
theorem laid_met (os : Os) (args : Array Value) : laidMet Tryd.prog Rows.tokenProgramsRow.laid ((laidWorld os).forCall (fun _ _ => 0) ⟨#[], args, []⟩).memory :=
  laidMet_of_run' 8 (by kernel_rfl) (by kernel_rfl)
end Go.Proofs.YtamajcgdfjeehaaDoor
end

section
namespace Go.Proofs.YtamajcgdfjeehaaDoor.tokenPrograms
open Go.ChangeShapes Go.WideShapes Go.ChangeAt Go.RowKit Go.Vc Go.Joins

set_option maxRecDepth 100000 in
theorem contract (H : Type) (enc : TypeId × Value → H) (W : World) (base : Nat) (args : Array Value) (ds gs : List (DataW H)) (before : List MemPlace)
    (hval : ∀ (j : Nat) t v, Tryd.f5.params[j]? = some t → args[j]? = some v → Value.okWide Tryd.prog W .any base t v)
    (hW : DataW.Whole enc Tryd.prog Tryd.f5.params.toList Rows.tokenProgramsSpec.vars false W args.toList ds gs before) (hL : laidMetH Tryd.prog Rows.tokenProgramsRow.laid W) :
    Calls Tryd.prog 5 args W fun e W' => ∃ v, e = .returned v ∧ Rows.tokenProgramsSpec.post enc Tryd.prog Tryd.f5 false true false false W args v W' := by
  have hW' := hW
  obtain ⟨p, q, hA0, hV, rfl, hfz, hnd⟩ := hW
  have hA : DataW.TrodAll enc Tryd.prog W 0 (fun _ => true) true Tryd.f5.params.toList args.toList ds p := hA0
  rw [Tryd.params5] at hA hval
  obtain ⟨v0, vs0, d0, ds0, p0, q0, hargs, rfl, rfl, h0, r0⟩ := trodAll_cons hA
  obtain ⟨v1, vs1, d1, ds1, p1, q1, rfl, rfl, rfl, h1, r1⟩ := trodAll_cons r0
  obtain ⟨v2, vs2, d2, ds2, p2, q2, rfl, rfl, rfl, h2, r2⟩ := trodAll_cons r1
  obtain ⟨v3, vs3, d3, ds3, p3, q3, rfl, rfl, rfl, h3, r3⟩ := trodAll_cons r2
  obtain ⟨rfl, rfl, rfl⟩ := trodAll_nil r3
  obtain rfl : args = #[v0, v1, v2, v3] := by cases args; simp_all
  obtain ⟨rfl, rfl⟩ := trodVars_none hV
  obtain ⟨L0, hL0, hwf0⟩ := rd_ints Tryd.underlying34 Tryd.underlying3 cells3 (okWide_slice Tryd.underlying34 (hval 0 34 v0 rfl rfl)) h0
  have hn0 : ∀ n ∈ L0, -9223372036854775808 ≤ n ∧ n ≤ 9223372036854775807 := fun n hn => by simpa [Lit.wf, IntKind.min, IntKind.max, IntKind.signed, IntKind.bits] using hwf0 n hn
  obtain ⟨n1, rfl, rfl, rfl, w1⟩ := open_int Tryd.underlying3 (hval 1 3 v1 rfl rfl) h1
  have hn1 : -9223372036854775808 ≤ n1 ∧ n1 ≤ 9223372036854775807 := by simpa [Lit.wf, IntKind.min, IntKind.max, IntKind.signed, IntKind.bits] using w1
  obtain ⟨n2, rfl, rfl, rfl, w2⟩ := open_int Tryd.underlying5 (hval 2 5 v2 rfl rfl) h2
  have hn2 : 0 ≤ n2 ∧ n2 ≤ 255 := by simpa [Lit.wf, IntKind.min, IntKind.max, IntKind.signed, IntKind.bits] using w2
  obtain ⟨n3, rfl, rfl, rfl, w3⟩ := open_int Tryd.underlying5 (hval 3 5 v3 rfl rfl) h3
  have hn3 : 0 ≤ n3 ∧ n3 ≤ 255 := by simpa [Lit.wf, IntKind.min, IntKind.max, IntKind.signed, IntKind.bits] using w3
  refine (con_run (vs := [v0, .int .i64 n1, .int .u8 n2, .int .u8 n3]) (TokenPrograms_all L0 n1 n2 n3 hn0 hn1 hn2 hn3) ⟨_, _, rfl, hL0, _, _, rfl, ⟨rfl, rfl⟩, _, _, rfl, ⟨rfl, rfl⟩, _, _, rfl, ⟨rfl, rfl⟩, rfl⟩ (gl_of hL)).mono ?_
  rintro e W' ⟨rfl, hb⟩
  exact ⟨_, rfl, law_post rfl hW' rfl rfl rfl rfl Tryd.underlying4 laidOut (by kernel_rfl) hb⟩

theorem reads (os : Os) {H : Type} (enc : TypeId × Value → H) : ∃ places, DataW.whole enc Tryd.prog ((laidWorld os).forCall (fun _ _ => 0) ⟨#[], #[.slice none 0 0, .int .i64 0, .int .u8 0, .int .u8 0], []⟩).memory Tryd.f5.params.toList Rows.tokenProgramsSpec.vars false #[Value.slice none 0 0, .int .i64 0, .int .u8 0, .int .u8 0].toList 8 = some ([.nil, .lit (.int .i64 0), .lit (.int .u8 0), .lit (.int .u8 0)], [], places) :=
  ⟨[], by kernel_rfl⟩

set_option maxRecDepth 100000 in
theorem lifted (os : Os) (started : os.Started) (H : Type) (enc : TypeId × Value → H) (F : Stop.Interp) :
    ReturnsInHanded {} Tryd.checked os 5 .any ((OpenSpec.ofChange Rows.tokenProgramsSpec).preRow enc Tryd.prog Tryd.f5 Rows.tokenProgramsRow.domain false Rows.tokenProgramsRow.laid) (((OpenSpec.ofChange Rows.tokenProgramsSpec).at F).post enc Tryd.prog Tryd.f5 false true false false) := by
  obtain ⟨places, hx⟩ := reads os enc
  refine returnsInHanded_of_row (C := Tryd.checked) (s := OpenSpec.ofChange Rows.tokenProgramsSpec) own started (by kernel_rfl) Tryd.func5
    (witness_row_atRef (enc := enc) (C := Tryd.checked) false (laidWorld os) _ rfl (by kernel_rfl) (by kernel_rfl) (by kernel_rfl)
      (OpenSpec.preRow_of_cond 8 hx (by kernel_rfl) (fun k hk => by cases hk) (by kernel_rfl) (laid_met os _))) ?_
  intro W base args ds gs before hval hW _ _ _ hL _ _
  exact contract H enc W base args ds gs before hval hW hL

theorem said : Rows.TokenProgramsSaid :=
  OpenClaim.holds_of_cond 5 Tryd.f5 rfl rfl rfl rfl rfl rfl rfl ⟨rfl, rfl, rfl, rfl, rfl⟩ rfl rfl rfl rfl rfl (by kernel_rfl) Tryd.func5 (by kernel_rfl)
    (of_decide_eq_true (by kernel_rfl)) (by unfold Func.isWrapper; first | (rw [if_pos (by decide +kernel)]; kernel_rfl) | (rw [if_neg (by decide +kernel)]; exact ⟨rfl, rfl⟩))
    (fun os started H enc _ F => by rw [OpenClaim.pre_eq_preRow]; exact lifted os started H enc F)

theorem plain (f : FuncId) (fn : Func) (hf : Tryd.pinned.checked.prog.funcNamed "timebound/timeboundlaw02.TokenPrograms" = some f) (hfn : Tryd.pinned.checked.prog.funcs[f]? = some fn) :
    true = Tryd.pinned.checked.prog.looks [] ∧ ∀ (j : Nat) t, fn.params[j]? = some t → Tryd.pinned.checked.prog.wantsStandIn t = false := by
  obtain rfl : f = 5 := Option.some.inj ((show Tryd.prog.funcNamed "timebound/timeboundlaw02.TokenPrograms" = some 5 by kernel_rfl).symm.trans hf) |>.symm
  obtain rfl : fn = Tryd.f5 := (Option.some.inj (Tryd.func5.symm.trans hfn)).symm
  refine ⟨by kernel_rfl, fun j t ht => ?_⟩
  have hall : (Tryd.f5.params.toList.all fun u => !Tryd.prog.wantsStandIn u) = true := by kernel_rfl
  have hm : t ∈ Tryd.f5.params.toList := by simpa using Array.mem_of_getElem? ht
  exact (show Tryd.prog.wantsStandIn t = false by simpa using List.all_eq_true.1 hall t hm)

theorem card : Rows.TokenProgramsCardSaid :=
  Claim7.holds_tied_plain_at .later [] _ _ _ _ said (fun _ h => by cases h) (by kernel_rfl) (fun _ h => by cases h) tokenPrograms_row_tie rfl ⟨rfl, rfl⟩ (by kernel_rfl) rfl plain (by kernel_rfl)
#print axioms card
end Go.Proofs.YtamajcgdfjeehaaDoor.tokenPrograms
end
