import Derived.Test.YtamajcgdfjeehaaGreatDoorMn3
import Derived.Lib.ItoaLen
import Derived.Lib.AppendStr
section
namespace Go.Proofs.YtamajcgdfjeehaaGreatDoor
open Go.Vc
attribute [local irreducible] JL JC JQ OpWp Con ConN
attribute [local irreducible] byteAt runLen isL isD isName hasW nameB smallB plainB shpF
set_option maxHeartbeats 4000000

def inB (x : Inp) : Bool := nameB x.1 && smallB x.2.1 && smallB x.2.2
def arB (x : Arr) : Bool := nameB x.1 && plainB x.2
def mdB (x : Md) : Bool := nameB x.1 && nameB x.2.1 && smallB x.2.2.1 && smallB x.2.2.2
def clB (x : Clm) : Bool := plainB x.1 && plainB x.2
def shB (x : Shd) : Bool := nameB x.1 && plainB x.2.1 && nameB x.2.2
def hdB (t : Tk) : Bool := nameB t.name && plainB t.period && plainB t.deadline && plainB t.priority && plainB t.jitter
def okTk (t : Tk) : Bool := hdB t && okSs 20 t.body && t.inputs.all inB && t.vars.all nameB && t.arrays.all arB && t.modes.all mdB && t.claims.all clB
def okPg (p : Pg) : Bool := p.res.all nameB && p.shared.all shB && p.tasks.all okTk
theorem rtaskB_c (t : Tk) : Con Tryz.prog 72 [.row t.row] [] (fun K => K (Bl (okTk t)) []) := by
  have hS := rstmtsB_c 20 t.body (by omega)
  refine con_intro Tryz.func72 rfl rfl (Nat.le_of_ble_eq_true rfl) (fun c hc => R_ (o_ r_ (ci_ r_ (fun bx => E_ r_ (T_ (am_ (R_ (F_ r_ (L_ 0 r_ (o_ r_ (bm_ r_ (rnameB_c _) (o_ r_ (cd_ r_ (M_ r_ (jl_or 4 4 rfl rfl rfl rfl (nb rfl) ?_)))))))))))))))
  apply Exists.intro
  refine ⟨fun hb1 => ?_, ?_⟩
  exact ah_ r_ h_ b_ (bf_ r_ r_ r_ b_ (ah_ r_ h_ b_ (bg_ 0 r_ r_ r_ r_ (ah_ r_ h_ b_ (bm_ r_ (rplainB_c _) (ah_ r_ h_ b_ (cd_ r_ (ak_ (jq_seg 4 rfl rfl rfl (List.Perm.refl _))))))))))
  refine M_ r_ (jl_or 4 10 rfl rfl rfl rfl (nb rfl) ?_)
  apply Exists.intro
  refine ⟨fun hb1 => ?_, ?_⟩
  exact ah_ r_ h_ b_ (bf_ r_ r_ r_ b_ (ah_ r_ h_ b_ (bg_ 0 r_ r_ r_ r_ (ah_ r_ h_ b_ (bm_ r_ (rplainB_c _) (ah_ r_ h_ b_ (cd_ r_ (ak_ (jq_seg 4 rfl rfl rfl (List.Perm.refl _))))))))))
  refine M_ r_ (jl_or 4 16 rfl rfl rfl rfl (nb rfl) ?_)
  apply Exists.intro
  refine ⟨fun hb1 => ?_, ?_⟩
  exact ah_ r_ h_ b_ (bf_ r_ r_ r_ b_ (ah_ r_ h_ b_ (bg_ 0 r_ r_ r_ r_ (ah_ r_ h_ b_ (bm_ r_ (rplainB_c _) (ah_ r_ h_ b_ (cd_ r_ (ak_ (jq_seg 4 rfl rfl rfl (List.Perm.refl _))))))))))
  refine M_ r_ (jl_or 4 22 rfl rfl rfl rfl (nb rfl) ?_)
  apply Exists.intro
  refine ⟨fun hb1 => ?_, ?_⟩
  exact ah_ r_ h_ b_ (bf_ r_ r_ r_ b_ (ah_ r_ h_ b_ (bg_ 0 r_ r_ r_ r_ (ah_ r_ h_ b_ (bm_ r_ (rplainB_c _) (ah_ r_ h_ b_ (cd_ r_ (ak_ (jq_seg 4 rfl rfl rfl (List.Perm.refl _))))))))))
  refine M_ r_ (jl_or 4 28 rfl rfl rfl rfl (nb rfl) ?_)
  apply Exists.intro
  refine ⟨fun hb1 => ?_, ?_⟩
  exact ah_ r_ h_ b_ (bf_ r_ r_ r_ b_ (ah_ r_ h_ b_ (bg_ 0 r_ r_ r_ r_ (ah_ r_ h_ b_ (bm_ r_ (hS) (ah_ r_ h_ b_ (cd_ r_ (ak_ (jq_seg 4 rfl rfl rfl (List.Perm.refl _))))))))))
  refine T_ (jc_cond rfl (fun hn => ?_) (fun hy => ?_))
  · have hp : (hdB t && okSs 20 t.body) = false := by
      cases hcs : (hdB t && okSs 20 t.body) with
      | false => rfl
      | true =>
        exfalso
        simp only [hdB, Bool.and_eq_true] at hcs
        simp [hcs] at hn
    have hres : okTk t = false := by unfold okTk; rw [hp]; rfl
    refine R_ (E_ r_ (T_ (ar_ (aw_ (jq_ret1 rfl rfl [] rfl (fun K h => by rw [hres] at h; exact h))))))
  have h0 : (hdB t && okSs 20 t.body) = true := by simpa [hdB, and_assoc] using hy
  clear hy
  refine as_ (al_ (am_ (jc_cut (ι := Unit) [] (fun _ => (t.inputs).all inB = true) (fun _ => [(1, .cell (.val (.pointer (some ⟨bx, 0, none⟩))))]) (fun _ => [.blk bx 47 t.row]) ?_ ?_)))
  · refine R_ (E_ r_ (T_ (au_ (jc_loopS (ι := Nat) [] (fun k => k ≤ (t.inputs).length ∧ ((t.inputs).take k).all inB = true) (fun k => (3, In .i64 (k : Int)) :: [(1, .cell (.val (.pointer (some ⟨bx, 0, none⟩))))]) (fun _ => [.blk bx 47 t.row]) (fun k => (t.inputs).length - k) 0 ⟨Nat.zero_le _, rfl⟩ ?_ ?_ ?_))))
    · exact bc_ 0 r_ sub_end
    · (repeat (first | exact True.intro | refine ⟨rfl, ?_⟩))
    rintro k ⟨hk, hall⟩
    have eL : ((t.inputs).map InRow).length = (t.inputs).length := List.length_map _
    by_cases hlt : k < (t.inputs).length
    · have hlt2 : (k : Int) < (((t.inputs).map InRow).length : Int) := by omega
      refine am_ (R_ (M_ r_ (F_ r_ (L_ 0 r_ (o_ r_ (br_ r_ (fun hlen => o_ r_ (bw_ r_ r_ (T_ (aq_ r_ u_ (as_ (al_ (B_ (R_ (F_ r_ (L_ 0 r_ (M_ r_ ?_)))))))))))))))))
      refine o_ r_ (cc_ r_ r_ g_ r_ r_ b_ (o_ r_ (cf_ r_ r_ r_ b_ r_ b_ (o_ r_ (cb_ r_ r_ (o_ r_ (bm_ r_ (rnameB_c _) (o_ r_ (cd_ r_ (M_ r_ (jl_or 8 8 rfl rfl rfl rfl (nb rfl) ?_)))))))))))
      apply Exists.intro
      refine ⟨fun hb1 => ?_, ?_⟩
      exact ah_ r_ h_ b_ (bf_ r_ r_ r_ b_ (ah_ r_ h_ b_ (bg_ 0 r_ r_ r_ r_ (ah_ r_ h_ b_ (bd_ r_ (ah_ r_ h_ b_ (cc_ r_ r_ g_ r_ r_ b_ (ah_ r_ h_ b_ (cf_ r_ r_ r_ b_ r_ b_ (ah_ r_ h_ b_ (cb_ r_ r_ (ah_ r_ h_ b_ (bm_ r_ (rsmallB_c _) (ah_ r_ h_ b_ (cd_ r_ (ak_ (jq_seg 8 rfl rfl rfl (List.Perm.refl _))))))))))))))))))
      refine M_ r_ (jl_or 8 18 rfl rfl rfl rfl (nb rfl) ?_)
      apply Exists.intro
      refine ⟨fun hb1 => ?_, ?_⟩
      exact ah_ r_ h_ b_ (bf_ r_ r_ r_ b_ (ah_ r_ h_ b_ (bg_ 0 r_ r_ r_ r_ (ah_ r_ h_ b_ (bd_ r_ (ah_ r_ h_ b_ (cc_ r_ r_ g_ r_ r_ b_ (ah_ r_ h_ b_ (cf_ r_ r_ r_ b_ r_ b_ (ah_ r_ h_ b_ (cb_ r_ r_ (ah_ r_ h_ b_ (bm_ r_ (rsmallB_c _) (ah_ r_ h_ b_ (cd_ r_ (ak_ (jq_seg 8 rfl rfl rfl (List.Perm.refl _))))))))))))))))))
      refine T_ (jc_cond rfl (fun hn => ?_) (fun hy => ?_))
      · have hp : inB (t.inputs)[k] = false := by
          cases hcs : inB (t.inputs)[k] with
          | false => rfl
          | true =>
            exfalso
            try simp only [inB, Bool.and_eq_true] at hcs
            simp [hcs] at hn
        have hno : (t.inputs).all inB = false := all_no hlt hp
        have hres : okTk t = false := by unfold okTk; simp [hno]
        refine R_ (E_ r_ (T_ (ar_ (az_ (aw_ (aw_ (az_ (aw_ (jq_ret1 rfl rfl [] rfl (fun K h => by rw [hres] at h; exact h))))))))))
      · have hp : inB (t.inputs)[k] = true := by simpa [inB, and_assoc] using hy
        refine as_ (ay_ (al_ (an_ (M_ r_ (o_ r_ (bj_ r_ r_ g_ (E_ r_ (ak_ (jq_againS (k + 1) ⟨hlt, all_snoc hlt hall hp⟩ g_ ?_ ?_)))))))))
        · exact bc_ 0 r_ sub_end
        · (repeat (first | exact True.intro | refine ⟨rfl, ?_⟩))
    · have hlt2 : ¬ (k : Int) < (((t.inputs).map InRow).length : Int) := by omega
      refine am_ (R_ (M_ r_ (F_ r_ (L_ 0 r_ (o_ r_ (br_ r_ (fun hlen => o_ r_ (bw_ r_ r_ (T_ (ap_ r_ w_ (av_ (ax_ (ax_ (ba_ (jq_cutS () (by rw [List.take_of_length_le g_] at hall; exact hall) ?_ ?_)))))))))))))))
      · exact bc_ 0 r_ sub_end
      · (repeat (first | exact True.intro | refine ⟨rfl, ?_⟩))
  intro _ h1
  refine am_ (jc_cut (ι := Unit) [] (fun _ => (t.vars).all nameB = true) (fun _ => [(1, .cell (.val (.pointer (some ⟨bx, 0, none⟩))))]) (fun _ => [.blk bx 47 t.row]) ?_ ?_)
  · refine R_ (E_ r_ (T_ (au_ (jc_loopS (ι := Nat) [] (fun k => k ≤ (t.vars).length ∧ ((t.vars).take k).all nameB = true) (fun k => (4, In .i64 (k : Int)) :: [(1, .cell (.val (.pointer (some ⟨bx, 0, none⟩))))]) (fun _ => [.blk bx 47 t.row]) (fun k => (t.vars).length - k) 0 ⟨Nat.zero_le _, rfl⟩ ?_ ?_ ?_))))
    · exact bc_ 0 r_ sub_end
    · (repeat (first | exact True.intro | refine ⟨rfl, ?_⟩))
    rintro k ⟨hk, hall⟩
    have eL : ((t.vars).map Wrow).length = (t.vars).length := List.length_map _
    by_cases hlt : k < (t.vars).length
    · have hlt2 : (k : Int) < (((t.vars).map Wrow).length : Int) := by omega
      refine am_ (R_ (M_ r_ (F_ r_ (L_ 0 r_ (o_ r_ (br_ r_ (fun hlen => o_ r_ (bw_ r_ r_ (T_ (aq_ r_ u_ (as_ (al_ (B_ (R_ (F_ r_ (L_ 0 r_ (M_ r_ ?_)))))))))))))))))
      refine o_ r_ (cc_ r_ r_ g_ r_ r_ b_ (o_ r_ (cb_ r_ r_ (o_ r_ (bm_ r_ (rnameB_c _) (o_ r_ (cd_ r_ (T_ (jc_cond rfl (fun hn => ?_) (fun hy => ?_))))))))))
      · have hp : nameB (t.vars)[k] = false := by
          cases hcs : nameB (t.vars)[k] with
          | false => rfl
          | true =>
            exfalso
            skip
            simp [hcs] at hn
        have hno : (t.vars).all nameB = false := all_no hlt hp
        have hres : okTk t = false := by unfold okTk; simp [hno]
        refine R_ (E_ r_ (T_ (ar_ (az_ (aw_ (aw_ (az_ (aw_ (jq_ret1 rfl rfl [] rfl (fun K h => by rw [hres] at h; exact h))))))))))
      · have hp : nameB (t.vars)[k] = true := by simpa [and_assoc] using hy
        refine as_ (ay_ (al_ (an_ (M_ r_ (o_ r_ (bj_ r_ r_ g_ (E_ r_ (ak_ (jq_againS (k + 1) ⟨hlt, all_snoc hlt hall hp⟩ g_ ?_ ?_)))))))))
        · exact bc_ 0 r_ sub_end
        · (repeat (first | exact True.intro | refine ⟨rfl, ?_⟩))
    · have hlt2 : ¬ (k : Int) < (((t.vars).map Wrow).length : Int) := by omega
      refine am_ (R_ (M_ r_ (F_ r_ (L_ 0 r_ (o_ r_ (br_ r_ (fun hlen => o_ r_ (bw_ r_ r_ (T_ (ap_ r_ w_ (av_ (ax_ (ax_ (ba_ (jq_cutS () (by rw [List.take_of_length_le g_] at hall; exact hall) ?_ ?_)))))))))))))))
      · exact bc_ 0 r_ sub_end
      · (repeat (first | exact True.intro | refine ⟨rfl, ?_⟩))
  intro _ h2
  refine am_ (jc_cut (ι := Unit) [] (fun _ => (t.arrays).all arB = true) (fun _ => [(1, .cell (.val (.pointer (some ⟨bx, 0, none⟩))))]) (fun _ => [.blk bx 47 t.row]) ?_ ?_)
  · refine R_ (E_ r_ (T_ (au_ (jc_loopS (ι := Nat) [] (fun k => k ≤ (t.arrays).length ∧ ((t.arrays).take k).all arB = true) (fun k => (5, In .i64 (k : Int)) :: [(1, .cell (.val (.pointer (some ⟨bx, 0, none⟩))))]) (fun _ => [.blk bx 47 t.row]) (fun k => (t.arrays).length - k) 0 ⟨Nat.zero_le _, rfl⟩ ?_ ?_ ?_))))
    · exact bc_ 0 r_ sub_end
    · (repeat (first | exact True.intro | refine ⟨rfl, ?_⟩))
    rintro k ⟨hk, hall⟩
    have eL : ((t.arrays).map ArRow).length = (t.arrays).length := List.length_map _
    by_cases hlt : k < (t.arrays).length
    · have hlt2 : (k : Int) < (((t.arrays).map ArRow).length : Int) := by omega
      refine am_ (R_ (M_ r_ (F_ r_ (L_ 0 r_ (o_ r_ (br_ r_ (fun hlen => o_ r_ (bw_ r_ r_ (T_ (aq_ r_ u_ (as_ (al_ (B_ (R_ (F_ r_ (L_ 0 r_ (M_ r_ ?_)))))))))))))))))
      refine o_ r_ (cc_ r_ r_ g_ r_ r_ b_ (o_ r_ (cf_ r_ r_ r_ b_ r_ b_ (o_ r_ (cb_ r_ r_ (o_ r_ (bm_ r_ (rnameB_c _) (o_ r_ (cd_ r_ (M_ r_ (jl_or 8 8 rfl rfl rfl rfl (nb rfl) ?_)))))))))))
      apply Exists.intro
      refine ⟨fun hb1 => ?_, ?_⟩
      exact ah_ r_ h_ b_ (bf_ r_ r_ r_ b_ (ah_ r_ h_ b_ (bg_ 0 r_ r_ r_ r_ (ah_ r_ h_ b_ (bd_ r_ (ah_ r_ h_ b_ (cc_ r_ r_ g_ r_ r_ b_ (ah_ r_ h_ b_ (cf_ r_ r_ r_ b_ r_ b_ (ah_ r_ h_ b_ (cb_ r_ r_ (ah_ r_ h_ b_ (bm_ r_ (rplainB_c _) (ah_ r_ h_ b_ (cd_ r_ (ak_ (jq_seg 8 rfl rfl rfl (List.Perm.refl _))))))))))))))))))
      refine T_ (jc_cond rfl (fun hn => ?_) (fun hy => ?_))
      · have hp : arB (t.arrays)[k] = false := by
          cases hcs : arB (t.arrays)[k] with
          | false => rfl
          | true =>
            exfalso
            try simp only [arB, Bool.and_eq_true] at hcs
            simp [hcs] at hn
        have hno : (t.arrays).all arB = false := all_no hlt hp
        have hres : okTk t = false := by unfold okTk; simp [hno]
        refine R_ (E_ r_ (T_ (ar_ (az_ (aw_ (aw_ (az_ (aw_ (jq_ret1 rfl rfl [] rfl (fun K h => by rw [hres] at h; exact h))))))))))
      · have hp : arB (t.arrays)[k] = true := by simpa [arB, and_assoc] using hy
        refine as_ (ay_ (al_ (an_ (M_ r_ (o_ r_ (bj_ r_ r_ g_ (E_ r_ (ak_ (jq_againS (k + 1) ⟨hlt, all_snoc hlt hall hp⟩ g_ ?_ ?_)))))))))
        · exact bc_ 0 r_ sub_end
        · (repeat (first | exact True.intro | refine ⟨rfl, ?_⟩))
    · have hlt2 : ¬ (k : Int) < (((t.arrays).map ArRow).length : Int) := by omega
      refine am_ (R_ (M_ r_ (F_ r_ (L_ 0 r_ (o_ r_ (br_ r_ (fun hlen => o_ r_ (bw_ r_ r_ (T_ (ap_ r_ w_ (av_ (ax_ (ax_ (ba_ (jq_cutS () (by rw [List.take_of_length_le g_] at hall; exact hall) ?_ ?_)))))))))))))))
      · exact bc_ 0 r_ sub_end
      · (repeat (first | exact True.intro | refine ⟨rfl, ?_⟩))
  intro _ h3
  refine am_ (jc_cut (ι := Unit) [] (fun _ => (t.modes).all mdB = true) (fun _ => [(1, .cell (.val (.pointer (some ⟨bx, 0, none⟩))))]) (fun _ => [.blk bx 47 t.row]) ?_ ?_)
  · refine R_ (E_ r_ (T_ (au_ (jc_loopS (ι := Nat) [] (fun k => k ≤ (t.modes).length ∧ ((t.modes).take k).all mdB = true) (fun k => (6, In .i64 (k : Int)) :: [(1, .cell (.val (.pointer (some ⟨bx, 0, none⟩))))]) (fun _ => [.blk bx 47 t.row]) (fun k => (t.modes).length - k) 0 ⟨Nat.zero_le _, rfl⟩ ?_ ?_ ?_))))
    · exact bc_ 0 r_ sub_end
    · (repeat (first | exact True.intro | refine ⟨rfl, ?_⟩))
    rintro k ⟨hk, hall⟩
    have eL : ((t.modes).map MdRow).length = (t.modes).length := List.length_map _
    by_cases hlt : k < (t.modes).length
    · have hlt2 : (k : Int) < (((t.modes).map MdRow).length : Int) := by omega
      refine am_ (R_ (M_ r_ (F_ r_ (L_ 0 r_ (o_ r_ (br_ r_ (fun hlen => o_ r_ (bw_ r_ r_ (T_ (aq_ r_ u_ (as_ (al_ (B_ (R_ (F_ r_ (L_ 0 r_ (M_ r_ ?_)))))))))))))))))
      refine o_ r_ (cc_ r_ r_ g_ r_ r_ b_ (o_ r_ (cr_ r_ r_ r_ (o_ r_ (bl_ r_ r_ (fun bl => S_ 0 r_ (T_ (R_ (F_ r_ (L_ 0 r_ (o_ r_ (bm_ r_ (rnameB_c _) (o_ r_ (cd_ r_ (M_ r_ (jl_or 4 4 rfl rfl rfl rfl (nb rfl) ?_))))))))))))))))
      apply Exists.intro
      refine ⟨fun hb1 => ?_, ?_⟩
      exact ah_ r_ h_ b_ (bf_ r_ r_ r_ b_ (ah_ r_ h_ b_ (bg_ 0 r_ r_ r_ r_ (ah_ r_ h_ b_ (bm_ r_ (rnameB_c _) (ah_ r_ h_ b_ (cd_ r_ (ak_ (jq_seg 4 rfl rfl rfl (List.Perm.refl _))))))))))
      refine M_ r_ (jl_or 4 10 rfl rfl rfl rfl (nb rfl) ?_)
      apply Exists.intro
      refine ⟨fun hb1 => ?_, ?_⟩
      exact ah_ r_ h_ b_ (bf_ r_ r_ r_ b_ (ah_ r_ h_ b_ (bg_ 0 r_ r_ r_ r_ (ah_ r_ h_ b_ (bm_ r_ (rsmallB_c _) (ah_ r_ h_ b_ (cd_ r_ (ak_ (jq_seg 4 rfl rfl rfl (List.Perm.refl _))))))))))
      refine M_ r_ (jl_or 4 16 rfl rfl rfl rfl (nb rfl) ?_)
      apply Exists.intro
      refine ⟨fun hb1 => ?_, ?_⟩
      exact ah_ r_ h_ b_ (bf_ r_ r_ r_ b_ (ah_ r_ h_ b_ (bg_ 0 r_ r_ r_ r_ (ah_ r_ h_ b_ (bm_ r_ (rsmallB_c _) (ah_ r_ h_ b_ (cd_ r_ (ak_ (jq_seg 4 rfl rfl rfl (List.Perm.refl _))))))))))
      refine T_ (jc_cond rfl (fun hn => ?_) (fun hy => ?_))
      · have hp : mdB (t.modes)[k] = false := by
          cases hcs : mdB (t.modes)[k] with
          | false => rfl
          | true =>
            exfalso
            try simp only [mdB, Bool.and_eq_true] at hcs
            simp [hcs] at hn
        have hno : (t.modes).all mdB = false := all_no hlt hp
        have hres : okTk t = false := by unfold okTk; simp [hno]
        refine R_ (E_ r_ (T_ (ar_ (az_ (aw_ (aw_ (az_ (aw_ (jq_ret1 rfl rfl [] rfl (fun K h => by rw [hres] at h; exact h))))))))))
      · have hp : mdB (t.modes)[k] = true := by simpa [mdB, and_assoc] using hy
        refine as_ (ay_ (al_ (an_ (M_ r_ (o_ r_ (bj_ r_ r_ g_ (E_ r_ (ak_ (jq_againS (k + 1) ⟨hlt, all_snoc hlt hall hp⟩ g_ ?_ ?_)))))))))
        · exact bc_ 1 r_ sub_end
        · (repeat (first | exact True.intro | refine ⟨rfl, ?_⟩))
    · have hlt2 : ¬ (k : Int) < (((t.modes).map MdRow).length : Int) := by omega
      refine am_ (R_ (M_ r_ (F_ r_ (L_ 0 r_ (o_ r_ (br_ r_ (fun hlen => o_ r_ (bw_ r_ r_ (T_ (ap_ r_ w_ (av_ (ax_ (ax_ (ba_ (jq_cutS () (by rw [List.take_of_length_le g_] at hall; exact hall) ?_ ?_)))))))))))))))
      · exact bc_ 0 r_ sub_end
      · (repeat (first | exact True.intro | refine ⟨rfl, ?_⟩))
  intro _ h4
  refine am_ (jc_cut (ι := Unit) [] (fun _ => (t.claims).all clB = true) (fun _ => [(1, .cell (.val (.pointer (some ⟨bx, 0, none⟩))))]) (fun _ => [.blk bx 47 t.row]) ?_ ?_)
  · refine R_ (E_ r_ (T_ (au_ (jc_loopS (ι := Nat) [] (fun k => k ≤ (t.claims).length ∧ ((t.claims).take k).all clB = true) (fun k => (8, In .i64 (k : Int)) :: [(1, .cell (.val (.pointer (some ⟨bx, 0, none⟩))))]) (fun _ => [.blk bx 47 t.row]) (fun k => (t.claims).length - k) 0 ⟨Nat.zero_le _, rfl⟩ ?_ ?_ ?_))))
    · exact bc_ 0 r_ sub_end
    · (repeat (first | exact True.intro | refine ⟨rfl, ?_⟩))
    rintro k ⟨hk, hall⟩
    have eL : ((t.claims).map ClRow).length = (t.claims).length := List.length_map _
    by_cases hlt : k < (t.claims).length
    · have hlt2 : (k : Int) < (((t.claims).map ClRow).length : Int) := by omega
      refine am_ (R_ (M_ r_ (F_ r_ (L_ 0 r_ (o_ r_ (br_ r_ (fun hlen => o_ r_ (bw_ r_ r_ (T_ (aq_ r_ u_ (as_ (al_ (B_ (R_ (F_ r_ (L_ 0 r_ (M_ r_ ?_)))))))))))))))))
      refine o_ r_ (cc_ r_ r_ g_ r_ r_ b_ (o_ r_ (cf_ r_ r_ r_ b_ r_ b_ (o_ r_ (cb_ r_ r_ (o_ r_ (bm_ r_ (rplainB_c _) (o_ r_ (cd_ r_ (M_ r_ (jl_or 8 8 rfl rfl rfl rfl (nb rfl) ?_)))))))))))
      apply Exists.intro
      refine ⟨fun hb1 => ?_, ?_⟩
      exact ah_ r_ h_ b_ (bf_ r_ r_ r_ b_ (ah_ r_ h_ b_ (bg_ 0 r_ r_ r_ r_ (ah_ r_ h_ b_ (bd_ r_ (ah_ r_ h_ b_ (cc_ r_ r_ g_ r_ r_ b_ (ah_ r_ h_ b_ (cf_ r_ r_ r_ b_ r_ b_ (ah_ r_ h_ b_ (cb_ r_ r_ (ah_ r_ h_ b_ (bm_ r_ (rplainB_c _) (ah_ r_ h_ b_ (cd_ r_ (ak_ (jq_seg 8 rfl rfl rfl (List.Perm.refl _))))))))))))))))))
      refine T_ (jc_cond rfl (fun hn => ?_) (fun hy => ?_))
      · have hp : clB (t.claims)[k] = false := by
          cases hcs : clB (t.claims)[k] with
          | false => rfl
          | true =>
            exfalso
            try simp only [clB, Bool.and_eq_true] at hcs
            simp [hcs] at hn
        have hno : (t.claims).all clB = false := all_no hlt hp
        have hres : okTk t = false := by unfold okTk; simp [hno]
        refine R_ (E_ r_ (T_ (ar_ (az_ (aw_ (aw_ (az_ (aw_ (jq_ret1 rfl rfl [] rfl (fun K h => by rw [hres] at h; exact h))))))))))
      · have hp : clB (t.claims)[k] = true := by simpa [clB, and_assoc] using hy
        refine as_ (ay_ (al_ (an_ (M_ r_ (o_ r_ (bj_ r_ r_ g_ (E_ r_ (ak_ (jq_againS (k + 1) ⟨hlt, all_snoc hlt hall hp⟩ g_ ?_ ?_)))))))))
        · exact bc_ 0 r_ sub_end
        · (repeat (first | exact True.intro | refine ⟨rfl, ?_⟩))
    · have hlt2 : ¬ (k : Int) < (((t.claims).map ClRow).length : Int) := by omega
      refine am_ (R_ (M_ r_ (F_ r_ (L_ 0 r_ (o_ r_ (br_ r_ (fun hlen => o_ r_ (bw_ r_ r_ (T_ (ap_ r_ w_ (av_ (ax_ (ax_ (ba_ (jq_cutS () (by rw [List.take_of_length_le g_] at hall; exact hall) ?_ ?_)))))))))))))))
      · exact bc_ 0 r_ sub_end
      · (repeat (first | exact True.intro | refine ⟨rfl, ?_⟩))
  intro _ h5
  have hres : okTk t = true := by unfold okTk; rw [h0, h1, h2, h3, h4, h5]; rfl
  refine R_ (E_ r_ (T_ (ar_ (jq_ret1 rfl rfl [] rfl (fun K h => by rw [hres] at h; exact h)))))
theorem rprintableB_c (p : Pg) : Con Tryz.prog 33 [.row p.row] [] (fun K => K (Bl (okPg p)) []) := by
  refine con_intro Tryz.func33 rfl rfl (Nat.le_of_ble_eq_true rfl) (fun c hc => ?_)
  skip
  refine R_ (o_ r_ (ci_ r_ (fun bx => E_ r_ (T_ (am_ (jc_cut (ι := Unit) [] (fun _ => (p.res).all nameB = true) (fun _ => [(1, .cell (.val (.pointer (some ⟨bx, 0, none⟩))))]) (fun _ => [.blk bx 32 p.row]) ?_ ?_))))))
  · refine R_ (E_ r_ (T_ (au_ (jc_loopS (ι := Nat) [] (fun k => k ≤ (p.res).length ∧ ((p.res).take k).all nameB = true) (fun k => (3, In .i64 (k : Int)) :: [(1, .cell (.val (.pointer (some ⟨bx, 0, none⟩))))]) (fun _ => [.blk bx 32 p.row]) (fun k => (p.res).length - k) 0 ⟨Nat.zero_le _, rfl⟩ ?_ ?_ ?_))))
    · exact bc_ 0 r_ sub_end
    · (repeat (first | exact True.intro | refine ⟨rfl, ?_⟩))
    rintro k ⟨hk, hall⟩
    have eL : ((p.res).map Wrow).length = (p.res).length := List.length_map _
    by_cases hlt : k < (p.res).length
    · have hlt2 : (k : Int) < (((p.res).map Wrow).length : Int) := by omega
      refine am_ (R_ (M_ r_ (F_ r_ (L_ 0 r_ (o_ r_ (br_ r_ (fun hlen => o_ r_ (bw_ r_ r_ (T_ (aq_ r_ u_ (as_ (al_ (B_ (R_ (F_ r_ (L_ 0 r_ (M_ r_ ?_)))))))))))))))))
      refine o_ r_ (cc_ r_ r_ g_ r_ r_ b_ (o_ r_ (cb_ r_ r_ (o_ r_ (bm_ r_ (rnameB_c _) (o_ r_ (cd_ r_ (T_ (jc_cond rfl (fun hn => ?_) (fun hy => ?_))))))))))
      · have hp : nameB (p.res)[k] = false := by
          cases hcs : nameB (p.res)[k] with
          | false => rfl
          | true =>
            exfalso
            skip
            simp [hcs] at hn
        have hno : (p.res).all nameB = false := all_no hlt hp
        have hres : okPg p = false := by unfold okPg; simp [hno]
        refine R_ (E_ r_ (T_ (ar_ (az_ (aw_ (aw_ (az_ (aw_ (jq_ret1 rfl rfl [] rfl (fun K h => by rw [hres] at h; exact h))))))))))
      · have hp : nameB (p.res)[k] = true := by simpa [and_assoc] using hy
        refine as_ (ay_ (al_ (an_ (M_ r_ (o_ r_ (bj_ r_ r_ g_ (E_ r_ (ak_ (jq_againS (k + 1) ⟨hlt, all_snoc hlt hall hp⟩ g_ ?_ ?_)))))))))
        · exact bc_ 0 r_ sub_end
        · (repeat (first | exact True.intro | refine ⟨rfl, ?_⟩))
    · have hlt2 : ¬ (k : Int) < (((p.res).map Wrow).length : Int) := by omega
      refine am_ (R_ (M_ r_ (F_ r_ (L_ 0 r_ (o_ r_ (br_ r_ (fun hlen => o_ r_ (bw_ r_ r_ (T_ (ap_ r_ w_ (av_ (ax_ (ax_ (ba_ (jq_cutS () (by rw [List.take_of_length_le g_] at hall; exact hall) ?_ ?_)))))))))))))))
      · exact bc_ 0 r_ sub_end
      · (repeat (first | exact True.intro | refine ⟨rfl, ?_⟩))
  intro _ h1
  refine am_ (jc_cut (ι := Unit) [] (fun _ => (p.shared).all shB = true) (fun _ => [(1, .cell (.val (.pointer (some ⟨bx, 0, none⟩))))]) (fun _ => [.blk bx 32 p.row]) ?_ ?_)
  · refine R_ (E_ r_ (T_ (au_ (jc_loopS (ι := Nat) [] (fun k => k ≤ (p.shared).length ∧ ((p.shared).take k).all shB = true) (fun k => (4, In .i64 (k : Int)) :: [(1, .cell (.val (.pointer (some ⟨bx, 0, none⟩))))]) (fun _ => [.blk bx 32 p.row]) (fun k => (p.shared).length - k) 0 ⟨Nat.zero_le _, rfl⟩ ?_ ?_ ?_))))
    · exact bc_ 0 r_ sub_end
    · (repeat (first | exact True.intro | refine ⟨rfl, ?_⟩))
    rintro k ⟨hk, hall⟩
    have eL : ((p.shared).map ShRow).length = (p.shared).length := List.length_map _
    by_cases hlt : k < (p.shared).length
    · have hlt2 : (k : Int) < (((p.shared).map ShRow).length : Int) := by omega
      refine am_ (R_ (M_ r_ (F_ r_ (L_ 0 r_ (o_ r_ (br_ r_ (fun hlen => o_ r_ (bw_ r_ r_ (T_ (aq_ r_ u_ (as_ (al_ (B_ (R_ (F_ r_ (L_ 0 r_ (M_ r_ ?_)))))))))))))))))
      refine o_ r_ (cc_ r_ r_ g_ r_ r_ b_ (o_ r_ (cr_ r_ r_ r_ (o_ r_ (bl_ r_ r_ (fun bl => S_ 0 r_ (T_ (R_ (F_ r_ (F_ r_ (L_ 0 r_ (o_ r_ (bm_ r_ (rnameB_c _) (o_ r_ (cd_ r_ (M_ r_ (jl_or 5 5 rfl rfl rfl rfl (nb rfl) ?_)))))))))))))))))
      apply Exists.intro
      refine ⟨fun hb1 => ?_, ?_⟩
      exact ah_ r_ h_ b_ (bf_ r_ r_ r_ b_ (ah_ r_ h_ b_ (bf_ r_ r_ r_ b_ (ah_ r_ h_ b_ (bg_ 0 r_ r_ r_ r_ (ah_ r_ h_ b_ (bm_ r_ (rplainB_c _) (ah_ r_ h_ b_ (cd_ r_ (ak_ (jq_seg 5 rfl rfl rfl (List.Perm.refl _))))))))))))
      refine M_ r_ (jl_or 4 12 rfl rfl rfl rfl (nb rfl) ?_)
      apply Exists.intro
      refine ⟨fun hb1 => ?_, ?_⟩
      exact ah_ r_ h_ b_ (bf_ r_ r_ r_ b_ (ah_ r_ h_ b_ (bg_ 0 r_ r_ r_ r_ (ah_ r_ h_ b_ (bm_ r_ (rnameB_c _) (ah_ r_ h_ b_ (cd_ r_ (ak_ (jq_seg 4 rfl rfl rfl (List.Perm.refl _))))))))))
      refine T_ (jc_cond rfl (fun hn => ?_) (fun hy => ?_))
      · have hp : shB (p.shared)[k] = false := by
          cases hcs : shB (p.shared)[k] with
          | false => rfl
          | true =>
            exfalso
            try simp only [shB, Bool.and_eq_true] at hcs
            simp [hcs] at hn
        have hno : (p.shared).all shB = false := all_no hlt hp
        have hres : okPg p = false := by unfold okPg; simp [hno]
        refine R_ (E_ r_ (T_ (ar_ (az_ (aw_ (aw_ (az_ (aw_ (jq_ret1 rfl rfl [] rfl (fun K h => by rw [hres] at h; exact h))))))))))
      · have hp : shB (p.shared)[k] = true := by simpa [shB, and_assoc] using hy
        refine as_ (ay_ (al_ (an_ (M_ r_ (o_ r_ (bj_ r_ r_ g_ (E_ r_ (ak_ (jq_againS (k + 1) ⟨hlt, all_snoc hlt hall hp⟩ g_ ?_ ?_)))))))))
        · exact bc_ 1 r_ sub_end
        · (repeat (first | exact True.intro | refine ⟨rfl, ?_⟩))
    · have hlt2 : ¬ (k : Int) < (((p.shared).map ShRow).length : Int) := by omega
      refine am_ (R_ (M_ r_ (F_ r_ (L_ 0 r_ (o_ r_ (br_ r_ (fun hlen => o_ r_ (bw_ r_ r_ (T_ (ap_ r_ w_ (av_ (ax_ (ax_ (ba_ (jq_cutS () (by rw [List.take_of_length_le g_] at hall; exact hall) ?_ ?_)))))))))))))))
      · exact bc_ 0 r_ sub_end
      · (repeat (first | exact True.intro | refine ⟨rfl, ?_⟩))
  intro _ h2
  refine am_ (jc_cut (ι := Unit) [] (fun _ => (p.tasks).all okTk = true) (fun _ => [(1, .cell (.val (.pointer (some ⟨bx, 0, none⟩))))]) (fun _ => [.blk bx 32 p.row]) ?_ ?_)
  · refine R_ (E_ r_ (T_ (au_ (jc_loopS (ι := Nat) [] (fun k => k ≤ (p.tasks).length ∧ ((p.tasks).take k).all okTk = true) (fun k => (6, In .i64 (k : Int)) :: [(1, .cell (.val (.pointer (some ⟨bx, 0, none⟩))))]) (fun _ => [.blk bx 32 p.row]) (fun k => (p.tasks).length - k) 0 ⟨Nat.zero_le _, rfl⟩ ?_ ?_ ?_))))
    · exact bc_ 0 r_ sub_end
    · (repeat (first | exact True.intro | refine ⟨rfl, ?_⟩))
    rintro k ⟨hk, hall⟩
    have eL : ((p.tasks).map Tk.row).length = (p.tasks).length := List.length_map _
    by_cases hlt : k < (p.tasks).length
    · have hlt2 : (k : Int) < (((p.tasks).map Tk.row).length : Int) := by omega
      refine am_ (R_ (M_ r_ (F_ r_ (L_ 0 r_ (o_ r_ (br_ r_ (fun hlen => o_ r_ (bw_ r_ r_ (T_ (aq_ r_ u_ (as_ (al_ (B_ (R_ (F_ r_ (L_ 0 r_ (M_ r_ ?_)))))))))))))))))
      refine o_ r_ (cc_ r_ r_ g_ r_ r_ b_ (o_ r_ (cr_ r_ r_ r_ (o_ r_ (bm_ r_ (rtaskB_c _) (o_ r_ (cd_ r_ (T_ (jc_cond rfl (fun hn => ?_) (fun hy => ?_))))))))))
      · have hp : okTk (p.tasks)[k] = false := by
          cases hcs : okTk (p.tasks)[k] with
          | false => rfl
          | true =>
            exfalso
            skip
            simp [hcs] at hn
        have hno : (p.tasks).all okTk = false := all_no hlt hp
        have hres : okPg p = false := by unfold okPg; simp [hno]
        refine R_ (E_ r_ (T_ (ar_ (az_ (aw_ (aw_ (az_ (aw_ (jq_ret1 rfl rfl [] rfl (fun K h => by rw [hres] at h; exact h))))))))))
      · have hp : okTk (p.tasks)[k] = true := by simpa [and_assoc] using hy
        refine as_ (ay_ (al_ (an_ (M_ r_ (o_ r_ (bj_ r_ r_ g_ (E_ r_ (ak_ (jq_againS (k + 1) ⟨hlt, all_snoc hlt hall hp⟩ g_ ?_ ?_)))))))))
        · exact bc_ 0 r_ sub_end
        · (repeat (first | exact True.intro | refine ⟨rfl, ?_⟩))
    · have hlt2 : ¬ (k : Int) < (((p.tasks).map Tk.row).length : Int) := by omega
      refine am_ (R_ (M_ r_ (F_ r_ (L_ 0 r_ (o_ r_ (br_ r_ (fun hlen => o_ r_ (bw_ r_ r_ (T_ (ap_ r_ w_ (av_ (ax_ (ax_ (ba_ (jq_cutS () (by rw [List.take_of_length_le g_] at hall; exact hall) ?_ ?_)))))))))))))))
      · exact bc_ 0 r_ sub_end
      · (repeat (first | exact True.intro | refine ⟨rfl, ?_⟩))
  intro _ h3
  have hres : okPg p = true := by unfold okPg; rw [h1, h2, h3]; rfl
  refine R_ (E_ r_ (T_ (ar_ (jq_ret1 rfl rfl [] rfl (fun K h => by rw [hres] at h; exact h)))))
end Go.Proofs.YtamajcgdfjeehaaGreatDoor
end

section
namespace Go.Proofs.YtamajcgdfjeehaaGreatDoor
open Go.Vc
attribute [local irreducible] JL JC JQ OpWp Con ConN
attribute [local irreducible] byteAt runLen isL isD isName hasW
set_option maxHeartbeats 4000000

def nmOk (s : ByteArray) : Prop := isName s = true ∧ hasW s = false
def T.ok : T → Prop
  | .nu n => -2147483647 ≤ n ∧ n ≤ 2147483647
  | .nm s => nmOk s
  | .ix s t => nmOk s ∧ t.ok
  | .bn o a b => (1 ≤ o ∧ o ≤ 14) ∧ a.ok ∧ b.ok
end Go.Proofs.YtamajcgdfjeehaaGreatDoor
end

section
namespace Go.Proofs.YtamajcgdfjeehaaGreatDoor
open Go.Vc
attribute [local irreducible] JL JC JQ OpWp Con ConN
attribute [local irreducible] byteAt runLen isL isD isName hasW
set_option maxHeartbeats 4000000

end Go.Proofs.YtamajcgdfjeehaaGreatDoor
end

section
namespace Go.Proofs.YtamajcgdfjeehaaGreatDoor
open Go.Vc
attribute [local irreducible] JL JC JQ OpWp Con ConN
attribute [local irreducible] byteAt runLen isL isD isName hasW
set_option maxHeartbeats 4000000

end Go.Proofs.YtamajcgdfjeehaaGreatDoor
end

section
namespace Go.Proofs.YtamajcgdfjeehaaGreatDoor
open Go.Vc
attribute [local irreducible] JL JC JQ OpWp
attribute [local irreducible] byteAt runLen isL isD isName hasW
set_option maxHeartbeats 4000000

def numS (n : Int) : ByteArray := ⟨(Lib.itoa n).toArray⟩
attribute [local irreducible] Con ConN
theorem numS_size (n : Int) (h0 : -2147483647 ≤ n) (h1 : n ≤ 2147483647) : (numS n).size ≤ 21 := by
  have := Lib.itoa_length_le n (by omega) (by omega)
  unfold numS
  simpa [ByteArray.size] using this
theorem numS_nonneg (n : Int) (h : 0 ≤ n) : numS n = decS n.toNat := by
  obtain ⟨u, rfl⟩ : ∃ u : Nat, n = u := ⟨n.toNat, by omega⟩
  unfold numS decS
  rw [Lib.itoa_nonneg, Int.toNat_natCast]
theorem numS_neg (n : Int) (h : n < 0) : numS n = ⟨#[45]⟩ ++ decS (-n).toNat := by
  obtain ⟨u, rfl⟩ : ∃ u : Nat, n = -(u : Int) := ⟨(-n).toNat, by omega⟩
  unfold numS decS
  rw [Lib.itoa_neg u (by omega), show (- -(u : Int)).toNat = u by omega]
  apply ByteArray.ext
  rw [ByteArray.data_append]
  simp
theorem refNumber_c (n : Int) (h : -2147483647 ≤ n ∧ n ≤ 2147483647) : Con Tryz.prog 35 [In .i64 n] [] (fun K => K (Str (numS n)) []) := by
  refine con_intro Tryz.func35 rfl rfl (Nat.le_of_ble_eq_true rfl) (fun c hc => R_ (E_ r_ (T_ (am_ (R_ (M_ r_ (o_ r_ (bw_ r_ r_ (T_ (jc_condd rfl (fun hn => ?_) (fun hn => ?_)))))))))))
  · have hD := Decimal_c (-n).toNat (by omega)
    rw [show (((-n).toNat : Nat) : Int) = -n by omega] at hD
    have h45 : (⟨#[45]⟩ : ByteArray).size = 1 := rfl
    have hz := decS_le (-n).toNat (by omega)
    refine R_ (M_ r_ (o_ r_ (cy_ r_ g_ (o_ r_ (bm_ r_ (hD) (o_ r_ (ow_strcat r_ r_ g_ (E_ r_ (T_ (ar_ (aw_ (jq_ret1 rfl rfl [] rfl (fun K h => by rw [numS_neg n hn] at h; exact h)))))))))))))
  · have hD := Decimal_c n.toNat (by omega)
    rw [show ((n.toNat : Nat) : Int) = n by omega] at hD
    refine as_ (al_ (R_ (M_ r_ (o_ r_ (bm_ r_ (hD) (E_ r_ (T_ (ar_ (jq_ret1 rfl rfl [] rfl (fun K h => by rw [numS_nonneg n g_] at h; exact h))))))))))
def textT : T → ByteArray
  | .nu n => if n < 0 then (⟨#[40]⟩ ++ numS n) ++ ⟨#[41]⟩ else numS n
  | .nm s => s
  | .ix s t => ((s ++ ⟨#[91]⟩) ++ textT t) ++ ⟨#[93]⟩
  | .bn o a b => (((((⟨#[40]⟩ ++ textT a) ++ ⟨#[32]⟩) ++ signT o) ++ ⟨#[32]⟩) ++ textT b) ++ ⟨#[41]⟩
theorem one_size (c : UInt8) : (⟨#[c]⟩ : ByteArray).size = 1 := rfl
theorem sign_size {o : Int} (h : 1 ≤ o ∧ o ≤ 14) : (signT o).size ≤ 2 := by
  rcases op14 h with rfl | rfl | rfl | rfl | rfl | rfl | rfl | rfl | rfl | rfl | rfl | rfl | rfl | rfl <;> decide
end Go.Proofs.YtamajcgdfjeehaaGreatDoor
end

section
namespace Go.Proofs.YtamajcgdfjeehaaGreatDoor
open Go.Vc
attribute [local irreducible] JL JC JQ OpWp Con ConN
attribute [local irreducible] byteAt runLen isL isD isName hasW
set_option maxHeartbeats 4000000

theorem rtext_c : ∀ (t : T), t.ok → (textT t).size ≤ 1000000000 → Con Tryz.prog 75 [.row t.row'] [] (fun K => K (Str (textT t)) []) := by
  intro t
  induction t with
  | nu n =>
    intro hok hz
    have hI := refNumber_c n hok
    have hz := numS_size n hok.1 hok.2
    have h40 := one_size 40
    have h41 := one_size 41
    have h2 : (⟨#[40]⟩ ++ numS n).size ≤ 30 := by rw [ByteArray.size_append]; omega
    show Con _ _ [.row [.val (.int .i64 1), .val (.int .i64 n), .val (.string ⟨#[]⟩), .val (.int .i64 0), .list (([] : List T).map T.row)]] [] _
    refine con_intro Tryz.func75 rfl rfl (Nat.le_of_ble_eq_true rfl) (fun c hc => R_ (o_ r_ (ci_ r_ (fun bx => E_ r_ (T_ (am_ (R_ (F_ r_ (L_ 0 r_ (T_ (au_ (R_ (o_ r_ (bn_ r_ r_ (E_ r_ (T_ (jc_condd rfl (fun _ => ?_) (fun h => absurd rfl h))))))))))))))))))
    refine am_ (R_ (F_ r_ (L_ 0 r_ (o_ r_ (bw_ r_ r_ (T_ (jc_condd rfl (fun hn => ?_) (fun hn => ?_))))))))
    · have e : textT (.nu n) = (⟨#[40]⟩ ++ numS n) ++ ⟨#[41]⟩ := by unfold textT; rw [if_pos hn]
      refine R_ (F_ r_ (L_ 0 r_ (o_ r_ (bm_ r_ (hI) (o_ r_ (ow_strcat r_ r_ g_ (o_ r_ (ow_strcat r_ r_ g_ (E_ r_ (T_ (ar_ (aw_ (az_ (aw_ (jq_ret1 rfl rfl [] rfl (fun K h => by rw [e] at h; exact h))))))))))))))))
    · have e : textT (.nu n) = numS n := by unfold textT; rw [if_neg hn]
      refine as_ (al_ (R_ (F_ r_ (L_ 0 r_ (o_ r_ (bm_ r_ (hI) (E_ r_ (T_ (ar_ (az_ (aw_ (jq_ret1 rfl rfl [] rfl (fun K h => by rw [e] at h; exact h)))))))))))))
  | nm s =>
    intro hok hz
    show Con _ _ [.row [.val (.int .i64 2), .val (.int .i64 0), .val (.string s), .val (.int .i64 0), .list (([] : List T).map T.row)]] [] _
    refine con_intro Tryz.func75 rfl rfl (Nat.le_of_ble_eq_true rfl) (fun c hc => R_ (o_ r_ (ci_ r_ (fun bx => E_ r_ (T_ (am_ (R_ (F_ r_ (L_ 0 r_ (T_ (au_ (R_ (o_ r_ (bn_ r_ r_ (E_ r_ (T_ (jc_condd rfl (fun h => by cases h) (fun _ => ?_))))))))))))))))))
    refine R_ (o_ r_ (bn_ r_ r_ (E_ r_ (T_ (jc_condd rfl (fun _ => R_ (F_ r_ (L_ 0 r_ (E_ r_ (T_ (ar_ (az_ (aw_ (jq_ret1 rfl rfl [] rfl (fun K h => h)))))))))) (fun h => absurd rfl h))))))
  | ix s t ih =>
    intro hok hz
    have e : textT (.ix s t) = ((s ++ ⟨#[91]⟩) ++ textT t) ++ ⟨#[93]⟩ := by rw [textT]
    rw [e] at hz
    have h91 := one_size 91
    have h93 := one_size 93
    have hz1 := hz
    rw [ByteArray.size_append] at hz1
    have hz2 := hz1
    rw [ByteArray.size_append] at hz2
    have hz3 := hz2
    rw [ByteArray.size_append] at hz3
    have hI := ih hok.2 (by omega)
    have e1 : [t].length = 1 := rfl
    show Con _ _ [.row [.val (.int .i64 3), .val (.int .i64 0), .val (.string s), .val (.int .i64 0), .list ([t].map T.row)]] [] _
    refine con_intro Tryz.func75 rfl rfl (Nat.le_of_ble_eq_true rfl) (fun c hc => R_ (o_ r_ (ci_ r_ (fun bx => E_ r_ (T_ (am_ (R_ (F_ r_ (L_ 0 r_ (T_ (au_ (R_ (o_ r_ (bn_ r_ r_ (E_ r_ (T_ (jc_condd rfl (fun h => by cases h) (fun _ => ?_))))))))))))))))))
    refine R_ (o_ r_ (bn_ r_ r_ (E_ r_ (T_ (jc_condd rfl (fun h => by cases h) (fun _ => R_ (o_ r_ (bn_ r_ r_ (E_ r_ (T_ (jc_condd rfl (fun _ => am_ (ao_ r_ r_ k_ k_ (yF_ r_ (yL_ 0 r_ (aa_ (fun c => ow_strcat r_ r_ g_ p_) (yF_ r_ ?_)))))) (fun h => absurd rfl h))))))))))))
    refine yL_ 0 r_ (aa_ (fun c => cv_ r_ r_ g_ g_ (T.row_eq _) r_ b_ p_) (aa_ (fun c => cr_ r_ r_ r_ p_) (aa_ (fun c => bm_ r_ (hI) p_) (aa_ (fun c => ow_strcat r_ r_ g_ p_) (aa_ (fun c => ow_strcat r_ r_ g_ p_) (yE_ r_ (ae_ (al_ (ar_ (az_ (aw_ (jq_ret1 rfl rfl [] rfl (fun K h => by rw [e] at h; exact h)))))))))))))
  | bn o a b iha ihb =>
    intro hok hz
    have e : textT (.bn o a b) = (((((⟨#[40]⟩ ++ textT a) ++ ⟨#[32]⟩) ++ signT o) ++ ⟨#[32]⟩) ++ textT b) ++ ⟨#[41]⟩ := by rw [textT]
    rw [e] at hz
    have h40 := one_size 40
    have h32 := one_size 32
    have h41 := one_size 41
    have hz1 := hz
    rw [ByteArray.size_append] at hz1
    have hz2 := hz1
    rw [ByteArray.size_append] at hz2
    have hz3 := hz2
    rw [ByteArray.size_append] at hz3
    have hz4 := hz3
    rw [ByteArray.size_append] at hz4
    have hz5 := hz4
    rw [ByteArray.size_append] at hz5
    have hz6 := hz5
    rw [ByteArray.size_append] at hz6
    have hS := RSign_c o hok.1
    have hA := iha hok.2.1 (by omega)
    have hB := ihb hok.2.2 (by omega)
    have e1 : [a, b].length = 2 := rfl
    show Con _ _ [.row [.val (.int .i64 4), .val (.int .i64 0), .val (.string ⟨#[]⟩), .val (.int .i64 o), .list ([a, b].map T.row)]] [] _
    refine con_intro Tryz.func75 rfl rfl (Nat.le_of_ble_eq_true rfl) (fun c hc => R_ (o_ r_ (ci_ r_ (fun bx => E_ r_ (T_ (am_ (R_ (F_ r_ (L_ 0 r_ (T_ (au_ (R_ (o_ r_ (bn_ r_ r_ (E_ r_ (T_ (jc_condd rfl (fun h => by cases h) (fun _ => ?_))))))))))))))))))
    refine R_ (o_ r_ (bn_ r_ r_ (E_ r_ (T_ (jc_condd rfl (fun h => by cases h) (fun _ => R_ (o_ r_ (bn_ r_ r_ (E_ r_ (T_ (jc_condd rfl (fun h => by cases h) (fun _ => as_ (ay_ (al_ (am_ (ao_ r_ r_ k_ k_ (yF_ r_ ?_)))))))))))))))))
    refine yL_ 0 r_ (aa_ (fun c => cv_ r_ r_ g_ g_ (T.row_eq _) r_ b_ p_) (aa_ (fun c => cr_ r_ r_ r_ p_) (aa_ (fun c => bm_ r_ (hA) p_) (aa_ (fun c => ow_strcat r_ r_ g_ p_) (aa_ (fun c => ow_strcat r_ r_ g_ p_) (yF_ r_ (yL_ 0 r_ (aa_ (fun c => bm_ r_ (hS) p_) (aa_ (fun c => ow_strcat r_ r_ g_ p_) (aa_ (fun c => ow_strcat r_ r_ g_ p_) (yF_ r_ (yL_ 0 r_ (aa_ (fun c => cv_ r_ r_ g_ g_ (T.row_eq _) r_ b_ p_) ?_)))))))))))))
    refine aa_ (fun c => cr_ r_ r_ r_ p_) (aa_ (fun c => bm_ r_ (hB) p_) (aa_ (fun c => ow_strcat r_ r_ g_ p_) (aa_ (fun c => ow_strcat r_ r_ g_ p_) (yE_ r_ (ae_ (al_ (ar_ (jq_ret1 rfl rfl [] rfl (fun K h => by rw [e] at h; exact h)))))))))

theorem name_size {s : ByteArray} (h : nmOk s) : s.size ≤ 12 := by
  have := h.1
  unfold isName at this
  simp only [Bool.and_eq_true, decide_eq_true_eq] at this
  exact this.1.2
theorem text_size : ∀ (t : T), t.ok → (textT t).size + 50 ≤ 100 * 2 ^ t.dep
  | .nu n, h => by
    have := numS_size n h.1 h.2
    have h40 := one_size 40
    have h41 := one_size 41
    unfold textT
    simp only [T.dep]
    split
    · rw [ByteArray.size_append, ByteArray.size_append]; omega
    · omega
  | .nm s, h => by
    have := name_size h
    simp only [textT, T.dep]
    omega
  | .ix s t, h => by
    have := name_size h.1
    have := text_size t h.2
    have h91 := one_size 91
    have h93 := one_size 93
    simp only [textT, T.dep, ByteArray.size_append, Nat.pow_succ]
    omega
  | .bn o a b, h => by
    have h1 := text_size a h.2.1
    have h2 := text_size b h.2.2
    have h3 := sign_size h.1
    have h40 := one_size 40
    have h32 := one_size 32
    have h41 := one_size 41
    have e1 : 2 ^ a.dep ≤ 2 ^ max a.dep b.dep := Nat.pow_le_pow_right (by decide) (by omega)
    have e2 : 2 ^ b.dep ≤ 2 ^ max a.dep b.dep := Nat.pow_le_pow_right (by decide) (by omega)
    simp only [textT, T.dep, ByteArray.size_append, Nat.pow_succ]
    omega
theorem text_small {t : T} (h : t.ok) (hd : t.dep ≤ 8) : (textT t).size ≤ 1000000000 := by
  have h1 := text_size t h
  have h2 : 2 ^ t.dep ≤ 2 ^ 8 := Nat.pow_le_pow_right (by decide) hd
  omega
end Go.Proofs.YtamajcgdfjeehaaGreatDoor
end

section
namespace Go.Proofs.YtamajcgdfjeehaaGreatDoor
open Go.Vc
attribute [local irreducible] JL JC JQ OpWp Con ConN
attribute [local irreducible] byteAt runLen isL isD isName hasW
set_option maxHeartbeats 4000000

def dpx (x : T) : Bool := decide (8 < x.dep)
def dpS (rec : List Sm → Bool) (s : Sm) : Bool := rec s.thn || rec s.els || s.index.any dpx || s.value.any dpx
def dpF : Nat → List Sm → Bool
  | 0, l => !l.isEmpty
  | n + 1, l => l.any (dpS (dpF n))
def Fx (x : T) : Prop := x.ok ∧ x.dep ≤ 8
def Pl (n : Int) : Prop := 0 ≤ n ∧ n ≤ 2147483647
def fineS : Nat → Sm → Prop
  | 0, _ => False
  | n + 1, s =>
    (s.kind = 1 ∧ nmOk s.name ∧ ∃ x, s.value = [x] ∧ Fx x) ∨
    (s.kind = 2 ∧ nmOk s.name ∧ ∃ y x, s.index = [y] ∧ s.value = [x] ∧ Fx y ∧ Fx x) ∨
    (s.kind = 3 ∧ (∃ x, s.value = [x] ∧ Fx x) ∧ Pl s.label ∧ (∀ t ∈ s.thn, fineS n t) ∧ ∀ t ∈ s.els, fineS n t) ∨
    (s.kind = 4 ∧ (∃ x, s.value = [x] ∧ Fx x) ∧ Pl s.max ∧ Pl s.label ∧ (∀ t ∈ s.thn, fineS n t) ∧ s.els = []) ∨
    (s.kind = 5 ∧ nmOk s.name ∧ (∀ t ∈ s.thn, fineS n t) ∧ s.els = [])
theorem nameB_ok {s : ByteArray} : nameB s = true ↔ nmOk s := by
  unfold nameB nmOk
  rw [Bool.and_eq_true, Bool.not_eq_true']
theorem smallB_ok {n : Int} : smallB n = true ↔ -2147483647 ≤ n ∧ n ≤ 2147483647 := by
  unfold smallB
  rw [Bool.and_eq_true, decide_eq_true_eq, decide_eq_true_eq]; omega
theorem plainB_ok {n : Int} : plainB n = true ↔ Pl n := by
  unfold plainB Pl
  rw [Bool.and_eq_true, decide_eq_true_eq, decide_eq_true_eq]; omega
theorem shpF_ok : ∀ (F : Nat) (t : T), t.dep ≤ F → (shpF F t = true ↔ t.ok)
  | 0, t, h => by have : 1 ≤ t.dep := by rw [T.dep_args]; omega
                  omega
  | F + 1, t, h => by
    cases t with
    | nu n => simp only [shpF, T.ok]; exact smallB_ok
    | nm s => simp only [shpF, T.ok]; exact nameB_ok
    | ix s x =>
      simp only [T.dep] at h
      simp only [shpF, T.ok, Bool.and_eq_true, nameB_ok, shpF_ok F x (by omega)]
    | bn o a b =>
      simp only [T.dep] at h
      simp only [shpF, T.ok, Bool.and_eq_true, decide_eq_true_eq, shpF_ok F a (by omega), shpF_ok F b (by omega), and_assoc]
theorem oneB_ok {l : List T} (h : oneB l = true) (hd : l.any dpx = false) : ∃ x, l = [x] ∧ Fx x := by
  match l, h with
  | [x], h =>
    have hd : ¬ 8 < x.dep := by simpa [dpx] using hd
    exact ⟨x, rfl, (shpF_ok 20 x (by omega)).1 h, by omega⟩
theorem fine_of : ∀ (n F : Nat) (l : List Sm), n ≤ F → okSs F l = true → dpF n l = false → ∀ s ∈ l, fineS n s
  | 0, F, l, _, _, hd, s, hs => by
    cases l with
    | nil => cases hs
    | cons a l => cases hd
  | n + 1, 0, l, hle, _, _, s, hs => by omega
  | n + 1, F + 1, l, hle, ho, hd, s, hs => by
    have h1 : okOne (okSs F) s = true := List.all_eq_true.1 ho s hs
    have h2 : dpS (dpF n) s = false := by
      have := List.any_eq_false.1 hd s hs
      simpa using this
    simp only [dpS, Bool.or_eq_false_iff] at h2
    obtain ⟨⟨⟨d1, d2⟩, d3⟩, d4⟩ := h2
    have ht := fun h => fine_of n F s.thn (by omega) h d1
    have he := fun h => fine_of n F s.els (by omega) h d2
    unfold okOne at h1
    unfold fineS
    split at h1
    · rename_i hk
      simp only [Bool.and_eq_true] at h1
      exact .inl ⟨hk, nameB_ok.1 h1.1.1.1.1.1.1, oneB_ok h1.1.1.1.1.2 d4⟩
    split at h1
    · rename_i hk
      simp only [Bool.and_eq_true] at h1
      obtain ⟨y, hy, fy⟩ := oneB_ok h1.1.1.1.1.1.2 d3
      obtain ⟨x, hx, fx⟩ := oneB_ok h1.1.1.1.1.2 d4
      exact .inr (.inl ⟨hk, nameB_ok.1 h1.1.1.1.1.1.1, y, x, hy, hx, fy, fx⟩)
    split at h1
    · rename_i hk
      simp only [Bool.and_eq_true] at h1
      exact .inr (.inr (.inl ⟨hk, oneB_ok h1.1.1.1.1.2 d4, plainB_ok.1 h1.1.1.2, ht h1.1.2, he h1.2⟩))
    split at h1
    · rename_i hk
      simp only [Bool.and_eq_true, decide_eq_true_eq] at h1
      exact .inr (.inr (.inr (.inl ⟨hk, oneB_ok h1.1.1.1.1.2 d4, plainB_ok.1 h1.1.1.1.2, plainB_ok.1 h1.1.1.2, ht h1.1.2, List.eq_nil_of_length_eq_zero h1.2⟩)))
    split at h1
    · rename_i hk
      simp only [Bool.and_eq_true, decide_eq_true_eq] at h1
      exact .inr (.inr (.inr (.inr ⟨hk, nameB_ok.1 h1.1.1.1.1.1.1, ht h1.1.2, List.eq_nil_of_length_eq_zero h1.2⟩)))
    · cases h1

abbrev Ksp : ByteArray := ⟨#[32, 32]⟩
abbrev Kelse2 : ByteArray := ⟨#[125, 32, 101, 108, 115, 101, 32, 123, 10]⟩
abbrev Kclose : ByteArray := ⟨#[125, 10]⟩
abbrev Kopen : ByteArray := ⟨#[32, 123, 10]⟩
abbrev Kif2 : ByteArray := ⟨#[105, 102, 32]⟩
abbrev Klab : ByteArray := ⟨#[32, 108, 97, 98, 101, 108, 32]⟩
abbrev Kwh : ByteArray := ⟨#[119, 104, 105, 108, 101, 32]⟩
abbrev Kmx : ByteArray := ⟨#[32, 109, 97, 120, 32]⟩
abbrev Klk : ByteArray := ⟨#[108, 111, 99, 107, 32]⟩
abbrev Kst : ByteArray := ⟨#[32, 61, 32]⟩
abbrev Knl : ByteArray := ⟨#[10]⟩
abbrev Kx1 : ByteArray := ⟨#[91]⟩
abbrev Kx2 : ByteArray := ⟨#[93, 32, 61, 32]⟩
def tx1 : List T → ByteArray
  | x :: _ => textT x
  | [] => ⟨#[]⟩
/-- The first line of a statement, without the space ahead of it. -/
def hdT (s : Sm) : ByteArray :=
  if s.kind = 1 then ((s.name ++ Kst) ++ tx1 s.value) ++ Knl
  else if s.kind = 2 then ((((s.name ++ Kx1) ++ tx1 s.index) ++ Kx2) ++ tx1 s.value) ++ Knl
  else if s.kind = 3 then (((Kif2 ++ tx1 s.value) ++ Klab) ++ numS s.label) ++ Kopen
  else if s.kind = 4 then (((((Kwh ++ tx1 s.value) ++ Kmx) ++ numS s.max) ++ Klab) ++ numS s.label) ++ Kopen
  else (Klk ++ s.name) ++ Kopen
mutual
def stT (sp : ByteArray) : Sm → ByteArray
  | .mk k nm i v m lb t e =>
    if k = 1 ∨ k = 2 then sp ++ hdT (.mk k nm i v m lb t e)
    else (sp ++ hdT (.mk k nm i v m lb t e)) ++ stsT (sp ++ Ksp) t ++ (if e = [] then ⟨#[]⟩ else (sp ++ Kelse2) ++ stsT (sp ++ Ksp) e) ++ (sp ++ Kclose)
def stsT (sp : ByteArray) : List Sm → ByteArray
  | [] => ⟨#[]⟩
  | s :: l => stT sp s ++ stsT sp l
end
theorem ba_nil (X : ByteArray) : X ++ (⟨#[]⟩ : ByteArray) = X := by apply ByteArray.ext; simp
theorem nil_ba (X : ByteArray) : (⟨#[]⟩ : ByteArray) ++ X = X := by apply ByteArray.ext; simp
theorem stsT_app (sp : ByteArray) : ∀ l m : List Sm, stsT sp (l ++ m) = stsT sp l ++ stsT sp m
  | [], m => by rw [List.nil_append, stsT, nil_ba]
  | s :: l, m => by rw [List.cons_append, stsT, stsT, stsT_app sp l m, ByteArray.append_assoc]
theorem stsT_take (sp : ByteArray) {l : List Sm} {k : Nat} (h : k < l.length) : stsT sp (l.take (k + 1)) = stsT sp (l.take k) ++ stT sp l[k] := by
  rw [List.take_succ_eq_append_getElem h, stsT_app, stsT, stsT, ba_nil]
theorem stT_leaf (sp : ByteArray) {s : Sm} (h : s.kind = 1 ∨ s.kind = 2) : stT sp s = sp ++ hdT s := by
  cases s
  rw [stT]
  exact if_pos h
theorem stT_node (sp : ByteArray) {s : Sm} (h : ¬ (s.kind = 1 ∨ s.kind = 2)) : stT sp s = (sp ++ hdT s) ++ stsT (sp ++ Ksp) s.thn ++ (if s.els = [] then ⟨#[]⟩ else (sp ++ Kelse2) ++ stsT (sp ++ Ksp) s.els) ++ (sp ++ Kclose) := by
  cases s
  rw [stT]
  exact if_neg h

theorem Fx.size {x : T} (h : Fx x) : (textT x).size ≤ 25600 := by
  have h1 := text_size x h.1
  have h2 : 2 ^ x.dep ≤ 2 ^ 8 := Nat.pow_le_pow_right (by decide) h.2
  omega
theorem Pl.size {n : Int} (h : Pl n) : (numS n).size ≤ 21 := numS_size n (by have := h.1; omega) h.2
theorem hd_size {n : Nat} {s : Sm} (h : fineS n s) : (hdT s).size ≤ 51400 := by
  cases n with
  | zero => exact h.elim
  | succ n =>
    unfold fineS at h
    unfold hdT
    rcases h with ⟨hk, hn, x, hx, fx⟩ | ⟨hk, hn, y, x, hy, hx, fy, fx⟩ | ⟨hk, ⟨x, hx, fx⟩, hl, _⟩ | ⟨hk, ⟨x, hx, fx⟩, hm, hl, _⟩ | ⟨hk, hn, _⟩
    · have := name_size hn
      have := fx.size
      rw [if_pos hk, hx]
      simp only [tx1, ByteArray.size_append, show Kst.size = 3 from rfl, show Knl.size = 1 from rfl]
      omega
    · have := name_size hn
      have := fx.size
      have := fy.size
      rw [if_neg (by omega), if_pos hk, hx, hy]
      simp only [tx1, ByteArray.size_append, show Kx1.size = 1 from rfl, show Kx2.size = 4 from rfl, show Knl.size = 1 from rfl]
      omega
    · have := hl.size
      have := fx.size
      rw [if_neg (by omega), if_neg (by omega), if_pos hk, hx]
      simp only [tx1, ByteArray.size_append, show Kif2.size = 3 from rfl, show Klab.size = 7 from rfl, show Kopen.size = 3 from rfl]
      omega
    · have := hl.size
      have := hm.size
      have := fx.size
      rw [if_neg (by omega), if_neg (by omega), if_neg (by omega), if_pos hk, hx]
      simp only [tx1, ByteArray.size_append, show Kwh.size = 6 from rfl, show Kmx.size = 5 from rfl, show Klab.size = 7 from rfl, show Kopen.size = 3 from rfl]
      omega
    · have := name_size hn
      rw [if_neg (by omega), if_neg (by omega), if_neg (by omega), if_neg (by omega)]
      simp only [ByteArray.size_append, show Klk.size = 5 from rfl, show Kopen.size = 3 from rfl]
      omega
theorem sts_size_of {n : Nat} {sp : ByteArray} (h : ∀ s, fineS n s → (stT sp s).size ≤ 60000 * s.sz) : ∀ l : List Sm, (∀ s ∈ l, fineS n s) → (stsT sp l).size ≤ 60000 * Sm.szs l
  | [], _ => by simp [stsT, Sm.szs]; rfl
  | s :: l, hl => by
    have h1 := h s (hl s (by simp))
    have h2 := sts_size_of h l (fun t ht => hl t (by simp [ht]))
    rw [stsT, Sm.szs, ByteArray.size_append]
    omega
theorem st_size : ∀ (n : Nat) (sp : ByteArray) (s : Sm), fineS n s → sp.size + 2 * n ≤ 100 → (stT sp s).size ≤ 60000 * s.sz
  | 0, _, _, h, _ => h.elim
  | n + 1, sp, s, h, hsp => by
    have hh := hd_size h
    have ez := Sm.sz_eq s
    by_cases hk : s.kind = 1 ∨ s.kind = 2
    · rw [stT_leaf sp hk, ByteArray.size_append]; omega
    · have ih := sts_size_of (fun s hs => st_size n (sp ++ Ksp) s hs (by rw [ByteArray.size_append, show Ksp.size = 2 from rfl]; omega))
      have ht : ∀ t ∈ s.thn, fineS n t := by
        unfold fineS at h
        rcases h with h | h | h | h | h
        · exact absurd (.inl h.1) hk
        · exact absurd (.inr h.1) hk
        · exact h.2.2.2.1
        · exact h.2.2.2.2.1
        · exact h.2.2.1
      have he : ∀ t ∈ s.els, fineS n t := by
        unfold fineS at h
        rcases h with h | h | h | h | h
        · exact absurd (.inl h.1) hk
        · exact absurd (.inr h.1) hk
        · exact h.2.2.2.2
        · rw [h.2.2.2.2.2]; simp
        · rw [h.2.2.2]; simp
      have h1 := ih s.thn ht
      have h2 := ih s.els he
      rw [stT_node sp hk]
      split
      · simp only [ByteArray.size_append, show Kclose.size = 2 from rfl, show (⟨#[]⟩ : ByteArray).size = 0 from rfl]
        omega
      · simp only [ByteArray.size_append, show Kclose.size = 2 from rfl, show Kelse2.size = 9 from rfl]
        omega
theorem sts_size {n : Nat} {sp : ByteArray} {l : List Sm} (h : ∀ s ∈ l, fineS n s) (hsp : sp.size + 2 * n ≤ 100) : (stsT sp l).size ≤ 60000 * Sm.szs l := sts_size_of (fun s hs => st_size n sp s hs hsp) l h
theorem szs_take_succ {l : List Sm} {k : Nat} (h : k < l.length) : Sm.szs (l.take k) + l[k].sz ≤ Sm.szs l := by
  have h1 := Sm.szs_take l (k + 1)
  rw [List.take_succ_eq_append_getElem h, Sm.szs_app] at h1
  simp only [Sm.szs] at h1
  omega
end Go.Proofs.YtamajcgdfjeehaaGreatDoor
end

section
namespace Go.Proofs.YtamajcgdfjeehaaGreatDoor
open Go.Vc
attribute [local irreducible] JL JC JQ OpWp Con ConN
attribute [local irreducible] byteAt runLen isL isD isName hasW rd
set_option maxHeartbeats 4000000

theorem any_yes {α : Type} {p : α → Bool} {l : List α} {k : Nat} (h : k < l.length) (h2 : p l[k] = true) : l.any p = true := List.any_eq_true.2 ⟨l[k], List.getElem_mem h, h2⟩
theorem any_snoc {α : Type} {p : α → Bool} {l : List α} {k : Nat} (h : k < l.length) (h1 : (l.take k).any p = false) (h2 : p l[k] = false) : (l.take (k + 1)).any p = false := by
  rw [List.take_succ_eq_append_getElem h, List.any_append, h1]
  simp [h2]
def RDeepP (n : Nat) : Prop := ∀ l : List Sm, Con Tryz.prog 73 [.cell (.list (l.map Sm.row)), In .i64 (9 - (n : Int))] [] (fun K => K (Bl (dpF n l)) [])
theorem rdeep_zero : RDeepP 0 := by
  intro l
  cases l with
  | nil =>
    have eL : (([] : List Sm).map Sm.row).length = 0 := rfl
    refine con_intro Tryz.func73 rfl rfl (Nat.le_of_ble_eq_true rfl) (fun c hc => R_ (E_ r_ (T_ (am_ (R_ (E_ r_ (T_ (au_ (jc_loopS (ι := Unit) [] (fun _ => True) (fun _ => [(0, .cell (.list (([] : List Sm).map Sm.row))), (1, In .i64 (9 - ((0 : Nat) : Int))), (5, In .i64 0)]) (fun _ => []) (fun _ => 0) () trivial ?_ ?_ ?_)))))))))
    · exact sub_end
    · (repeat (first | exact True.intro | refine ⟨rfl, ?_⟩))
    intro _ _
    refine am_ (R_ (M_ r_ (M_ r_ (o_ r_ (br_ r_ (fun hlen => o_ r_ (bw_ r_ r_ (T_ (ap_ r_ r_ (av_ (ax_ (ax_ (ba_ (al_ (R_ (E_ r_ (T_ ?_)))))))))))))))))
    refine ar_ (jq_ret1 rfl rfl [] rfl (fun K h => h))
  | cons s l =>
    have eL : (((s :: l).map Sm.row).length : Int) = (l.length : Int) + 1 := by simp
    refine con_intro Tryz.func73 rfl rfl (Nat.le_of_ble_eq_true rfl) (fun c hc => R_ (E_ r_ (T_ (am_ (R_ (E_ r_ (T_ (au_ (jc_loopS (ι := Unit) [] (fun _ => True) (fun _ => [(0, .cell (.list ((s :: l).map Sm.row))), (1, In .i64 (9 - ((0 : Nat) : Int))), (5, In .i64 0)]) (fun _ => []) (fun _ => 0) () trivial ?_ ?_ ?_)))))))))
    · exact sub_end
    · (repeat (first | exact True.intro | refine ⟨rfl, ?_⟩))
    intro _ _
    refine am_ (R_ (M_ r_ (M_ r_ (o_ r_ (br_ r_ (fun hlen => o_ r_ (bw_ r_ r_ (T_ (aq_ r_ t_ (as_ (al_ (B_ (am_ (R_ (M_ r_ (o_ r_ (bz_ r_ r_ (M_ r_ ?_))))))))))))))))))
    refine ai_ r_ r_ b_ (ai_ r_ r_ b_ (ai_ r_ r_ b_ (ai_ r_ r_ b_ (ai_ r_ r_ b_ (ai_ r_ r_ b_ (ai_ r_ r_ b_ (ai_ r_ r_ b_ (o_ r_ (bp_ r_ r_ r_ (M_ r_ (ai_ r_ r_ b_ (ai_ r_ r_ b_ (ai_ r_ r_ b_ (ai_ r_ r_ b_ (ai_ r_ r_ b_ (ai_ r_ r_ b_ ?_))))))))))))))))
    refine ai_ r_ r_ b_ (ai_ r_ r_ b_ (o_ r_ (bp_ r_ r_ r_ (T_ (aq_ r_ r_ (R_ (E_ r_ (T_ (ar_ (aw_ (az_ (aw_ (aw_ (az_ (aw_ (jq_ret1 rfl rfl [] rfl (fun K h => h)))))))))))))))))
theorem rdeep_succ (n : Nat) (hn : n + 1 ≤ 8) (ih : RDeepP n) : RDeepP (n + 1) := by
  intro l
  have hF1 : (9 - ((n + 1 : Nat) : Int) + 1) = 9 - (n : Int) := by omega
  have hF2 : ¬ 8 < (9 - ((n + 1 : Nat) : Int)) := by omega
  have hF3 : 0 ≤ (9 - ((n + 1 : Nat) : Int)) ∧ (9 - ((n + 1 : Nat) : Int)) ≤ 8 := by omega
  generalize (9 - ((n + 1 : Nat) : Int)) = d at hF1 hF2 hF3 ⊢
  have hI := fun m => ih m
  rw [← hF1] at hI
  clear ih
  have eL : (l.map Sm.row).length = l.length := List.length_map _
  refine con_intro Tryz.func73 rfl rfl (Nat.le_of_ble_eq_true rfl) (fun c hc => R_ (E_ r_ (T_ (am_ (R_ (E_ r_ (T_ (au_ (jc_loopS (ι := Nat) [] (fun k => k ≤ l.length ∧ (l.take k).any (dpS (dpF n)) = false) (fun k => [(0, .cell (.list (l.map Sm.row))), (1, In .i64 d), (5, In .i64 (k : Int))]) (fun _ => []) (fun k => l.length - k) 0 ⟨Nat.zero_le _, rfl⟩ ?_ ?_ ?_)))))))))
  · exact sub_end
  · (repeat (first | exact True.intro | refine ⟨rfl, ?_⟩))
  rintro k ⟨hk, hallS⟩
  by_cases hlt : k < l.length
  · have hlt2 : (k : Int) < ((l.map Sm.row).length : Int) := by omega
    refine am_ (R_ (M_ r_ (M_ r_ (o_ r_ (br_ r_ (fun hlen => o_ r_ (bw_ r_ r_ (T_ (aq_ r_ u_ (as_ (al_ (B_ (am_ (R_ (M_ r_ (o_ r_ (bz_ r_ r_ (M_ r_ ?_))))))))))))))))))
    refine ah_ r_ w_ b_ (bd_ r_ (ah_ r_ w_ b_ (bd_ r_ (ah_ r_ w_ b_ (cc_ r_ r_ g_ (Sm.row_eq _) r_ b_ (ah_ r_ w_ b_ (cf_ r_ r_ r_ b_ r_ b_ (ah_ r_ w_ b_ (cb_ r_ r_ (ah_ r_ w_ b_ (bd_ r_ (ah_ r_ w_ b_ (bj_ r_ r_ g_ (ah_ r_ w_ b_ (bm_ r_ (hI _) (o_ r_ (bv_ r_ w_ r_ (M_ r_ (jl_or 8 12 rfl rfl rfl rfl (nb rfl) ?_)))))))))))))))))))
    apply Exists.intro
    refine ⟨fun hb1 => ?_, ?_⟩
    exact ah_ r_ h_ b_ (bd_ r_ (ah_ r_ h_ b_ (bd_ r_ (ah_ r_ h_ b_ (cc_ r_ r_ g_ (Sm.row_eq _) r_ b_ (ah_ r_ h_ b_ (cf_ r_ r_ r_ b_ r_ b_ (ah_ r_ h_ b_ (cb_ r_ r_ (ah_ r_ h_ b_ (bd_ r_ (ah_ r_ h_ b_ (bj_ r_ r_ g_ (ah_ r_ h_ b_ (bm_ r_ (hI _) (ak_ (jq_seg 8 rfl rfl rfl (List.Perm.refl _))))))))))))))))))
    refine T_ (jc_cond rfl (fun hy => ?_) (fun hn => ?_))
    · have hres : dpF (n + 1) l = true := any_yes hlt (by unfold dpS; rw [hy]; rfl)
      refine R_ (E_ r_ (T_ (ar_ (aw_ (az_ (aw_ (aw_ (az_ (aw_ (jq_ret1 rfl rfl [] rfl (fun K h => by rw [hres] at h; exact h)))))))))))
    refine as_ (al_ (am_ (jc_cut (ι := Unit) [] (fun _ => (l[k].index).any dpx = false) (fun _ => [(0, .cell (.list (l.map Sm.row))), (1, In .i64 d), (5, In .i64 (k : Int))]) (fun _ => []) ?_ ?_)))
    · refine R_ (E_ r_ (T_ (au_ (jc_loopS (ι := Nat) [] (fun q => q ≤ (l[k].index).length ∧ ((l[k].index).take q).any dpx = false) (fun q => (6, In .i64 (q : Int)) :: [(0, .cell (.list (l.map Sm.row))), (1, In .i64 d), (5, In .i64 (k : Int))]) (fun _ => []) (fun q => (l[k].index).length - q) 0 ⟨Nat.zero_le _, rfl⟩ ?_ ?_ ?_))))
      · exact sub_end
      · (repeat (first | exact True.intro | refine ⟨rfl, ?_⟩))
      rintro q ⟨hq, hall⟩
      have eF : ((l[k].index).map T.row).length = (l[k].index).length := List.length_map _
      by_cases hltq : q < (l[k].index).length
      · have hltq2 : (q : Int) < (((l[k].index).map T.row).length : Int) := by omega
        have hrd := rd_eq 20 (l[k].index)[q] (Nat.le_refl _)
        by_cases hd : 8 < (l[k].index)[q].dep
        · have hd2 : (8 : Int) < (rd 20 (l[k].index)[q] : Int) := by omega
          have hyes : (l[k].index).any dpx = true := any_yes hltq (by unfold dpx; exact decide_eq_true hd)
          have hres : dpF (n + 1) l = true := any_yes hlt (by unfold dpS; rw [hyes]; simp)
          refine am_ (R_ (M_ r_ (M_ r_ (M_ r_ (o_ r_ (cc_ r_ r_ g_ (Sm.row_eq _) r_ b_ (o_ r_ (cf_ r_ r_ r_ b_ r_ b_ (o_ r_ (cb_ r_ r_ (o_ r_ (br_ r_ (fun hlen => o_ r_ (bw_ r_ r_ (T_ (aq_ r_ u_ (as_ (al_ (B_ (R_ ?_))))))))))))))))))))
          refine M_ r_ (M_ r_ (o_ r_ (cc_ r_ r_ g_ (Sm.row_eq _) r_ b_ (o_ r_ (cf_ r_ r_ r_ b_ r_ b_ (o_ r_ (cb_ r_ r_ (M_ r_ (o_ r_ (cc_ r_ r_ g_ (T.row_eq _) r_ b_ (o_ r_ (cr_ r_ r_ r_ (o_ r_ (bm_ r_ (RDepth_c _) (o_ r_ (bz_ r_ r_ (T_ (aq_ r_ u_ (R_ (E_ r_ (T_ (ar_ ?_))))))))))))))))))))))
          refine az_ (aw_ (aw_ (az_ (aw_ (az_ (aw_ (aw_ (az_ (aw_ (jq_ret1 rfl rfl [] rfl (fun K h => by rw [hres] at h; exact h)))))))))))
        · have hd2 : ¬ (8 : Int) < (rd 20 (l[k].index)[q] : Int) := by omega
          refine am_ (R_ (M_ r_ (M_ r_ (M_ r_ (o_ r_ (cc_ r_ r_ g_ (Sm.row_eq _) r_ b_ (o_ r_ (cf_ r_ r_ r_ b_ r_ b_ (o_ r_ (cb_ r_ r_ (o_ r_ (br_ r_ (fun hlen => o_ r_ (bw_ r_ r_ (T_ (aq_ r_ u_ (as_ (al_ (B_ (R_ ?_))))))))))))))))))))
          refine M_ r_ (M_ r_ (o_ r_ (cc_ r_ r_ g_ (Sm.row_eq _) r_ b_ (o_ r_ (cf_ r_ r_ r_ b_ r_ b_ (o_ r_ (cb_ r_ r_ (M_ r_ (o_ r_ (cc_ r_ r_ g_ (T.row_eq _) r_ b_ (o_ r_ (cr_ r_ r_ r_ (o_ r_ (bm_ r_ (RDepth_c _) (o_ r_ (bz_ r_ r_ (T_ (ap_ r_ w_ (as_ (ay_ (al_ (an_ ?_))))))))))))))))))))))
          refine M_ r_ (o_ r_ (bj_ r_ r_ g_ (E_ r_ (ak_ (jq_againS (q + 1) ⟨hltq, any_snoc hltq hall (by unfold dpx; exact decide_eq_false hd)⟩ g_ ?_ ?_)))))
          · exact sub_end
          · (repeat (first | exact True.intro | refine ⟨rfl, ?_⟩))
      · have hltq2 : ¬ (q : Int) < (((l[k].index).map T.row).length : Int) := by omega
        refine am_ (R_ (M_ r_ (M_ r_ (M_ r_ (o_ r_ (cc_ r_ r_ g_ (Sm.row_eq _) r_ b_ (o_ r_ (cf_ r_ r_ r_ b_ r_ b_ (o_ r_ (cb_ r_ r_ (o_ r_ (br_ r_ (fun hlen => o_ r_ (bw_ r_ r_ (T_ (ap_ r_ w_ (av_ (ax_ (ax_ (ba_ ?_))))))))))))))))))))
        refine jq_cutS () (by rw [List.take_of_length_le g_] at hall; exact hall) ?_ ?_
        · exact sub_end
        · (repeat (first | exact True.intro | refine ⟨rfl, ?_⟩))
    intro _ hi1
    refine R_ (E_ r_ (T_ (au_ (jc_loopS (ι := Nat) [] (fun q => q ≤ (l[k].value).length ∧ ((l[k].value).take q).any dpx = false) (fun q => (7, In .i64 (q : Int)) :: [(0, .cell (.list (l.map Sm.row))), (1, In .i64 d), (5, In .i64 (k : Int))]) (fun _ => []) (fun q => (l[k].value).length - q) 0 ⟨Nat.zero_le _, rfl⟩ ?_ ?_ ?_))))
    · exact sub_end
    · (repeat (first | exact True.intro | refine ⟨rfl, ?_⟩))
    rintro q ⟨hq, hall⟩
    have eF : ((l[k].value).map T.row).length = (l[k].value).length := List.length_map _
    by_cases hltq : q < (l[k].value).length
    · have hltq2 : (q : Int) < (((l[k].value).map T.row).length : Int) := by omega
      have hrd := rd_eq 20 (l[k].value)[q] (Nat.le_refl _)
      by_cases hd : 8 < (l[k].value)[q].dep
      · have hd2 : (8 : Int) < (rd 20 (l[k].value)[q] : Int) := by omega
        have hyes : (l[k].value).any dpx = true := any_yes hltq (by unfold dpx; exact decide_eq_true hd)
        have hres : dpF (n + 1) l = true := any_yes hlt (by unfold dpS; rw [hyes]; simp)
        refine am_ (R_ (M_ r_ (M_ r_ (M_ r_ (o_ r_ (cc_ r_ r_ g_ (Sm.row_eq _) r_ b_ (o_ r_ (cf_ r_ r_ r_ b_ r_ b_ (o_ r_ (cb_ r_ r_ (o_ r_ (br_ r_ (fun hlen => o_ r_ (bw_ r_ r_ (T_ (aq_ r_ u_ (as_ (al_ (B_ (R_ ?_))))))))))))))))))))
        refine M_ r_ (M_ r_ (o_ r_ (cc_ r_ r_ g_ (Sm.row_eq _) r_ b_ (o_ r_ (cf_ r_ r_ r_ b_ r_ b_ (o_ r_ (cb_ r_ r_ (M_ r_ (o_ r_ (cc_ r_ r_ g_ (T.row_eq _) r_ b_ (o_ r_ (cr_ r_ r_ r_ (o_ r_ (bm_ r_ (RDepth_c _) (o_ r_ (bz_ r_ r_ (T_ (aq_ r_ u_ (R_ (E_ r_ (T_ (ar_ ?_))))))))))))))))))))))
        refine az_ (aw_ (aw_ (az_ (az_ (aw_ (aw_ (az_ (aw_ (jq_ret1 rfl rfl [] rfl (fun K h => by rw [hres] at h; exact h))))))))))
      · have hd2 : ¬ (8 : Int) < (rd 20 (l[k].value)[q] : Int) := by omega
        refine am_ (R_ (M_ r_ (M_ r_ (M_ r_ (o_ r_ (cc_ r_ r_ g_ (Sm.row_eq _) r_ b_ (o_ r_ (cf_ r_ r_ r_ b_ r_ b_ (o_ r_ (cb_ r_ r_ (o_ r_ (br_ r_ (fun hlen => o_ r_ (bw_ r_ r_ (T_ (aq_ r_ u_ (as_ (al_ (B_ (R_ ?_))))))))))))))))))))
        refine M_ r_ (M_ r_ (o_ r_ (cc_ r_ r_ g_ (Sm.row_eq _) r_ b_ (o_ r_ (cf_ r_ r_ r_ b_ r_ b_ (o_ r_ (cb_ r_ r_ (M_ r_ (o_ r_ (cc_ r_ r_ g_ (T.row_eq _) r_ b_ (o_ r_ (cr_ r_ r_ r_ (o_ r_ (bm_ r_ (RDepth_c _) (o_ r_ (bz_ r_ r_ (T_ (ap_ r_ w_ (as_ (ay_ (al_ (an_ ?_))))))))))))))))))))))
        refine M_ r_ (o_ r_ (bj_ r_ r_ g_ (E_ r_ (ak_ (jq_againS (q + 1) ⟨hltq, any_snoc hltq hall (by unfold dpx; exact decide_eq_false hd)⟩ g_ ?_ ?_)))))
        · exact sub_end
        · (repeat (first | exact True.intro | refine ⟨rfl, ?_⟩))
    · have hltq2 : ¬ (q : Int) < (((l[k].value).map T.row).length : Int) := by omega
      refine am_ (R_ (M_ r_ (M_ r_ (M_ r_ (o_ r_ (cc_ r_ r_ g_ (Sm.row_eq _) r_ b_ (o_ r_ (cf_ r_ r_ r_ b_ r_ b_ (o_ r_ (cb_ r_ r_ (o_ r_ (br_ r_ (fun hlen => o_ r_ (bw_ r_ r_ (T_ (ap_ r_ w_ (av_ (ax_ (ax_ (ba_ ?_))))))))))))))))))))
      refine ay_ (al_ (an_ (M_ r_ (o_ r_ (bj_ r_ r_ g_ (E_ r_ (ak_ ?_)))))))
      rw [List.take_of_length_le (by omega)] at hall
      have hS : dpS (dpF n) l[k] = false := by unfold dpS; rw [hn, hi1, hall]; rfl
      refine jq_againS (k + 1) ⟨hlt, any_snoc hlt hallS hS⟩ g_ ?_ ?_
      · exact sub_end
      · (repeat (first | exact True.intro | refine ⟨rfl, ?_⟩))
  · have hlt2 : ¬ (k : Int) < ((l.map Sm.row).length : Int) := by omega
    have hres : dpF (n + 1) l = false := by rw [List.take_of_length_le (by omega)] at hallS; exact hallS
    refine am_ (R_ (M_ r_ (M_ r_ (o_ r_ (br_ r_ (fun hlen => o_ r_ (bw_ r_ r_ (T_ (ap_ r_ w_ (av_ (ax_ (ax_ (ba_ (al_ (R_ (E_ r_ (T_ ?_)))))))))))))))))
    refine ar_ (jq_ret1 rfl rfl [] rfl (fun K h => by rw [hres] at h; exact h))
theorem rdeep_c : ∀ n : Nat, n ≤ 8 → RDeepP n
  | 0, _ => rdeep_zero
  | n + 1, h => rdeep_succ n h (rdeep_c n (by omega))
theorem rDeep_c (l : List Sm) : Con Tryz.prog 34 [.cell (.list (l.map Sm.row))] [] (fun K => K (Bl (dpF 8 l)) []) := by
  have h := rdeep_c 8 (Nat.le_refl _) l
  refine con_intro Tryz.func34 rfl rfl (Nat.le_of_ble_eq_true rfl) (fun c hc => R_ (E_ r_ (T_ (R_ (M_ r_ (o_ r_ (bm_ r_ (h) (E_ r_ (T_ (ar_ (jq_ret1 rfl rfl [] rfl (fun K h => h))))))))))))
end Go.Proofs.YtamajcgdfjeehaaGreatDoor
end

section
namespace Go.Vc
open Go.RowKit

theorem append_string_new {P : Program} (w : World) (t u ty e : TypeId) (i : TypeInfo) (ht : P.underlying t = some (.slice e)) (hu : P.underlying u = some .string) (hi : P.info? e = some i) (hz : i.zero = some (.int .u8 0))
    (hsize : i.size = 1) (hby : i.bytes = 1) (v : Value) (n : Nat) (xs : List Value) (hown : w.ownsRow 0 e 1 v n xs) (s : ByteArray) (hbytes : n + s.size ≤ 140737488355328) {v' : Value} {w' : World}
    (hrun : (Builtin.append_ #[t, u] ty #[v, .string s]).run P w = .ok v' w') : ∀ b, v'.ownBlock = some b → v.ownBlock = some b ∨ w.heap.size ≤ b := by
  have hxl : xs.length = n := by simpa using hown.1
  intro b hb
  rcases hown.2 with ⟨rfl, rfl⟩ | ⟨g, cap, cur, rfl, hbg, hg, hnc, hcm, hcs, htake⟩
  · by_cases hm : s.size = 0
    · have hf := Lib.run_firstCells_string (P := P) w 1 s
      rw [hm] at hf
      have hn : Lib.strCells s = [] := List.eq_nil_of_length_eq_zero (by rw [Lib.strCells_length]; exact hm)
      simp [Builtin.append_, run_underlying ht, run_underlying hu, sizeOf, typeInfo, hi, hsize, Builtin.lenOf, hm, hf, hn] at hrun
      rw [← hrun.1] at hb
      simp [Value.ownBlock] at hb
    · have hr := run_append_nil_string (P := P) w t u ty e i (.int .u8 0) ht hu hi hz s (by omega) (by omega) (by rw [hby]; omega)
      rw [hr] at hrun
      simp only [Result.ok.injEq] at hrun
      rw [← hrun.1] at hb
      simp only [Value.ownBlock, Option.some.injEq] at hb
      exact .inr (by omega)
  · by_cases hroom : n + s.size ≤ cap
    · have hcs' : cur.size = cap := by simpa using hcs
      have hr := Lib.run_append_room_string (P := P) w t u ty e i ht hu hi hsize g n cap cur hg s hroom (by omega)
      rw [hr] at hrun
      simp only [Result.ok.injEq] at hrun
      rw [← hrun.1] at hb
      exact .inl hb
    · have holds : ∀ j u, xs[j]? = some u → w.cell? ((⟨g, 0, none⟩ : Addr).add j) = some u := hown.cells (g := g) rfl
      have hr := Lib.run_append_grow_string (P := P) w t u ty e i (.int .u8 0) ht hu hi hz ⟨g, 0, none⟩ n cap xs (by rw [hsize]; simpa using hxl) holds s (by omega) (by omega) (by rw [hby]; exact growslice_fits (by omega) (by omega))
      rw [hr] at hrun
      simp only [Result.ok.injEq] at hrun
      rw [← hrun.1] at hb
      simp only [Value.ownBlock, Option.some.injEq] at hb
      exact .inr (by omega)
theorem rdRows_bytes {w : World} {A : Nat → Prop} (s : ByteArray) : RdRows w A 1 ((bytesI s).map Brow) (Lib.strCells s) := by
  have : ∀ l : List UInt8, RdRows w A 1 ((l.map fun b => (b.toNat : Int)).map Brow) (l.map fun b => Value.int .u8 b.toNat) := by
    intro l
    induction l with
    | nil => rfl
    | cons b l ih => exact ⟨[.int .u8 b.toNat], _, rfl, rfl, ⟨_, _, rfl, ⟨rfl, rfl⟩, rfl⟩, ih⟩
  exact this s.data.toList
theorem ba_lit (l : List UInt8) : (⟨l.toArray⟩ : ByteArray).size = l.length := rfl
theorem bytesI_app (s t : ByteArray) : bytesI (s ++ t) = bytesI s ++ bytesI t := by simp [bytesI]
theorem bytesOf_bytesI (s : ByteArray) : bytesOf (bytesI s) = s := by
  have h1 : ∀ (l : List UInt8) (r : ByteArray), (l.map fun b => (b.toNat : Int)).foldl (fun r n => r.push (UInt8.ofNat n.toNat)) r = r ++ ⟨l.toArray⟩ := by
    intro l
    induction l with
    | nil => intro r; apply ByteArray.ext; simp
    | cons b l ih =>
      intro r
      rw [List.map_cons, List.foldl_cons, ih]
      apply ByteArray.ext
      simp [ByteArray.push]
  have h2 := h1 s.data.toList ByteArray.empty
  unfold bytesOf bytesI
  rw [h2]
  apply ByteArray.ext
  simp
section
variable {P : Program} [Gl P] {nt : Nat} {c : Cx P nt} {env : Env} {H : List Ch} {K : S → List Ch → Prop}
variable {d : Option Tmp} {ty t u : TypeId} {pos : String} {af : Array Edge} {g : Option (Nat × Bool)} {x y : Operand}
theorem ow_appendS {v : Value} {X s : ByteArray} {e : TypeId} {Hr : List Ch} [SL P t] [TI P u] (j : Nat) (hu : TI.u P u = .string) (hx : env.ev x = some (.cell (.val v))) (hy : env.ev y = some (Str s)) (hp : pick [j] H = some ([.own v e 1 ((bytesI X).map Brow)], Hr)) (he : e = SL.e P t)
    (hz : (TI.i P (SL.e P t)).zero = some (.int .u8 0)) (hsz : (TI.i P (SL.e P t)).size = 1) (hby : (TI.i P (SL.e P t)).bytes = 1) (hlim : X.size + s.size ≤ 140737488355328)
    (hK : ∀ v', (c.Fresh v → c.Fresh v') → K (.cell (.val v')) (.own v' e 1 ((bytesI (X ++ s)).map Brow) :: Hr)) :
    OpWp c ⟨d, .call { callee := .builtin .append, args := #[x, y], argTypes := #[t, u] }, ty, pos, af, g⟩ env H K := by
  subst he
  intro a w h next Q hn
  have hperm := pick_perm hp
  have h' : StW c (.own v (SL.e P t) 1 ((bytesI X).map Brow) :: Hr) w := h.heap.perm hperm
  have hav : c.av (.own v (SL.e P t) 1 ((bytesI X).map Brow) :: Hr) = c.av H := av_perm c hperm
  obtain ⟨vs, ho, hr, hk⟩ := h'.ok (.own v (SL.e P t) 1 ((bytesI X).map Brow)) (by simp)
  have h1x := ev_val h hx
  have h1y := ev_val h hy
  have eX : ((bytesI X).map Brow).length = X.size := by rw [List.length_map, bytesI_len]
  rw [eX] at ho
  have hu' : P.underlying u = some .string := by rw [TI.hu (P := P) (t := u), hu]
  obtain ⟨v', w', hrun, ho', hg, _⟩ := Lib.run_append_own_string (P := P) w 0 t u ty (SL.e P t) (TI.i P (SL.e P t)) SL.hs hu' TI.hi hz hsz hby v X.size vs ho s (by unfold maxLen; omega) hlim (Nat.zero_le _)
  have hnew := append_string_new (P := P) w t u ty (SL.e P t) (TI.i P (SL.e P t)) SL.hs hu' TI.hi hz hsz hby v X.size vs ho s hlim hrun
  have hgr : Grow (hb [.own v (SL.e P t) 1 ((bytesI X).map Brow)]) w w' := by
    have := Grow.of_grownBy hg
    simpa [hb, Ch.bs] using this
  have hAold : ∀ b, c.av (.own v' (SL.e P t) 1 ((bytesI (X ++ s)).map Brow) :: Hr) b → c.av H b ∨ w.heap.size ≤ b := by
    intro b hbm
    rcases hbm with hbm | hbm
    · exact .inl (.inl hbm)
    · simp only [hb_cons, Ch.bs, List.mem_append, Option.mem_toList] at hbm
      rw [← hav]
      rcases hbm with hbm | hbm
      · rcases hnew b hbm with h1 | h1
        · exact .inl (.inr (by simp [hb_cons, Ch.bs, h1]))
        · exact .inr h1
      · exact .inl (.inr (by simp only [hb_cons, List.mem_append]; exact .inr hbm))
  have hupA : Up (c.av H) w w' := by
    refine hgr.up (fun b hbm => ?_)
    rw [← hav]
    exact .inr (by simp only [hb, List.flatMap_cons, List.flatMap_nil, List.append_nil] at hbm; simp only [hb_cons, List.mem_append]; exact .inl hbm)
  obtain ⟨s1, s2⟩ := StW.step (H1 := [.own v (SL.e P t) 1 ((bytesI X).map Brow)]) (H1' := [.own v' (SL.e P t) 1 ((bytesI (X ++ s)).map Brow)]) h' hgr
    (by
      intro b hbm
      simp only [hb, Ch.bs, List.flatMap_cons, List.flatMap_nil, List.append_nil, Option.mem_toList] at hbm ⊢
      exact hnew b hbm)
    (by cases hv : v'.ownBlock <;> simp [hb, Ch.bs, hv])
    (by
      intro ch hch
      simp only [List.mem_singleton] at hch
      subst hch
      refine ⟨vs ++ Lib.strCells s, ?_, ?_, hk⟩
      · rw [List.length_map, bytesI_len, ByteArray.size_append]; exact ho'
      · rw [bytesI_app, List.map_append]
        exact rdRows_append (rdRows_up hupA hAold 1 _ vs (hav ▸ hr)) (rdRows_bytes s))
  unfold Oper.wp
  have hex : (execOp a.eval ⟨d, .call { callee := .builtin .append, args := #[x, y], argTypes := #[t, u] }, ty, pos, af, g⟩).run P w = .ok (.value v') w' := by
    simp only [execOp, resolve, invoke, builtin, Sem.run_bind, Sem.run_pure, Result.andThen_ok, List.map_toArray, List.map_cons, List.map_nil, h1x, h1y, hrun]
  rw [hex]
  obtain ⟨al, ac, hv'⟩ := own_len ho'
  have h1' : v'.oneCell' = true := by rw [hv']; rfl
  exact hn _ _ _ _ (hK v' (fun hf b hb => (hnew b hb).elim (hf b) (fun h => Nat.le_trans h'.size h))) s1 ⟨rfl, h1'⟩ (fun s v hs => s2 s v (by rw [List.singleton_append, hav]; exact hs))
end
end Go.Vc
end

section
namespace Go.Proofs.YtamajcgdfjeehaaGreatDoor
open Go.Vc
attribute [local irreducible] JL JC JQ OpWp Con ConN
attribute [local irreducible] byteAt runLen isL isD isName hasW rd fineS numS textT hdT stsT stT
set_option maxHeartbeats 4000000

abbrev Bw (v : Value) (X : ByteArray) : Ch := .own v 5 1 ((bytesI X).map Brow)
def RBody (n : Nat) : Prop := ∀ (l : List Sm) (sp X : ByteArray) (v : Value), (∀ s ∈ l, fineS n s) → sp.size + 2 * n ≤ 100 → X.size + 60000 * Sm.szs l ≤ 100000000000000 →
  Con Tryz.prog 36 [.cell (.val v), .cell (.list (l.map Sm.row)), Str sp] [Bw v X] (fun K => ∀ v' : Value, True → K (.cell (.val v')) [Bw v' (X ++ stsT sp l)])
theorem hdT1 {s : Sm} {x : T} (hk : s.kind = 1) (hv : s.value = [x]) : hdT s = ((s.name ++ Kst) ++ textT x) ++ Knl := by unfold hdT; rw [if_pos hk, hv]; rfl
theorem hdT2 {s : Sm} {x y : T} (hk : s.kind = 2) (hi : s.index = [y]) (hv : s.value = [x]) : hdT s = ((((s.name ++ Kx1) ++ textT y) ++ Kx2) ++ textT x) ++ Knl := by unfold hdT; rw [if_neg (by omega), if_pos hk, hv, hi]; rfl
theorem hdT3 {s : Sm} {x : T} (hk : s.kind = 3) (hv : s.value = [x]) : hdT s = (((Kif2 ++ textT x) ++ Klab) ++ numS s.label) ++ Kopen := by unfold hdT; rw [if_neg (by omega), if_neg (by omega), if_pos hk, hv]; rfl
theorem hdT4 {s : Sm} {x : T} (hk : s.kind = 4) (hv : s.value = [x]) : hdT s = (((((Kwh ++ textT x) ++ Kmx) ++ numS s.max) ++ Klab) ++ numS s.label) ++ Kopen := by unfold hdT; rw [if_neg (by omega), if_neg (by omega), if_neg (by omega), if_pos hk, hv]; rfl
theorem hdT5 {s : Sm} (hk : s.kind = 5) : hdT s = (Klk ++ s.name) ++ Kopen := by unfold hdT; rw [if_neg (by omega), if_neg (by omega), if_neg (by omega), if_neg (by omega)]
theorem row1 {s : Sm} {x : T} (h : s.value = [x]) : s.row' = [.val (.int .i64 s.kind), .val (.string s.name), .list (s.index.map T.row), .list ([x].map T.row), .val (.int .i64 s.max), .val (.int .i64 s.label), .list (s.thn.map Sm.row), .list (s.els.map Sm.row)] := by
  rw [← h]
theorem row2 {s : Sm} {x y : T} (hi : s.index = [y]) (h : s.value = [x]) : s.row' = [.val (.int .i64 s.kind), .val (.string s.name), .list ([y].map T.row), .list ([x].map T.row), .val (.int .i64 s.max), .val (.int .i64 s.label), .list (s.thn.map Sm.row), .list (s.els.map Sm.row)] := by
  rw [← h, ← hi]
theorem rtextF_c {t : T} (h : Fx t) : Con Tryz.prog 75 [.row t.row'] [] (fun K => K (Str (textT t)) []) := rtext_c t h.1 (text_small h.1 h.2)
theorem rnumF_c {n : Int} (h : Pl n) : Con Tryz.prog 35 [In .i64 n] [] (fun K => K (Str (numS n)) []) := refNumber_c n ⟨by have := h.1; omega, h.2⟩
theorem rbody_step (n : Nat) (hrec : ∀ n', n = n' + 1 → RBody n') : RBody n := by
  intro l sp X v0 hfine hsp hX
  have eL : (l.map Sm.row).length = l.length := List.length_map _
  refine con_intro Tryz.func36 rfl rfl (Nat.le_of_ble_eq_true rfl) (fun c hc => R_ (E_ r_ (T_ (am_ (R_ (E_ r_ (T_ (au_ (jc_loopS (ι := Nat × Value) [] (fun i => i.1 ≤ l.length) (fun i => [(0, .cell (.val i.2)), (1, .cell (.list (l.map Sm.row))), (2, Str sp), (7, In .i64 (i.1 : Int))]) (fun i => [Bw i.2 (X ++ stsT sp (l.take i.1))]) (fun i => l.length - i.1) (0, v0) (Nat.zero_le _) ?_ ?_ ?_)))))))))
  · rw [show X ++ stsT sp (l.take 0) = X by rw [List.take_zero, stsT, ba_nil]]
    exact bc_ 0 r_ sub_end
  · (repeat (first | exact True.intro | refine ⟨rfl, ?_⟩))
  rintro ⟨k, v⟩ hk
  dsimp only at hk ⊢
  by_cases hlt : k < l.length
  · have hlt2 : (k : Int) < ((l.map Sm.row).length : Int) := by omega
    have hfk := hfine l[k] (List.getElem_mem hlt)
    have hszk := szs_take_succ hlt
    have hs0 := sts_size (l := l.take k) (fun s hs => hfine s (List.mem_of_mem_take hs)) hsp
    have hsk := st_size n sp l[k] hfk hsp
    have hYs : (X ++ stsT sp (l.take k)).size + 60000 * l[k].sz ≤ 100000000000000 := by rw [ByteArray.size_append]; omega
    have hnext : X ++ stsT sp (l.take (k + 1)) = (X ++ stsT sp (l.take k)) ++ stT sp l[k] := by rw [stsT_take sp hlt, ByteArray.append_assoc]
    generalize X ++ stsT sp (l.take k) = Y at hYs hnext ⊢
    have hz1 : 1 ≤ l[k].sz := by rw [Sm.sz_eq]; omega
    refine am_ (R_ (M_ r_ (M_ r_ (o_ r_ (br_ r_ (fun hlen => o_ r_ (bw_ r_ r_ (T_ (aq_ r_ u_ (as_ (al_ (B_ (R_ (M_ r_ (M_ r_ (o_ r_ (cc_ r_ r_ g_ (Sm.row_eq _) r_ b_ (o_ r_ (cr_ r_ r_ r_ ?_)))))))))))))))))))
    refine o_ r_ (bl_ r_ r_ (fun bl => S_ 0 r_ (T_ (R_ (M_ r_ (M_ r_ (o_ r_ (ow_appendS 1 rfl rfl rfl rfl rfl rfl rfl rfl g_ (fun v1 _ => E_ r_ (T_ (am_ ?_)))))))))))
    obtain ⟨s, hs⟩ : ∃ s, s = l[k] := ⟨_, rfl⟩
    rw [← hs] at hfk hsk hYs hnext hz1 ⊢
    have hhd := hd_size hfk
    have hY2 : (Y ++ sp).size = Y.size + sp.size := ByteArray.size_append ..
    obtain ⟨n', rfl⟩ : ∃ n', n = n' + 1 := by
      cases n with
      | zero => exact absurd hfk (by unfold fineS; exact id)
      | succ n => exact ⟨n, rfl⟩
    have hrec := hrec n' rfl
    unfold fineS at hfk
    refine jc_cut (ι := Value) [] (fun _ => 3 ≤ s.kind) (fun v => [(0, .cell (.val v)), (1, .cell (.list (l.map Sm.row))), (2, Str sp), (7, In .i64 (k : Int)), (8, .cell (.val (.pointer (some ⟨bl, 0, none⟩))))]) (fun v => [Bw v ((Y ++ sp) ++ hdT s), .blk bl 57 s.row']) ?_ ?_
    · rcases hfk with ⟨hk1, hn, x, hv, fx⟩ | ⟨hk1, hn, y, x, hi, hv, fy, fx⟩ | ⟨hk1, ⟨x, hv, fx⟩, hl, _⟩ | ⟨hk1, ⟨x, hv, fx⟩, hm, hl, _⟩ | ⟨hk1, hn, _⟩
      · rw [row1 hv]
        have ehd := hdT1 hk1 hv
        have e1 : [x].length = 1 := rfl
        have hxs := fx.size
        have hns := name_size hn
        have ht := rtextF_c fx
        refine R_ (F_ r_ (L_ 1 r_ (T_ (au_ (R_ (o_ r_ (bn_ r_ r_ (E_ r_ (T_ (aq_ r_ u_ (am_ (jc_anyB 11 none rfl k_ k_ (yM_ r_ (yF_ r_ (yL_ 1 r_ (aa_ (fun c => ow_strcat rfl rfl (by simp only [ByteArray.size_append, ba_lit, List.length_cons, List.length_nil] ; omega) p_) ?_))))))))))))))))
        refine yF_ r_ (yL_ 1 r_ (aa_ (fun c => cv_ r_ r_ g_ g_ (T.row_eq _) r_ b_ p_) (aa_ (fun c => cr_ r_ r_ r_ p_) (aa_ (fun c => bm_ r_ (ht) p_) (aa_ (fun c => ow_strcat rfl rfl (by simp only [ByteArray.size_append, ba_lit, List.length_cons, List.length_nil] ; omega) p_) (aa_ (fun c => ow_strcat rfl rfl (by simp only [ByteArray.size_append, ba_lit, List.length_cons, List.length_nil] ; omega) p_) (ae_ (afin_none ?_))))))))
        refine o_ r_ (ow_appendS 0 rfl rfl rfl rfl rfl rfl rfl rfl (by rw [← ehd] ; omega) (fun v1 _ => E_ r_ (T_ (av_ (bb_ r_ (ax_ (ba_ (al_ (an_ (M_ r_ (o_ r_ (bj_ r_ r_ g_ (E_ r_ (ak_ ?_))))))))))))))
        rw [← ehd]
        refine jq_againS (i := (k, v)) (k + 1, v1) hlt (by dsimp only; omega) ?_ ?_
        · dsimp only
          rw [hnext, stT_leaf sp (.inl hk1), ← ByteArray.append_assoc]
          exact bc_ 0 r_ sub_end
        · (repeat (first | exact True.intro | refine ⟨rfl, ?_⟩))
      · rw [row2 hi hv]
        have ehd := hdT2 hk1 hi hv
        have e1 : [x].length = 1 := rfl
        have e2 : [y].length = 1 := rfl
        have hxs := fx.size
        have hys := fy.size
        have hns := name_size hn
        have ht := rtextF_c fx
        have ht2 := rtextF_c fy
        refine R_ (F_ r_ (L_ 1 r_ (T_ (au_ (R_ (o_ r_ (bn_ r_ r_ (E_ r_ (T_ (ap_ r_ v_ (R_ (o_ r_ (bn_ r_ r_ (E_ r_ (T_ (aq_ r_ u_ (am_ ?_)))))))))))))))))
        refine jc_anyB 18 none rfl k_ k_ (yM_ r_ (yF_ r_ (yL_ 1 r_ (aa_ (fun c => ow_strcat rfl rfl (by simp only [ByteArray.size_append, ba_lit, List.length_cons, List.length_nil] ; omega) p_) (yF_ r_ (yL_ 1 r_ (aa_ (fun c => cv_ r_ r_ g_ g_ (T.row_eq _) r_ b_ p_) (aa_ (fun c => cr_ r_ r_ r_ p_) (aa_ (fun c => bm_ r_ (ht2) p_) ?_)))))))))
        refine aa_ (fun c => ow_strcat rfl rfl (by simp only [ByteArray.size_append, ba_lit, List.length_cons, List.length_nil] ; omega) p_) (aa_ (fun c => ow_strcat rfl rfl (by simp only [ByteArray.size_append, ba_lit, List.length_cons, List.length_nil] ; omega) p_) (yF_ r_ (yL_ 1 r_ (aa_ (fun c => cv_ r_ r_ g_ g_ (T.row_eq _) r_ b_ p_) (aa_ (fun c => cr_ r_ r_ r_ p_) (aa_ (fun c => bm_ r_ (ht) p_) ?_))))))
        refine aa_ (fun c => ow_strcat rfl rfl (by simp only [ByteArray.size_append, ba_lit, List.length_cons, List.length_nil] ; omega) p_) (aa_ (fun c => ow_strcat rfl rfl (by simp only [ByteArray.size_append, ba_lit, List.length_cons, List.length_nil] ; omega) p_) (ae_ (afin_none (o_ r_ (ow_appendS 0 rfl rfl rfl rfl rfl rfl rfl rfl (by rw [← ehd] ; omega) (fun v1 _ => E_ r_ (T_ (av_ (bb_ r_ (ax_ (ba_ (al_ (an_ ?_)))))))))))))
        refine M_ r_ (o_ r_ (bj_ r_ r_ g_ (E_ r_ (ak_ ?_))))
        rw [← ehd]
        refine jq_againS (i := (k, v)) (k + 1, v1) hlt (by dsimp only; omega) ?_ ?_
        · dsimp only
          rw [hnext, stT_leaf sp (.inr hk1), ← ByteArray.append_assoc]
          exact bc_ 0 r_ sub_end
        · (repeat (first | exact True.intro | refine ⟨rfl, ?_⟩))
      · rw [row1 hv]
        have ehd := hdT3 hk1 hv
        have e1 : [x].length = 1 := rfl
        have hxs := fx.size
        have hls := hl.size
        have ht := rtextF_c fx
        have hN := rnumF_c hl
        refine R_ (F_ r_ (L_ 1 r_ (T_ (au_ (R_ (o_ r_ (bn_ r_ r_ (E_ r_ (T_ (ap_ r_ v_ (R_ (o_ r_ (bn_ r_ r_ (E_ r_ (T_ (ap_ r_ v_ (R_ ?_)))))))))))))))))
        refine o_ r_ (bn_ r_ r_ (E_ r_ (T_ (aq_ r_ u_ (jc_anyB 13 none rfl k_ k_ (yM_ r_ (yF_ r_ (yL_ 1 r_ (aa_ (fun c => cv_ r_ r_ g_ g_ (T.row_eq _) r_ b_ p_) (aa_ (fun c => cr_ r_ r_ r_ p_) (aa_ (fun c => bm_ r_ (ht) p_) (aa_ (fun c => ow_strcat rfl rfl (by simp only [ByteArray.size_append, ba_lit, List.length_cons, List.length_nil] ; omega) p_) ?_))))))))))))
        refine aa_ (fun c => ow_strcat rfl rfl (by simp only [ByteArray.size_append, ba_lit, List.length_cons, List.length_nil] ; omega) p_) (yF_ r_ (yL_ 1 r_ (aa_ (fun c => bm_ r_ (hN) p_) (aa_ (fun c => ow_strcat rfl rfl (by simp only [ByteArray.size_append, ba_lit, List.length_cons, List.length_nil] ; omega) p_) ?_))))
        refine aa_ (fun c => ow_strcat rfl rfl (by simp only [ByteArray.size_append, ba_lit, List.length_cons, List.length_nil] ; omega) p_) (ae_ (afin_none (o_ r_ (ow_appendS 0 rfl rfl rfl rfl rfl rfl rfl rfl (by rw [← ehd] ; omega) (fun v1 _ => E_ r_ (ak_ (ay_ ?_)))))))
        rw [← ehd, ← row1 hv]
        refine jq_cutS v1 g_ ?_ ?_
        · exact bc_ 0 r_ (bc_ 0 r_ sub_end)
        · (repeat (first | exact True.intro | refine ⟨rfl, ?_⟩))
      · rw [row1 hv]
        have ehd := hdT4 hk1 hv
        have e1 : [x].length = 1 := rfl
        have hxs := fx.size
        have hls := hl.size
        have hms := hm.size
        have ht := rtextF_c fx
        have hN := rnumF_c hl
        have hM := rnumF_c hm
        refine R_ (F_ r_ (L_ 1 r_ (T_ (au_ (R_ (o_ r_ (bn_ r_ r_ (E_ r_ (T_ (ap_ r_ v_ (R_ (o_ r_ (bn_ r_ r_ (E_ r_ (T_ (ap_ r_ v_ (R_ ?_)))))))))))))))))
        refine o_ r_ (bn_ r_ r_ (E_ r_ (T_ (ap_ r_ v_ (R_ (o_ r_ (bn_ r_ r_ (E_ r_ (T_ (aq_ r_ u_ (jc_anyB 18 none rfl k_ k_ (yM_ r_ (yF_ r_ (yL_ 1 r_ (aa_ (fun c => cv_ r_ r_ g_ g_ (T.row_eq _) r_ b_ p_) (aa_ (fun c => cr_ r_ r_ r_ p_) (aa_ (fun c => bm_ r_ (ht) p_) ?_)))))))))))))))))
        refine aa_ (fun c => ow_strcat rfl rfl (by simp only [ByteArray.size_append, ba_lit, List.length_cons, List.length_nil] ; omega) p_) (aa_ (fun c => ow_strcat rfl rfl (by simp only [ByteArray.size_append, ba_lit, List.length_cons, List.length_nil] ; omega) p_) (yF_ r_ (yL_ 1 r_ (aa_ (fun c => bm_ r_ (hM) p_) ?_))))
        refine aa_ (fun c => ow_strcat rfl rfl (by simp only [ByteArray.size_append, ba_lit, List.length_cons, List.length_nil] ; omega) p_) (aa_ (fun c => ow_strcat rfl rfl (by simp only [ByteArray.size_append, ba_lit, List.length_cons, List.length_nil] ; omega) p_) (yF_ r_ (yL_ 1 r_ (aa_ (fun c => bm_ r_ (hN) p_) ?_))))
        refine aa_ (fun c => ow_strcat rfl rfl (by simp only [ByteArray.size_append, ba_lit, List.length_cons, List.length_nil] ; omega) p_) (aa_ (fun c => ow_strcat rfl rfl (by simp only [ByteArray.size_append, ba_lit, List.length_cons, List.length_nil] ; omega) p_) (ae_ (afin_none (o_ r_ (ow_appendS 0 rfl rfl rfl rfl rfl rfl rfl rfl (by rw [← ehd] ; omega) (fun v1 _ => E_ r_ (ak_ (ay_ ?_))))))))
        rw [← ehd, ← row1 hv]
        refine jq_cutS v1 g_ ?_ ?_
        · exact bc_ 0 r_ (bc_ 0 r_ sub_end)
        · (repeat (first | exact True.intro | refine ⟨rfl, ?_⟩))
      · have ehd := hdT5 hk1
        have hns := name_size hn
        refine R_ (F_ r_ (L_ 1 r_ (T_ (au_ (R_ (o_ r_ (bn_ r_ r_ (E_ r_ (T_ (ap_ r_ v_ (R_ (o_ r_ (bn_ r_ r_ (E_ r_ (T_ (ap_ r_ v_ (R_ ?_)))))))))))))))))
        refine o_ r_ (bn_ r_ r_ (E_ r_ (T_ (ap_ r_ v_ (R_ (o_ r_ (bn_ r_ r_ (E_ r_ (T_ (ap_ r_ v_ (an_ (M_ r_ (F_ r_ (L_ 1 r_ (o_ r_ (ow_strcat rfl rfl (by simp only [ByteArray.size_append, ba_lit, List.length_cons, List.length_nil] ; omega) (o_ r_ (ow_strcat rfl rfl (by simp only [ByteArray.size_append, ba_lit, List.length_cons, List.length_nil] ; omega) ?_))))))))))))))))))
        refine o_ r_ (ow_appendS 0 rfl rfl rfl rfl rfl rfl rfl rfl (by rw [← ehd] ; omega) (fun v1 _ => E_ r_ (ak_ (ay_ ?_))))
        rw [← ehd]
        refine jq_cutS v1 g_ ?_ ?_
        · exact bc_ 0 r_ (bc_ 0 r_ sub_end)
        · (repeat (first | exact True.intro | refine ⟨rfl, ?_⟩))
    intro v3 hk3
    have hk12 : ¬ (s.kind = 1 ∨ s.kind = 2) := by omega
    have hthn : ∀ t ∈ s.thn, fineS n' t := by
      rcases hfk with h | h | h | h | h
      · exact absurd (.inl h.1) hk12
      · exact absurd (.inr h.1) hk12
      · exact h.2.2.2.1
      · exact h.2.2.2.2.1
      · exact h.2.2.1
    have hels : ∀ t ∈ s.els, fineS n' t := by
      rcases hfk with h | h | h | h | h
      · exact absurd (.inl h.1) hk12
      · exact absurd (.inr h.1) hk12
      · exact h.2.2.2.2
      · rw [h.2.2.2.2.2]; simp
      · rw [h.2.2.2]; simp
    have ez := Sm.sz_eq s
    have hsp2 : (sp ++ Ksp).size = sp.size + 2 := by rw [ByteArray.size_append]; rfl
    have hZ : ((Y ++ sp) ++ hdT s).size = (Y ++ sp).size + (hdT s).size := ByteArray.size_append ..
    have e1 : stT sp s = (sp ++ hdT s) ++ stsT (sp ++ Ksp) s.thn ++ (if s.els = [] then ⟨#[]⟩ else (sp ++ Kelse2) ++ stsT (sp ++ Ksp) s.els) ++ (sp ++ Kclose) := stT_node sp hk12
    have hT := sts_size hthn (sp := sp ++ Ksp) (by omega)
    have hE := sts_size hels (sp := sp ++ Ksp) (by omega)
    clear hfk
    generalize hZe : (Y ++ sp) ++ hdT s = Zt at hZ ⊢
    have con1 := hrec s.thn (sp ++ Ksp) Zt v3 hthn (by omega) (by omega)
    have hZ2 : (Zt ++ stsT (sp ++ Ksp) s.thn).size = Zt.size + (stsT (sp ++ Ksp) s.thn).size := ByteArray.size_append ..
    have eE : (s.els.map Sm.row).length = s.els.length := List.length_map _
    refine R_ (M_ r_ (F_ r_ (L_ 1 r_ (M_ r_ (o_ r_ (ow_strcat rfl rfl (by simp only [ByteArray.size_append, ba_lit, List.length_cons, List.length_nil] ; omega) (o_ r_ (bt_ [0] rfl rfl (con1) (fun pp hpp => E_ r_ (T_ (am_ ?_)))))))))))
    generalize hZ2e : Zt ++ stsT (sp ++ Ksp) s.thn = Z2 at hZ2 ⊢
    by_cases hnil : s.els = []
    · have hz : ¬ (0 : Int) < ((s.els.map Sm.row).length : Int) := by rw [hnil]; simp
      refine R_ (F_ r_ (L_ 1 r_ (o_ r_ (br_ r_ (fun hlen => o_ r_ (bz_ r_ r_ (T_ (ap_ r_ w_ (as_ (al_ (an_ (M_ r_ (M_ r_ (o_ r_ (ow_strcat rfl rfl (by simp only [ByteArray.size_append, ba_lit, List.length_cons, List.length_nil] ; omega) (o_ r_ (ow_appendS 0 rfl rfl rfl rfl rfl rfl rfl rfl (by simp only [ByteArray.size_append, ba_lit, List.length_cons, List.length_nil] ; omega) (fun v1 _ => E_ r_ (ak_ ?_)))))))))))))))))))
      refine ay_ (al_ (an_ (M_ r_ (o_ r_ (bj_ r_ r_ g_ (E_ r_ (ak_ (jq_againS (i := (k, v)) (k + 1, v1) hlt (by dsimp only; omega) ?_ ?_))))))))
      · dsimp only
        rw [hnext, e1, if_pos hnil, ba_nil, ← hZ2e, ← hZe]
        simp only [ByteArray.append_assoc]
        exact bc_ 0 r_ sub_end
      · (repeat (first | exact True.intro | refine ⟨rfl, ?_⟩))
    · have hz : (0 : Int) < ((s.els.map Sm.row).length : Int) := by
        have := List.length_pos_iff.2 hnil
        omega
      have hsp3 : (sp ++ Kelse2).size = sp.size + 9 := by rw [ByteArray.size_append]; rfl
      have hZ3 : (Z2 ++ (sp ++ Kelse2)).size = Z2.size + (sp ++ Kelse2).size := ByteArray.size_append ..
      have con2 := fun v => hrec s.els (sp ++ Ksp) (Z2 ++ (sp ++ Kelse2)) v hels (by omega) (by omega)
      refine R_ (F_ r_ (L_ 1 r_ (o_ r_ (br_ r_ (fun hlen => o_ r_ (bz_ r_ r_ (T_ (aq_ r_ u_ (R_ (M_ r_ (M_ r_ (o_ r_ (ow_strcat rfl rfl (by simp only [ByteArray.size_append, ba_lit, List.length_cons, List.length_nil] ; omega) (o_ r_ (ow_appendS 0 rfl rfl rfl rfl rfl rfl rfl rfl (by simp only [ByteArray.size_append, ba_lit, List.length_cons, List.length_nil] ; omega) (fun v1 _ => E_ r_ (T_ (an_ (M_ r_ ?_)))))))))))))))))))
      refine F_ r_ (L_ 1 r_ (M_ r_ (o_ r_ (ow_strcat rfl rfl (by simp only [ByteArray.size_append, ba_lit, List.length_cons, List.length_nil] ; omega) (o_ r_ (bt_ [0] rfl rfl (con2 _) (fun pp hpp => E_ r_ (T_ (an_ (M_ r_ (M_ r_ (o_ r_ (ow_strcat rfl rfl (by simp only [ByteArray.size_append, ba_lit, List.length_cons, List.length_nil] ; omega) ?_)))))))))))))
      refine o_ r_ (ow_appendS 0 rfl rfl rfl rfl rfl rfl rfl rfl (by simp only [ByteArray.size_append, ba_lit, List.length_cons, List.length_nil] ; omega) (fun v1 _ => E_ r_ (ak_ (ay_ (al_ (an_ (M_ r_ (o_ r_ (bj_ r_ r_ g_ (E_ r_ (ak_ (jq_againS (i := (k, v)) (k + 1, v1) hlt (by dsimp only; omega) ?_ ?_))))))))))))
      · dsimp only
        rw [hnext, e1, if_neg hnil, ← hZ2e, ← hZe]
        simp only [ByteArray.append_assoc]
        exact bc_ 0 r_ sub_end
      · (repeat (first | exact True.intro | refine ⟨rfl, ?_⟩))
  · have hlt2 : ¬ (k : Int) < ((l.map Sm.row).length : Int) := by omega
    rw [List.take_of_length_le (by omega)]
    refine am_ (R_ (M_ r_ (M_ r_ (o_ r_ (br_ r_ (fun hlen => o_ r_ (bw_ r_ r_ (T_ (ap_ r_ w_ (av_ (ax_ (ax_ (ba_ (al_ (R_ (M_ r_ (E_ r_ ?_)))))))))))))))))
    refine T_ (ar_ (jq_ret1 rfl rfl [0] rfl (fun K h => h v trivial)))
theorem rbody_c : ∀ n : Nat, RBody n
  | 0 => rbody_step 0 (fun n' h => by omega)
  | n + 1 => rbody_step (n + 1) (fun n' h => by obtain rfl : n' = n := by omega
                                                exact rbody_c n')
end Go.Proofs.YtamajcgdfjeehaaGreatDoor
end

section
namespace Go.Proofs.YtamajcgdfjeehaaGreatDoor
open Go.Vc
attribute [local irreducible] JL JC JQ OpWp Con ConN
attribute [local irreducible] byteAt runLen isL isD isName hasW rd fineS numS textT hdT stsT stT okSs
set_option maxHeartbeats 8000000

def catL {α : Type} (f : α → ByteArray) : List α → ByteArray
  | [] => ⟨#[]⟩
  | a :: l => f a ++ catL f l
theorem catL_app {α : Type} (f : α → ByteArray) : ∀ l m : List α, catL f (l ++ m) = catL f l ++ catL f m
  | [], m => by rw [List.nil_append, catL, nil_ba]
  | a :: l, m => by rw [List.cons_append, catL, catL, catL_app f l m, ByteArray.append_assoc]
theorem catL_take {α : Type} (f : α → ByteArray) (Y : ByteArray) {l : List α} {k : Nat} (h : k < l.length) : Y ++ catL f (l.take (k + 1)) = (Y ++ catL f (l.take k)) ++ f l[k] := by
  rw [List.take_succ_eq_append_getElem h, catL_app, catL, catL, ba_nil, ByteArray.append_assoc]
theorem catL_size {α : Type} {f : α → ByteArray} {B : Nat} : ∀ {l : List α}, (∀ a ∈ l, (f a).size ≤ B) → (catL f l).size ≤ l.length * B
  | [], _ => by simp [catL]; rfl
  | a :: l, h => by
    have h1 := h a (by simp)
    have h2 := catL_size (l := l) (fun x hx => h x (by simp [hx]))
    rw [catL, ByteArray.size_append, List.length_cons, Nat.add_mul]
    omega
theorem catL_takeS {α : Type} {f : α → ByteArray} {B : Nat} {l : List α} (h : ∀ a ∈ l, (f a).size ≤ B) (k : Nat) : (catL f (l.take k)).size ≤ l.length * B := by
  have h1 := catL_size (l := l.take k) (fun a ha => h a (List.mem_of_mem_take ha))
  have h2 : (l.take k).length * B ≤ l.length * B := Nat.mul_le_mul_right _ (by rw [List.length_take]; omega)
  omega
def resT (x : ByteArray) : ByteArray := (((⟨#[114, 101, 115, 111, 117, 114, 99, 101, 32]⟩ : ByteArray) ++ x) ++ (⟨#[10]⟩ : ByteArray))
def shT (x : Shd) : ByteArray := (((((((⟨#[115, 104, 97, 114, 101, 100, 32]⟩ : ByteArray) ++ x.1) ++ (⟨#[32]⟩ : ByteArray)) ++ numS x.2.1) ++ (⟨#[32]⟩ : ByteArray)) ++ x.2.2) ++ (⟨#[10]⟩ : ByteArray))
def inT (x : Inp) : ByteArray := (((((((⟨#[105, 110, 112, 117, 116, 32]⟩ : ByteArray) ++ x.1) ++ (⟨#[32]⟩ : ByteArray)) ++ numS x.2.1) ++ (⟨#[32]⟩ : ByteArray)) ++ numS x.2.2) ++ (⟨#[10]⟩ : ByteArray))
def vaT (x : ByteArray) : ByteArray := (((⟨#[118, 97, 114, 32]⟩ : ByteArray) ++ x) ++ (⟨#[10]⟩ : ByteArray))
def arT (x : Arr) : ByteArray := (((((⟨#[97, 114, 114, 97, 121, 32]⟩ : ByteArray) ++ x.1) ++ (⟨#[32]⟩ : ByteArray)) ++ numS x.2) ++ (⟨#[10]⟩ : ByteArray))
def mdT (x : Md) : ByteArray := (((((((((⟨#[109, 111, 100, 101, 32]⟩ : ByteArray) ++ x.1) ++ (⟨#[32]⟩ : ByteArray)) ++ x.2.1) ++ (⟨#[32]⟩ : ByteArray)) ++ numS x.2.2.1) ++ (⟨#[32]⟩ : ByteArray)) ++ numS x.2.2.2) ++ (⟨#[10]⟩ : ByteArray))
def clT (x : Clm) : ByteArray := (((((⟨#[110, 101, 118, 101, 114, 32]⟩ : ByteArray) ++ numS x.1) ++ (⟨#[32]⟩ : ByteArray)) ++ numS x.2) ++ (⟨#[10]⟩ : ByteArray))
def tkHd (x : Tk) : ByteArray := (((((((((((⟨#[116, 97, 115, 107, 32]⟩ : ByteArray) ++ x.name) ++ (⟨#[32, 112, 101, 114, 105, 111, 100, 32]⟩ : ByteArray)) ++ numS x.period) ++ (⟨#[32, 100, 101, 97, 100, 108, 105, 110, 101, 32]⟩ : ByteArray)) ++ numS x.deadline) ++ (⟨#[32, 112, 114, 105, 111, 114, 105, 116, 121, 32]⟩ : ByteArray)) ++ numS x.priority) ++ (⟨#[32, 106, 105, 116, 116, 101, 114, 32]⟩ : ByteArray)) ++ numS x.jitter) ++ (⟨#[10]⟩ : ByteArray))
def tkT (t : Tk) : ByteArray := ((((((((tkHd t ++ catL inT t.inputs) ++ catL vaT t.vars) ++ catL arT t.arrays) ++ catL mdT t.modes) ++ catL clT t.claims) ++ (⟨#[98, 111, 100, 121, 10]⟩ : ByteArray)) ++ stsT Ksp t.body) ++ (⟨#[101, 110, 100, 10]⟩ : ByteArray))
def progT (p : Pg) : ByteArray := (catL resT p.res ++ catL shT p.shared) ++ catL tkT p.tasks
def progF (p : Pg) : ByteArray × Int := if okPg p = false then (⟨#[]⟩, 10) else if p.tasks.any (fun t => dpF 8 t.body) = true then (⟨#[]⟩, 4) else if 8192 < (progT p).size then (⟨#[]⟩, 4) else (progT p, 0)
/-- Sizes within reason. -/
structure TkSz (t : Tk) : Prop where
  inputs : t.inputs.length ≤ 1000
  vars : t.vars.length ≤ 1000
  arrays : t.arrays.length ≤ 1000
  modes : t.modes.length ≤ 1000
  claims : t.claims.length ≤ 1000
  body : Sm.szs t.body ≤ 1000000
structure PgSz (p : Pg) : Prop where
  res : p.res.length ≤ 1000
  shared : p.shared.length ≤ 1000
  len : p.tasks.length ≤ 1000
  tasks : ∀ t ∈ p.tasks, TkSz t
theorem resT_ok {x : ByteArray} (h : nameB x = true) : nmOk (x) := by
  exact nameB_ok.1 h
theorem resT_size {x : ByteArray} (h : nameB x = true) : (resT x).size ≤ 200 := by
  have h := resT_ok h
  have := name_size h
  simp only [resT, ByteArray.size_append, ba_lit, List.length_cons, List.length_nil]
  omega
theorem shT_ok {x : Shd} (h : shB x = true) : nmOk (x.1) ∧ Pl (x.2.1) ∧ nmOk (x.2.2) := by
  unfold shB at h
  simp only [Bool.and_eq_true, and_assoc] at h
  obtain ⟨h0, h1, h2⟩ := h
  exact ⟨nameB_ok.1 h0, plainB_ok.1 h1, nameB_ok.1 h2⟩
theorem shT_size {x : Shd} (h : shB x = true) : (shT x).size ≤ 200 := by
  have h := shT_ok h
  obtain ⟨h0, h1, h2⟩ := h
  have := name_size h0
  have := h1.size
  have := name_size h2
  simp only [shT, ByteArray.size_append, ba_lit, List.length_cons, List.length_nil]
  omega
theorem inT_ok {x : Inp} (h : inB x = true) : nmOk (x.1) ∧ (-2147483647 ≤ x.2.1 ∧ x.2.1 ≤ 2147483647) ∧ (-2147483647 ≤ x.2.2 ∧ x.2.2 ≤ 2147483647) := by
  unfold inB at h
  simp only [Bool.and_eq_true, and_assoc] at h
  obtain ⟨h0, h1, h2⟩ := h
  exact ⟨nameB_ok.1 h0, smallB_ok.1 h1, smallB_ok.1 h2⟩
theorem inT_size {x : Inp} (h : inB x = true) : (inT x).size ≤ 200 := by
  have h := inT_ok h
  obtain ⟨h0, h1, h2⟩ := h
  have := name_size h0
  have := numS_size _ h1.1 h1.2
  have := numS_size _ h2.1 h2.2
  simp only [inT, ByteArray.size_append, ba_lit, List.length_cons, List.length_nil]
  omega
theorem vaT_ok {x : ByteArray} (h : nameB x = true) : nmOk (x) := by
  exact nameB_ok.1 h
theorem vaT_size {x : ByteArray} (h : nameB x = true) : (vaT x).size ≤ 200 := by
  have h := vaT_ok h
  have := name_size h
  simp only [vaT, ByteArray.size_append, ba_lit, List.length_cons, List.length_nil]
  omega
theorem arT_ok {x : Arr} (h : arB x = true) : nmOk (x.1) ∧ Pl (x.2) := by
  unfold arB at h
  simp only [Bool.and_eq_true, and_assoc] at h
  obtain ⟨h0, h1⟩ := h
  exact ⟨nameB_ok.1 h0, plainB_ok.1 h1⟩
theorem arT_size {x : Arr} (h : arB x = true) : (arT x).size ≤ 200 := by
  have h := arT_ok h
  obtain ⟨h0, h1⟩ := h
  have := name_size h0
  have := h1.size
  simp only [arT, ByteArray.size_append, ba_lit, List.length_cons, List.length_nil]
  omega
theorem mdT_ok {x : Md} (h : mdB x = true) : nmOk (x.1) ∧ nmOk (x.2.1) ∧ (-2147483647 ≤ x.2.2.1 ∧ x.2.2.1 ≤ 2147483647) ∧ (-2147483647 ≤ x.2.2.2 ∧ x.2.2.2 ≤ 2147483647) := by
  unfold mdB at h
  simp only [Bool.and_eq_true, and_assoc] at h
  obtain ⟨h0, h1, h2, h3⟩ := h
  exact ⟨nameB_ok.1 h0, nameB_ok.1 h1, smallB_ok.1 h2, smallB_ok.1 h3⟩
theorem mdT_size {x : Md} (h : mdB x = true) : (mdT x).size ≤ 200 := by
  have h := mdT_ok h
  obtain ⟨h0, h1, h2, h3⟩ := h
  have := name_size h0
  have := name_size h1
  have := numS_size _ h2.1 h2.2
  have := numS_size _ h3.1 h3.2
  simp only [mdT, ByteArray.size_append, ba_lit, List.length_cons, List.length_nil]
  omega
theorem clT_ok {x : Clm} (h : clB x = true) : Pl (x.1) ∧ Pl (x.2) := by
  unfold clB at h
  simp only [Bool.and_eq_true, and_assoc] at h
  obtain ⟨h0, h1⟩ := h
  exact ⟨plainB_ok.1 h0, plainB_ok.1 h1⟩
theorem clT_size {x : Clm} (h : clB x = true) : (clT x).size ≤ 200 := by
  have h := clT_ok h
  obtain ⟨h0, h1⟩ := h
  have := h0.size
  have := h1.size
  simp only [clT, ByteArray.size_append, ba_lit, List.length_cons, List.length_nil]
  omega
theorem tk1_ok {x : Tk} (h : hdB x = true) : nmOk (x.name) ∧ Pl (x.period) ∧ Pl (x.deadline) ∧ Pl (x.priority) ∧ Pl (x.jitter) := by
  unfold hdB at h
  simp only [Bool.and_eq_true, and_assoc] at h
  obtain ⟨h0, h1, h2, h3, h4⟩ := h
  exact ⟨nameB_ok.1 h0, plainB_ok.1 h1, plainB_ok.1 h2, plainB_ok.1 h3, plainB_ok.1 h4⟩
theorem tk1_size {x : Tk} (h : hdB x = true) : (tkHd x).size ≤ 200 := by
  have h := tk1_ok h
  obtain ⟨h0, h1, h2, h3, h4⟩ := h
  have := name_size h0
  have := h1.size
  have := h2.size
  have := h3.size
  have := h4.size
  simp only [tkHd, ByteArray.size_append, ba_lit, List.length_cons, List.length_nil]
  omega
theorem hd_of {t : Tk} (h : okTk t = true) : hdB t = true ∧ okSs 20 t.body = true ∧ (∀ x ∈ t.inputs, inB x = true) ∧ (∀ x ∈ t.vars, nameB x = true) ∧ (∀ x ∈ t.arrays, arB x = true) ∧ (∀ x ∈ t.modes, mdB x = true) ∧ ∀ x ∈ t.claims, clB x = true := by
  unfold okTk at h
  simp only [Bool.and_eq_true, and_assoc, List.all_eq_true] at h
  exact h
theorem tkT_size {t : Tk} (h : okTk t = true) (hd : dpF 8 t.body = false) (hs : TkSz t) : (tkT t).size ≤ 60002000000 := by
  obtain ⟨h0, hb, h1, h2, h3, h4, h5⟩ := hd_of h
  have e0 := tk1_size h0
  have e1 := catL_size (f := inT) (fun x hx => inT_size (h1 x hx))
  have e2 := catL_size (f := vaT) (fun x hx => vaT_size (h2 x hx))
  have e3 := catL_size (f := arT) (fun x hx => arT_size (h3 x hx))
  have e4 := catL_size (f := mdT) (fun x hx => mdT_size (h4 x hx))
  have e5 := catL_size (f := clT) (fun x hx => clT_size (h5 x hx))
  have e6 := sts_size (sp := Ksp) (fine_of 8 20 t.body (by omega) hb hd) (by show 2 + 2 * 8 ≤ 100; omega)
  have := hs.inputs
  have := hs.vars
  have := hs.arrays
  have := hs.modes
  have := hs.claims
  have := hs.body
  simp only [tkT, ByteArray.size_append, ba_lit, List.length_cons, List.length_nil]
  omega
theorem rProg_c (p : Pg) (hz : PgSz p) : Con Tryz.prog 18 [.row p.row] [] (fun K => K (.tup [Str (progF p).1, In .i64 (progF p).2]) []) := by
  refine con_intro Tryz.func18 rfl rfl (Nat.le_of_ble_eq_true rfl) (fun c hc => R_ (o_ r_ (ci_ r_ (fun bx => E_ r_ (E_ r_ (T_ (am_ (R_ (A_ 0 r_ (o_ r_ (bm_ r_ (rprintableB_c _) (o_ r_ (cd_ r_ (T_ ?_))))))))))))))
  by_cases hok : okPg p = false
  · have hN : (!okPg p) = true := by rw [hok]; rfl
    have e1 : progF p = (⟨#[]⟩, 10) := by unfold progF; rw [if_pos hok]
    refine aq_ r_ h_ (R_ (E_ r_ (E_ r_ (T_ (ar_ (aw_ (jq_ret2 rfl rfl rfl [] rfl (fun K h => by rw [e1] at h; exact h))))))))
  have hok : okPg p = true := by simpa using hok
  have hN : (!okPg p) = false := by rw [hok]; rfl
  have hokb : ¬ okPg p = false := by rw [hok]; simp
  refine ap_ r_ h_ (as_ (al_ ?_))
  -- none is too deep
  have eT : (p.tasks.map Tk.row).length = p.tasks.length := List.length_map _
  refine am_ (jc_cut (ι := Unit) [] (fun _ => p.tasks.any (fun t => dpF 8 t.body) = false) (fun _ => [(1, .cell (.val (.pointer (some ⟨bx, 0, none⟩))))]) (fun _ => [.blk bx 32 p.row]) ?_ ?_)
  · refine R_ (E_ r_ (T_ (au_ (jc_loopS (ι := Nat) [] (fun k => k ≤ p.tasks.length ∧ (p.tasks.take k).any (fun t => dpF 8 t.body) = false) (fun k => (4, In .i64 (k : Int)) :: [(1, .cell (.val (.pointer (some ⟨bx, 0, none⟩))))]) (fun _ => [.blk bx 32 p.row]) (fun k => p.tasks.length - k) 0 ⟨Nat.zero_le _, rfl⟩ ?_ ?_ ?_))))
    · exact bc_ 0 r_ sub_end
    · (repeat (first | exact True.intro | refine ⟨rfl, ?_⟩))
    rintro k ⟨hk, hall⟩
    by_cases hlt : k < p.tasks.length
    · have hlt2 : (k : Int) < ((p.tasks.map Tk.row).length : Int) := by omega
      by_cases hd : dpF 8 p.tasks[k].body = true
      · have hany : p.tasks.any (fun t => dpF 8 t.body) = true := any_yes hlt hd
        have e1 : progF p = (⟨#[]⟩, 4) := by unfold progF; rw [if_neg hokb, if_pos hany]
        refine am_ (R_ (M_ r_ (F_ r_ (L_ 0 r_ (o_ r_ (br_ r_ (fun hlen => o_ r_ (bw_ r_ r_ (T_ (aq_ r_ u_ (as_ (al_ (B_ (R_ (F_ r_ (L_ 0 r_ (M_ r_ ?_)))))))))))))))))
        refine o_ r_ (cc_ r_ r_ g_ r_ r_ b_ (o_ r_ (cf_ r_ r_ r_ b_ r_ b_ (o_ r_ (cb_ r_ r_ (o_ r_ (bm_ r_ (rDeep_c _) (T_ (aq_ r_ h_ (R_ (E_ r_ (E_ r_ (T_ (ar_ (az_ (aw_ (aw_ (az_ (aw_ ?_)))))))))))))))))))
        refine jq_ret2 rfl rfl rfl [] rfl (fun K h => by rw [e1] at h; exact h)
      · have hd : dpF 8 p.tasks[k].body = false := by simpa using hd
        refine am_ (R_ (M_ r_ (F_ r_ (L_ 0 r_ (o_ r_ (br_ r_ (fun hlen => o_ r_ (bw_ r_ r_ (T_ (aq_ r_ u_ (as_ (al_ (B_ (R_ (F_ r_ (L_ 0 r_ (M_ r_ ?_)))))))))))))))))
        refine o_ r_ (cc_ r_ r_ g_ r_ r_ b_ (o_ r_ (cf_ r_ r_ r_ b_ r_ b_ (o_ r_ (cb_ r_ r_ (o_ r_ (bm_ r_ (rDeep_c _) (T_ (ap_ r_ h_ (as_ (ay_ (al_ (an_ (M_ r_ (o_ r_ (bj_ r_ r_ g_ (E_ r_ (ak_ (jq_againS (k + 1) ⟨hlt, any_snoc hlt hall hd⟩ g_ ?_ ?_)))))))))))))))))))
        · exact bc_ 0 r_ sub_end
        · (repeat (first | exact True.intro | refine ⟨rfl, ?_⟩))
    · have hlt2 : ¬ (k : Int) < ((p.tasks.map Tk.row).length : Int) := by omega
      refine am_ (R_ (M_ r_ (F_ r_ (L_ 0 r_ (o_ r_ (br_ r_ (fun hlen => o_ r_ (bw_ r_ r_ (T_ (ap_ r_ w_ (av_ (ax_ (ax_ (ba_ (jq_cutS () (by rw [List.take_of_length_le g_] at hall; exact hall) ?_ ?_)))))))))))))))
      · exact bc_ 0 r_ sub_end
      · (repeat (first | exact True.intro | refine ⟨rfl, ?_⟩))
  intro _ hdeep
  have hok2 := hok
  unfold okPg at hok2
  simp only [Bool.and_eq_true, List.all_eq_true, and_assoc] at hok2
  obtain ⟨hR, hSh, hTk⟩ := hok2
  have zr := hz.res
  have zs := hz.shared
  have zl := hz.len
  refine jc_ownNil 5 1 g_ (R_ (E_ r_ (T_ (am_ ?_))))
  have hY0 : ((⟨#[]⟩ : ByteArray)).size ≤ 0 := Nat.le_refl _
  refine jc_cut (ι := Value) [] (fun _ => True) (fun v => (5, .cell (.val v)) :: [(1, .cell (.val (.pointer (some ⟨bx, 0, none⟩))))]) (fun v => [Bw v ((⟨#[]⟩ : ByteArray) ++ catL resT (p.res)), .blk bx 32 p.row]) ?_ ?_
  · refine R_ (E_ r_ (T_ (au_ (jc_loopS (ι := Nat × Value) [] (fun i => i.1 ≤ (p.res).length) (fun i => (6, In .i64 (i.1 : Int)) :: (5, .cell (.val i.2)) :: [(1, .cell (.val (.pointer (some ⟨bx, 0, none⟩))))]) (fun i => [Bw i.2 ((⟨#[]⟩ : ByteArray) ++ catL resT ((p.res).take i.1)), .blk bx 32 p.row]) (fun i => (p.res).length - i.1) (0, (.slice none 0 0)) (Nat.zero_le _) ?_ ?_ ?_))))
    · rw [show (⟨#[]⟩ : ByteArray) ++ catL resT ((p.res).take 0) = (⟨#[]⟩ : ByteArray) by rw [List.take_zero, catL, ba_nil]]
      exact bc_ 0 r_ (bc_ 0 r_ sub_end)
    · (repeat (first | exact True.intro | refine ⟨rfl, ?_⟩))
    rintro ⟨k, v⟩ hk
    dsimp only at hk ⊢
    have eL : ((p.res).map Wrow).length = (p.res).length := List.length_map _
    by_cases hlt : k < (p.res).length
    · have hlt2 : (k : Int) < (((p.res).map Wrow).length : Int) := by omega
      have hsz := catL_takeS (f := resT) (l := p.res) (fun x hx => resT_size (hR x hx)) k
      have hnx := catL_take resT ((⟨#[]⟩ : ByteArray)) hlt
      have hfs := resT_size (hR _ (List.getElem_mem hlt))
      have hYs : ((⟨#[]⟩ : ByteArray) ++ catL resT ((p.res).take k)).size ≤ 0 + 200000 := by rw [ByteArray.size_append]; omega
      generalize (⟨#[]⟩ : ByteArray) ++ catL resT ((p.res).take k) = Z at hYs hnx ⊢
      have gk := resT_ok (hR _ (List.getElem_mem hlt))
      have g0 := gk
      have := name_size g0
      refine am_ (R_ (M_ r_ (F_ r_ (L_ 1 r_ (o_ r_ (br_ r_ (fun hlen => o_ r_ (bw_ r_ r_ (T_ (aq_ r_ u_ (as_ (al_ (B_ (an_ (M_ r_ (F_ r_ (L_ 1 r_ ?_)))))))))))))))))
      refine M_ r_ (o_ r_ (cc_ r_ r_ g_ r_ r_ b_ (o_ r_ (cb_ r_ r_ (o_ r_ (ow_strcat rfl rfl (by simp only [ByteArray.size_append, ba_lit, List.length_cons, List.length_nil] ; omega) (o_ r_ (ow_strcat rfl rfl (by simp only [ByteArray.size_append, ba_lit, List.length_cons, List.length_nil] ; omega) (o_ r_ (ow_appendS 0 rfl rfl rfl rfl rfl rfl rfl rfl (by show _ + (resT (p.res)[k]).size ≤ _ ; omega) (fun v1 _ => ?_)))))))))))
      refine E_ r_ (ak_ (ay_ (al_ (an_ (M_ r_ (o_ r_ (bj_ r_ r_ g_ (E_ r_ (ak_ (jq_againS (i := (k, v)) (k + 1, v1) hlt (by dsimp only; omega) ?_ ?_))))))))))
      · dsimp only
        rw [hnx]
        exact bc_ 0 r_ (bc_ 0 r_ sub_end)
      · (repeat (first | exact True.intro | refine ⟨rfl, ?_⟩))
    · have hlt2 : ¬ (k : Int) < (((p.res).map Wrow).length : Int) := by omega
      rw [List.take_of_length_le (show (p.res).length ≤ k by omega)]
      refine am_ (R_ (M_ r_ (F_ r_ (L_ 1 r_ (o_ r_ (br_ r_ (fun hlen => o_ r_ (bw_ r_ r_ (T_ (ap_ r_ w_ (av_ (ax_ (ax_ (ba_ (jq_cutS v trivial ?_ ?_)))))))))))))))
      · exact bc_ 0 r_ (bc_ 0 r_ sub_end)
      · (repeat (first | exact True.intro | refine ⟨rfl, ?_⟩))
  intro vA _
  rw [nil_ba]
  have hY1 := catL_size (f := resT) (fun x hx => resT_size (hR x hx))
  refine am_ (jc_cut (ι := Value) [] (fun _ => True) (fun v => (5, .cell (.val v)) :: [(1, .cell (.val (.pointer (some ⟨bx, 0, none⟩))))]) (fun v => [Bw v (catL resT p.res ++ catL shT (p.shared)), .blk bx 32 p.row]) ?_ ?_)
  · refine R_ (E_ r_ (T_ (au_ (jc_loopS (ι := Nat × Value) [] (fun i => i.1 ≤ (p.shared).length) (fun i => (7, In .i64 (i.1 : Int)) :: (5, .cell (.val i.2)) :: [(1, .cell (.val (.pointer (some ⟨bx, 0, none⟩))))]) (fun i => [Bw i.2 (catL resT p.res ++ catL shT ((p.shared).take i.1)), .blk bx 32 p.row]) (fun i => (p.shared).length - i.1) (0, vA) (Nat.zero_le _) ?_ ?_ ?_))))
    · rw [show catL resT p.res ++ catL shT ((p.shared).take 0) = catL resT p.res by rw [List.take_zero, catL, ba_nil]]
      exact bc_ 0 r_ (bc_ 0 r_ sub_end)
    · (repeat (first | exact True.intro | refine ⟨rfl, ?_⟩))
    rintro ⟨k, v⟩ hk
    dsimp only at hk ⊢
    have eL : ((p.shared).map ShRow).length = (p.shared).length := List.length_map _
    by_cases hlt : k < (p.shared).length
    · have hlt2 : (k : Int) < (((p.shared).map ShRow).length : Int) := by omega
      have hsz := catL_takeS (f := shT) (l := p.shared) (fun x hx => shT_size (hSh x hx)) k
      have hnx := catL_take shT (catL resT p.res) hlt
      have hfs := shT_size (hSh _ (List.getElem_mem hlt))
      have hYs : (catL resT p.res ++ catL shT ((p.shared).take k)).size ≤ 200000 + 200000 := by rw [ByteArray.size_append]; omega
      generalize catL resT p.res ++ catL shT ((p.shared).take k) = Z at hYs hnx ⊢
      have gk := shT_ok (hSh _ (List.getElem_mem hlt))
      obtain ⟨g0, g1, g2⟩ := gk
      have := name_size g0
      have := g1.size
      have := name_size g2
      refine am_ (R_ (M_ r_ (F_ r_ (L_ 1 r_ (o_ r_ (br_ r_ (fun hlen => o_ r_ (bw_ r_ r_ (T_ (aq_ r_ u_ (as_ (al_ (B_ (R_ (F_ r_ (L_ 1 r_ (M_ r_ ?_)))))))))))))))))
      refine o_ r_ (cc_ r_ r_ g_ r_ r_ b_ (o_ r_ (cr_ r_ r_ r_ (o_ r_ (bl_ r_ r_ (fun bl => S_ 0 r_ (T_ (jc_anyB 16 none rfl k_ k_ (yM_ r_ (yF_ r_ (yF_ r_ (yL_ 0 r_ (aa_ (fun c => ow_strcat rfl rfl (by simp only [ByteArray.size_append, ba_lit, List.length_cons, List.length_nil] ; omega) p_) ?_)))))))))))))
      refine aa_ (fun c => ow_strcat rfl rfl (by simp only [ByteArray.size_append, ba_lit, List.length_cons, List.length_nil] ; omega) p_) (yF_ r_ (yF_ r_ (yL_ 0 r_ (aa_ (fun c => bm_ r_ (rnumF_c g1) p_) (aa_ (fun c => ow_strcat rfl rfl (by simp only [ByteArray.size_append, ba_lit, List.length_cons, List.length_nil] ; omega) p_) ?_)))))
      refine aa_ (fun c => ow_strcat rfl rfl (by simp only [ByteArray.size_append, ba_lit, List.length_cons, List.length_nil] ; omega) p_) (yF_ r_ (yL_ 0 r_ (aa_ (fun c => ow_strcat rfl rfl (by simp only [ByteArray.size_append, ba_lit, List.length_cons, List.length_nil] ; omega) p_) (aa_ (fun c => ow_strcat rfl rfl (by simp only [ByteArray.size_append, ba_lit, List.length_cons, List.length_nil] ; omega) p_) (ae_ ?_)))))
      refine afin_none (o_ r_ (ow_appendS 1 rfl rfl rfl rfl rfl rfl rfl rfl (by show _ + (shT (p.shared)[k]).size ≤ _ ; omega) (fun v1 _ => E_ r_ (ak_ (ay_ (al_ (an_ (M_ r_ (o_ r_ (bj_ r_ r_ g_ (E_ r_ (ak_ (jq_againS (i := (k, v)) (k + 1, v1) hlt (by dsimp only; omega) ?_ ?_)))))))))))))
      · dsimp only
        rw [hnx]
        exact bc_ 0 r_ (bc_ 1 r_ sub_end)
      · (repeat (first | exact True.intro | refine ⟨rfl, ?_⟩))
    · have hlt2 : ¬ (k : Int) < (((p.shared).map ShRow).length : Int) := by omega
      rw [List.take_of_length_le (show (p.shared).length ≤ k by omega)]
      refine am_ (R_ (M_ r_ (F_ r_ (L_ 1 r_ (o_ r_ (br_ r_ (fun hlen => o_ r_ (bw_ r_ r_ (T_ (ap_ r_ w_ (av_ (ax_ (ax_ (ba_ (jq_cutS v trivial ?_ ?_)))))))))))))))
      · exact bc_ 0 r_ (bc_ 0 r_ sub_end)
      · (repeat (first | exact True.intro | refine ⟨rfl, ?_⟩))
  intro vB _
  have hY2 : (catL resT p.res ++ catL shT p.shared).size ≤ 400000 := by
    have := catL_size (f := shT) (fun x hx => shT_size (hSh x hx))
    rw [ByteArray.size_append]; omega
  generalize hX2 : catL resT p.res ++ catL shT p.shared = X2 at hY2 ⊢
  have hdk : ∀ t ∈ p.tasks, dpF 8 t.body = false := fun t ht => by simpa using List.any_eq_false.1 hdeep t ht
  have htz : ∀ t ∈ p.tasks, (tkT t).size ≤ 60002000000 := fun t ht => tkT_size (hTk t ht) (hdk t ht) (hz.tasks t ht)
  refine am_ (jc_cut (ι := Value) [] (fun _ => True) (fun v => (5, .cell (.val v)) :: [(1, .cell (.val (.pointer (some ⟨bx, 0, none⟩))))]) (fun v => [Bw v (X2 ++ catL tkT p.tasks), .blk bx 32 p.row]) ?_ ?_)
  · refine R_ (E_ r_ (T_ (au_ (jc_loopS (ι := Nat × Value) [] (fun i => i.1 ≤ p.tasks.length) (fun i => (9, In .i64 (i.1 : Int)) :: (5, .cell (.val i.2)) :: [(1, .cell (.val (.pointer (some ⟨bx, 0, none⟩))))]) (fun i => [Bw i.2 (X2 ++ catL tkT (p.tasks.take i.1)), .blk bx 32 p.row]) (fun i => p.tasks.length - i.1) (0, vB) (Nat.zero_le _) ?_ ?_ ?_))))
    · rw [show X2 ++ catL tkT (p.tasks.take 0) = X2 by rw [List.take_zero, catL, ba_nil]]
      exact bc_ 0 r_ (bc_ 0 r_ sub_end)
    · (repeat (first | exact True.intro | refine ⟨rfl, ?_⟩))
    rintro ⟨kt, v⟩ hkt
    dsimp only at hkt ⊢
    by_cases hltt : kt < p.tasks.length
    · have hlt2 : (kt : Int) < ((p.tasks.map Tk.row).length : Int) := by omega
      have hsz := catL_takeS (f := tkT) (l := p.tasks) htz kt
      have hnx := catL_take tkT X2 hltt
      have hmt := List.getElem_mem hltt
      have htk := htz _ hmt
      have hYs : (X2 ++ catL tkT (p.tasks.take kt)).size ≤ 60002000400000 := by
        have : p.tasks.length * 60002000000 ≤ 1000 * 60002000000 := Nat.mul_le_mul_right _ zl
        rw [ByteArray.size_append]; omega
      generalize X2 ++ catL tkT (p.tasks.take kt) = Z0 at hYs hnx ⊢
      obtain ⟨h0, hb, h1, h2, h3, h4, h5⟩ := hd_of (hTk _ hmt)
      have tz := hz.tasks _ hmt
      have zi := tz.inputs
      have zv := tz.vars
      have za := tz.arrays
      have zm := tz.modes
      have zc := tz.claims
      have zb := tz.body
      have hdt := hdk _ hmt
      refine am_ (R_ (M_ r_ (F_ r_ (L_ 1 r_ (o_ r_ (br_ r_ (fun hlen => o_ r_ (bw_ r_ r_ (T_ (aq_ r_ u_ (as_ (al_ (B_ (R_ (F_ r_ (L_ 1 r_ (M_ r_ ?_)))))))))))))))))
      refine o_ r_ (cc_ r_ r_ g_ r_ r_ b_ (o_ r_ (cr_ r_ r_ r_ (o_ r_ (bl_ r_ r_ (fun bl => S_ 0 r_ (T_ ?_)))))))
      generalize p.tasks[kt] = t at *
      have gk := tk1_ok h0
      obtain ⟨g0, g1, g2, g3, g4⟩ := gk
      have := name_size g0
      have := g1.size
      have := g2.size
      have := g3.size
      have := g4.size
      have hts := tk1_size h0
      refine am_ (jc_anyB 25 none rfl k_ k_ (yM_ r_ (yF_ r_ (yL_ 0 r_ (aa_ (fun c => ow_strcat rfl rfl (by simp only [ByteArray.size_append, ba_lit, List.length_cons, List.length_nil] ; omega) p_) (aa_ (fun c => ow_strcat rfl rfl (by simp only [ByteArray.size_append, ba_lit, List.length_cons, List.length_nil] ; omega) p_) (yF_ r_ (yL_ 0 r_ (aa_ (fun c => bm_ r_ (rnumF_c g1) p_) ?_)))))))))
      refine aa_ (fun c => ow_strcat rfl rfl (by simp only [ByteArray.size_append, ba_lit, List.length_cons, List.length_nil] ; omega) p_) (aa_ (fun c => ow_strcat rfl rfl (by simp only [ByteArray.size_append, ba_lit, List.length_cons, List.length_nil] ; omega) p_) (yF_ r_ (yL_ 0 r_ (aa_ (fun c => bm_ r_ (rnumF_c g2) p_) ?_))))
      refine aa_ (fun c => ow_strcat rfl rfl (by simp only [ByteArray.size_append, ba_lit, List.length_cons, List.length_nil] ; omega) p_) (aa_ (fun c => ow_strcat rfl rfl (by simp only [ByteArray.size_append, ba_lit, List.length_cons, List.length_nil] ; omega) p_) (yF_ r_ (yL_ 0 r_ (aa_ (fun c => bm_ r_ (rnumF_c g3) p_) ?_))))
      refine aa_ (fun c => ow_strcat rfl rfl (by simp only [ByteArray.size_append, ba_lit, List.length_cons, List.length_nil] ; omega) p_) (aa_ (fun c => ow_strcat rfl rfl (by simp only [ByteArray.size_append, ba_lit, List.length_cons, List.length_nil] ; omega) p_) (yF_ r_ (yL_ 0 r_ (aa_ (fun c => bm_ r_ (rnumF_c g4) p_) ?_))))
      refine aa_ (fun c => ow_strcat rfl rfl (by simp only [ByteArray.size_append, ba_lit, List.length_cons, List.length_nil] ; omega) p_) (aa_ (fun c => ow_strcat rfl rfl (by simp only [ByteArray.size_append, ba_lit, List.length_cons, List.length_nil] ; omega) p_) (ae_ (afin_none (o_ r_ (ow_appendS 1 rfl rfl rfl rfl rfl rfl rfl rfl (by show _ + (tkHd t).size ≤ _ ; omega) (fun v1 _ => E_ r_ (T_ (am_ ?_))))))))
      rw [show (((((((((((⟨#[116, 97, 115, 107, 32]⟩ : ByteArray) ++ t.name) ++ (⟨#[32, 112, 101, 114, 105, 111, 100, 32]⟩ : ByteArray)) ++ numS t.period) ++ (⟨#[32, 100, 101, 97, 100, 108, 105, 110, 101, 32]⟩ : ByteArray)) ++ numS t.deadline) ++ (⟨#[32, 112, 114, 105, 111, 114, 105, 116, 121, 32]⟩ : ByteArray)) ++ numS t.priority) ++ (⟨#[32, 106, 105, 116, 116, 101, 114, 32]⟩ : ByteArray)) ++ numS t.jitter) ++ (⟨#[10]⟩ : ByteArray)) = tkHd t from rfl]
      generalize hE0 : Z0 ++ tkHd t = Y0 at *
      have hY0 : Y0.size ≤ 60002000400200 := by rw [← hE0, ByteArray.size_append]; omega
      refine jc_cut (ι := Value) [] (fun _ => True) (fun v => (5, .cell (.val v)) :: [(1, .cell (.val (.pointer (some ⟨bx, 0, none⟩)))), (9, In .i64 (kt : Int)), (10, .cell (.val (.pointer (some ⟨bl, 0, none⟩))))]) (fun v => [Bw v (Y0 ++ catL inT (t.inputs)), .blk bl 47 t.row, .blk bx 32 p.row]) ?_ ?_
      · refine R_ (E_ r_ (T_ (au_ ?_)))
        refine jc_loopS (ι := Nat × Value) [] (fun i => i.1 ≤ (t.inputs).length) (fun i => (11, In .i64 (i.1 : Int)) :: (5, .cell (.val i.2)) :: [(1, .cell (.val (.pointer (some ⟨bx, 0, none⟩)))), (9, In .i64 (kt : Int)), (10, .cell (.val (.pointer (some ⟨bl, 0, none⟩))))]) (fun i => [Bw i.2 (Y0 ++ catL inT ((t.inputs).take i.1)), .blk bl 47 t.row, .blk bx 32 p.row]) (fun i => (t.inputs).length - i.1) (0, v1) (Nat.zero_le _) ?_ ?_ ?_
        · rw [show Y0 ++ catL inT ((t.inputs).take 0) = Y0 by rw [List.take_zero, catL, ba_nil]]
          exact bc_ 0 r_ (bc_ 0 r_ (bc_ 0 r_ sub_end))
        · (repeat (first | exact True.intro | refine ⟨rfl, ?_⟩))
        rintro ⟨k, v⟩ hk
        dsimp only at hk ⊢
        have eL : ((t.inputs).map InRow).length = (t.inputs).length := List.length_map _
        by_cases hlt : k < (t.inputs).length
        · have hlt2 : (k : Int) < (((t.inputs).map InRow).length : Int) := by omega
          have hsz := catL_takeS (f := inT) (l := t.inputs) (fun x hx => inT_size (h1 x hx)) k
          have hnx := catL_take inT (Y0) hlt
          have hfs := inT_size (h1 _ (List.getElem_mem hlt))
          have hYs : (Y0 ++ catL inT ((t.inputs).take k)).size ≤ 60002000400200 + 200000 := by rw [ByteArray.size_append]; omega
          generalize Y0 ++ catL inT ((t.inputs).take k) = Z at hYs hnx ⊢
          have gk := inT_ok (h1 _ (List.getElem_mem hlt))
          obtain ⟨g0, g1, g2⟩ := gk
          have := name_size g0
          have := numS_size _ g1.1 g1.2
          have := numS_size _ g2.1 g2.2
          refine am_ (R_ (M_ r_ (F_ r_ (L_ 1 r_ (o_ r_ (br_ r_ (fun hlen => o_ r_ (bw_ r_ r_ (T_ (aq_ r_ u_ (as_ (al_ (B_ (jc_anyB 27 none rfl k_ k_ (yM_ r_ (yF_ r_ (yL_ 1 r_ ?_)))))))))))))))))
          refine yM_ r_ (aa_ (fun c => cc_ r_ r_ g_ r_ r_ b_ p_) (aa_ (fun c => cf_ r_ r_ r_ b_ r_ b_ p_) (aa_ (fun c => cb_ r_ r_ p_) (aa_ (fun c => ow_strcat rfl rfl (by simp only [ByteArray.size_append, ba_lit, List.length_cons, List.length_nil] ; omega) p_) (aa_ (fun c => ow_strcat rfl rfl (by simp only [ByteArray.size_append, ba_lit, List.length_cons, List.length_nil] ; omega) p_) (yF_ r_ (yL_ 1 r_ (yM_ r_ ?_))))))))
          refine aa_ (fun c => cc_ r_ r_ g_ r_ r_ b_ p_) (aa_ (fun c => cf_ r_ r_ r_ b_ r_ b_ p_) (aa_ (fun c => cb_ r_ r_ p_) (aa_ (fun c => bm_ r_ (refNumber_c _ g1) p_) (aa_ (fun c => ow_strcat rfl rfl (by simp only [ByteArray.size_append, ba_lit, List.length_cons, List.length_nil] ; omega) p_) (aa_ (fun c => ow_strcat rfl rfl (by simp only [ByteArray.size_append, ba_lit, List.length_cons, List.length_nil] ; omega) p_) ?_)))))
          refine yF_ r_ (yL_ 1 r_ (yM_ r_ (aa_ (fun c => cc_ r_ r_ g_ r_ r_ b_ p_) (aa_ (fun c => cf_ r_ r_ r_ b_ r_ b_ p_) (aa_ (fun c => cb_ r_ r_ p_) (aa_ (fun c => bm_ r_ (refNumber_c _ g2) p_) (aa_ (fun c => ow_strcat rfl rfl (by simp only [ByteArray.size_append, ba_lit, List.length_cons, List.length_nil] ; omega) p_) ?_)))))))
          refine aa_ (fun c => ow_strcat rfl rfl (by simp only [ByteArray.size_append, ba_lit, List.length_cons, List.length_nil] ; omega) p_) (ae_ (afin_none (o_ r_ (ow_appendS 0 rfl rfl rfl rfl rfl rfl rfl rfl (by show _ + (inT (t.inputs)[k]).size ≤ _ ; omega) (fun v1 _ => E_ r_ (ak_ (ay_ (al_ (an_ (M_ r_ (o_ r_ (bj_ r_ r_ g_ (E_ r_ (ak_ (jq_againS (i := (k, v)) (k + 1, v1) hlt (by dsimp only; omega) ?_ ?_)))))))))))))))
          · dsimp only
            rw [hnx]
            exact bc_ 0 r_ (bc_ 0 r_ (bc_ 0 r_ sub_end))
          · (repeat (first | exact True.intro | refine ⟨rfl, ?_⟩))
        · have hlt2 : ¬ (k : Int) < (((t.inputs).map InRow).length : Int) := by omega
          rw [List.take_of_length_le (show (t.inputs).length ≤ k by omega)]
          refine am_ (R_ (M_ r_ (F_ r_ (L_ 1 r_ (o_ r_ (br_ r_ (fun hlen => o_ r_ (bw_ r_ r_ (T_ (ap_ r_ w_ (av_ (ax_ (ax_ (ba_ (jq_cutS v trivial ?_ ?_)))))))))))))))
          · exact bc_ 0 r_ (bc_ 0 r_ (bc_ 0 r_ sub_end))
          · (repeat (first | exact True.intro | refine ⟨rfl, ?_⟩))
      intro vN0 _
      have hS0 := catL_size (f := inT) (l := t.inputs) (fun x hx => inT_size (h1 x hx))
      generalize hE1 : Y0 ++ catL inT (t.inputs) = Y1 at *
      have hY1 : Y1.size ≤ 60002000600200 := by rw [← hE1, ByteArray.size_append]; omega
      clear hS0 hY0
      refine am_ (jc_cut (ι := Value) [] (fun _ => True) (fun v => (5, .cell (.val v)) :: [(1, .cell (.val (.pointer (some ⟨bx, 0, none⟩)))), (9, In .i64 (kt : Int)), (10, .cell (.val (.pointer (some ⟨bl, 0, none⟩))))]) (fun v => [Bw v (Y1 ++ catL vaT (t.vars)), .blk bl 47 t.row, .blk bx 32 p.row]) ?_ ?_)
      · refine R_ (E_ r_ (T_ (au_ ?_)))
        refine jc_loopS (ι := Nat × Value) [] (fun i => i.1 ≤ (t.vars).length) (fun i => (12, In .i64 (i.1 : Int)) :: (5, .cell (.val i.2)) :: [(1, .cell (.val (.pointer (some ⟨bx, 0, none⟩)))), (9, In .i64 (kt : Int)), (10, .cell (.val (.pointer (some ⟨bl, 0, none⟩))))]) (fun i => [Bw i.2 (Y1 ++ catL vaT ((t.vars).take i.1)), .blk bl 47 t.row, .blk bx 32 p.row]) (fun i => (t.vars).length - i.1) (0, vN0) (Nat.zero_le _) ?_ ?_ ?_
        · rw [show Y1 ++ catL vaT ((t.vars).take 0) = Y1 by rw [List.take_zero, catL, ba_nil]]
          exact bc_ 0 r_ (bc_ 0 r_ (bc_ 0 r_ sub_end))
        · (repeat (first | exact True.intro | refine ⟨rfl, ?_⟩))
        rintro ⟨k, v⟩ hk
        dsimp only at hk ⊢
        have eL : ((t.vars).map Wrow).length = (t.vars).length := List.length_map _
        by_cases hlt : k < (t.vars).length
        · have hlt2 : (k : Int) < (((t.vars).map Wrow).length : Int) := by omega
          have hsz := catL_takeS (f := vaT) (l := t.vars) (fun x hx => vaT_size (h2 x hx)) k
          have hnx := catL_take vaT (Y1) hlt
          have hfs := vaT_size (h2 _ (List.getElem_mem hlt))
          have hYs : (Y1 ++ catL vaT ((t.vars).take k)).size ≤ 60002000600200 + 200000 := by rw [ByteArray.size_append]; omega
          generalize Y1 ++ catL vaT ((t.vars).take k) = Z at hYs hnx ⊢
          have gk := vaT_ok (h2 _ (List.getElem_mem hlt))
          have g0 := gk
          have := name_size g0
          refine am_ (R_ (M_ r_ (F_ r_ (L_ 1 r_ (o_ r_ (br_ r_ (fun hlen => o_ r_ (bw_ r_ r_ (T_ (aq_ r_ u_ (as_ (al_ (B_ (an_ (M_ r_ (F_ r_ (L_ 1 r_ ?_)))))))))))))))))
          refine M_ r_ (o_ r_ (cc_ r_ r_ g_ r_ r_ b_ (o_ r_ (cb_ r_ r_ (o_ r_ (ow_strcat rfl rfl (by simp only [ByteArray.size_append, ba_lit, List.length_cons, List.length_nil] ; omega) (o_ r_ (ow_strcat rfl rfl (by simp only [ByteArray.size_append, ba_lit, List.length_cons, List.length_nil] ; omega) (o_ r_ (ow_appendS 0 rfl rfl rfl rfl rfl rfl rfl rfl (by show _ + (vaT (t.vars)[k]).size ≤ _ ; omega) (fun v1 _ => ?_)))))))))))
          refine E_ r_ (ak_ (ay_ (al_ (an_ (M_ r_ (o_ r_ (bj_ r_ r_ g_ (E_ r_ (ak_ (jq_againS (i := (k, v)) (k + 1, v1) hlt (by dsimp only; omega) ?_ ?_))))))))))
          · dsimp only
            rw [hnx]
            exact bc_ 0 r_ (bc_ 0 r_ (bc_ 0 r_ sub_end))
          · (repeat (first | exact True.intro | refine ⟨rfl, ?_⟩))
        · have hlt2 : ¬ (k : Int) < (((t.vars).map Wrow).length : Int) := by omega
          rw [List.take_of_length_le (show (t.vars).length ≤ k by omega)]
          refine am_ (R_ (M_ r_ (F_ r_ (L_ 1 r_ (o_ r_ (br_ r_ (fun hlen => o_ r_ (bw_ r_ r_ (T_ (ap_ r_ w_ (av_ (ax_ (ax_ (ba_ (jq_cutS v trivial ?_ ?_)))))))))))))))
          · exact bc_ 0 r_ (bc_ 0 r_ (bc_ 0 r_ sub_end))
          · (repeat (first | exact True.intro | refine ⟨rfl, ?_⟩))
      intro vN1 _
      have hS1 := catL_size (f := vaT) (l := t.vars) (fun x hx => vaT_size (h2 x hx))
      generalize hE2 : Y1 ++ catL vaT (t.vars) = Y2 at *
      have hY2 : Y2.size ≤ 60002000800200 := by rw [← hE2, ByteArray.size_append]; omega
      clear hS1 hY1
      refine am_ (jc_cut (ι := Value) [] (fun _ => True) (fun v => (5, .cell (.val v)) :: [(1, .cell (.val (.pointer (some ⟨bx, 0, none⟩)))), (9, In .i64 (kt : Int)), (10, .cell (.val (.pointer (some ⟨bl, 0, none⟩))))]) (fun v => [Bw v (Y2 ++ catL arT (t.arrays)), .blk bl 47 t.row, .blk bx 32 p.row]) ?_ ?_)
      · refine R_ (E_ r_ (T_ (au_ ?_)))
        refine jc_loopS (ι := Nat × Value) [] (fun i => i.1 ≤ (t.arrays).length) (fun i => (13, In .i64 (i.1 : Int)) :: (5, .cell (.val i.2)) :: [(1, .cell (.val (.pointer (some ⟨bx, 0, none⟩)))), (9, In .i64 (kt : Int)), (10, .cell (.val (.pointer (some ⟨bl, 0, none⟩))))]) (fun i => [Bw i.2 (Y2 ++ catL arT ((t.arrays).take i.1)), .blk bl 47 t.row, .blk bx 32 p.row]) (fun i => (t.arrays).length - i.1) (0, vN1) (Nat.zero_le _) ?_ ?_ ?_
        · rw [show Y2 ++ catL arT ((t.arrays).take 0) = Y2 by rw [List.take_zero, catL, ba_nil]]
          exact bc_ 0 r_ (bc_ 0 r_ (bc_ 0 r_ sub_end))
        · (repeat (first | exact True.intro | refine ⟨rfl, ?_⟩))
        rintro ⟨k, v⟩ hk
        dsimp only at hk ⊢
        have eL : ((t.arrays).map ArRow).length = (t.arrays).length := List.length_map _
        by_cases hlt : k < (t.arrays).length
        · have hlt2 : (k : Int) < (((t.arrays).map ArRow).length : Int) := by omega
          have hsz := catL_takeS (f := arT) (l := t.arrays) (fun x hx => arT_size (h3 x hx)) k
          have hnx := catL_take arT (Y2) hlt
          have hfs := arT_size (h3 _ (List.getElem_mem hlt))
          have hYs : (Y2 ++ catL arT ((t.arrays).take k)).size ≤ 60002000800200 + 200000 := by rw [ByteArray.size_append]; omega
          generalize Y2 ++ catL arT ((t.arrays).take k) = Z at hYs hnx ⊢
          have gk := arT_ok (h3 _ (List.getElem_mem hlt))
          obtain ⟨g0, g1⟩ := gk
          have := name_size g0
          have := g1.size
          refine am_ (R_ (M_ r_ (F_ r_ (L_ 1 r_ (o_ r_ (br_ r_ (fun hlen => o_ r_ (bw_ r_ r_ (T_ (aq_ r_ u_ (as_ (al_ (B_ (jc_anyB 18 none rfl k_ k_ (yM_ r_ (yF_ r_ (yL_ 1 r_ ?_)))))))))))))))))
          refine yM_ r_ (aa_ (fun c => cc_ r_ r_ g_ r_ r_ b_ p_) (aa_ (fun c => cf_ r_ r_ r_ b_ r_ b_ p_) (aa_ (fun c => cb_ r_ r_ p_) (aa_ (fun c => ow_strcat rfl rfl (by simp only [ByteArray.size_append, ba_lit, List.length_cons, List.length_nil] ; omega) p_) (aa_ (fun c => ow_strcat rfl rfl (by simp only [ByteArray.size_append, ba_lit, List.length_cons, List.length_nil] ; omega) p_) (yF_ r_ (yL_ 1 r_ (yM_ r_ ?_))))))))
          refine aa_ (fun c => cc_ r_ r_ g_ r_ r_ b_ p_) (aa_ (fun c => cf_ r_ r_ r_ b_ r_ b_ p_) (aa_ (fun c => cb_ r_ r_ p_) (aa_ (fun c => bm_ r_ (rnumF_c g1) p_) (aa_ (fun c => ow_strcat rfl rfl (by simp only [ByteArray.size_append, ba_lit, List.length_cons, List.length_nil] ; omega) p_) (aa_ (fun c => ow_strcat rfl rfl (by simp only [ByteArray.size_append, ba_lit, List.length_cons, List.length_nil] ; omega) p_) (ae_ ?_))))))
          refine afin_none (o_ r_ (ow_appendS 0 rfl rfl rfl rfl rfl rfl rfl rfl (by show _ + (arT (t.arrays)[k]).size ≤ _ ; omega) (fun v1 _ => E_ r_ (ak_ (ay_ (al_ (an_ (M_ r_ (o_ r_ (bj_ r_ r_ g_ (E_ r_ (ak_ (jq_againS (i := (k, v)) (k + 1, v1) hlt (by dsimp only; omega) ?_ ?_)))))))))))))
          · dsimp only
            rw [hnx]
            exact bc_ 0 r_ (bc_ 0 r_ (bc_ 0 r_ sub_end))
          · (repeat (first | exact True.intro | refine ⟨rfl, ?_⟩))
        · have hlt2 : ¬ (k : Int) < (((t.arrays).map ArRow).length : Int) := by omega
          rw [List.take_of_length_le (show (t.arrays).length ≤ k by omega)]
          refine am_ (R_ (M_ r_ (F_ r_ (L_ 1 r_ (o_ r_ (br_ r_ (fun hlen => o_ r_ (bw_ r_ r_ (T_ (ap_ r_ w_ (av_ (ax_ (ax_ (ba_ (jq_cutS v trivial ?_ ?_)))))))))))))))
          · exact bc_ 0 r_ (bc_ 0 r_ (bc_ 0 r_ sub_end))
          · (repeat (first | exact True.intro | refine ⟨rfl, ?_⟩))
      intro vN2 _
      have hS2 := catL_size (f := arT) (l := t.arrays) (fun x hx => arT_size (h3 x hx))
      generalize hE3 : Y2 ++ catL arT (t.arrays) = Y3 at *
      have hY3 : Y3.size ≤ 60002001000200 := by rw [← hE3, ByteArray.size_append]; omega
      clear hS2 hY2
      refine am_ (jc_cut (ι := Value) [] (fun _ => True) (fun v => (5, .cell (.val v)) :: [(1, .cell (.val (.pointer (some ⟨bx, 0, none⟩)))), (9, In .i64 (kt : Int)), (10, .cell (.val (.pointer (some ⟨bl, 0, none⟩))))]) (fun v => [Bw v (Y3 ++ catL mdT (t.modes)), .blk bl 47 t.row, .blk bx 32 p.row]) ?_ ?_)
      · refine R_ (E_ r_ (T_ (au_ ?_)))
        refine jc_loopS (ι := Nat × Value) [] (fun i => i.1 ≤ (t.modes).length) (fun i => (14, In .i64 (i.1 : Int)) :: (5, .cell (.val i.2)) :: [(1, .cell (.val (.pointer (some ⟨bx, 0, none⟩)))), (9, In .i64 (kt : Int)), (10, .cell (.val (.pointer (some ⟨bl, 0, none⟩))))]) (fun i => [Bw i.2 (Y3 ++ catL mdT ((t.modes).take i.1)), .blk bl 47 t.row, .blk bx 32 p.row]) (fun i => (t.modes).length - i.1) (0, vN2) (Nat.zero_le _) ?_ ?_ ?_
        · rw [show Y3 ++ catL mdT ((t.modes).take 0) = Y3 by rw [List.take_zero, catL, ba_nil]]
          exact bc_ 0 r_ (bc_ 0 r_ (bc_ 0 r_ sub_end))
        · (repeat (first | exact True.intro | refine ⟨rfl, ?_⟩))
        rintro ⟨k, v⟩ hk
        dsimp only at hk ⊢
        have eL : ((t.modes).map MdRow).length = (t.modes).length := List.length_map _
        by_cases hlt : k < (t.modes).length
        · have hlt2 : (k : Int) < (((t.modes).map MdRow).length : Int) := by omega
          have hsz := catL_takeS (f := mdT) (l := t.modes) (fun x hx => mdT_size (h4 x hx)) k
          have hnx := catL_take mdT (Y3) hlt
          have hfs := mdT_size (h4 _ (List.getElem_mem hlt))
          have hYs : (Y3 ++ catL mdT ((t.modes).take k)).size ≤ 60002001000200 + 200000 := by rw [ByteArray.size_append]; omega
          generalize Y3 ++ catL mdT ((t.modes).take k) = Z at hYs hnx ⊢
          have gk := mdT_ok (h4 _ (List.getElem_mem hlt))
          obtain ⟨g0, g1, g2, g3⟩ := gk
          have := name_size g0
          have := name_size g1
          have := numS_size _ g2.1 g2.2
          have := numS_size _ g3.1 g3.2
          refine am_ (R_ (M_ r_ (F_ r_ (L_ 1 r_ (o_ r_ (br_ r_ (fun hlen => o_ r_ (bw_ r_ r_ (T_ (aq_ r_ u_ (as_ (al_ (B_ (R_ (F_ r_ (L_ 1 r_ (M_ r_ ?_)))))))))))))))))
          refine o_ r_ (cc_ r_ r_ g_ r_ r_ b_ (o_ r_ (cr_ r_ r_ r_ (o_ r_ (bl_ r_ r_ (fun bl => S_ 0 r_ (T_ (jc_anyB 19 none rfl k_ k_ (yM_ r_ (yF_ r_ (yL_ 0 r_ (aa_ (fun c => ow_strcat rfl rfl (by simp only [ByteArray.size_append, ba_lit, List.length_cons, List.length_nil] ; omega) p_) (aa_ (fun c => ow_strcat rfl rfl (by simp only [ByteArray.size_append, ba_lit, List.length_cons, List.length_nil] ; omega) p_) ?_)))))))))))))
          refine yF_ r_ (yL_ 0 r_ (aa_ (fun c => ow_strcat rfl rfl (by simp only [ByteArray.size_append, ba_lit, List.length_cons, List.length_nil] ; omega) p_) (aa_ (fun c => ow_strcat rfl rfl (by simp only [ByteArray.size_append, ba_lit, List.length_cons, List.length_nil] ; omega) p_) (yF_ r_ (yL_ 0 r_ (aa_ (fun c => bm_ r_ (refNumber_c _ g2) p_) ?_))))))
          refine aa_ (fun c => ow_strcat rfl rfl (by simp only [ByteArray.size_append, ba_lit, List.length_cons, List.length_nil] ; omega) p_) (aa_ (fun c => ow_strcat rfl rfl (by simp only [ByteArray.size_append, ba_lit, List.length_cons, List.length_nil] ; omega) p_) (yF_ r_ (yL_ 0 r_ (aa_ (fun c => bm_ r_ (refNumber_c _ g3) p_) ?_))))
          refine aa_ (fun c => ow_strcat rfl rfl (by simp only [ByteArray.size_append, ba_lit, List.length_cons, List.length_nil] ; omega) p_) (aa_ (fun c => ow_strcat rfl rfl (by simp only [ByteArray.size_append, ba_lit, List.length_cons, List.length_nil] ; omega) p_) (ae_ (afin_none (o_ r_ (ow_appendS 1 rfl rfl rfl rfl rfl rfl rfl rfl (by show _ + (mdT (t.modes)[k]).size ≤ _ ; omega) (fun v1 _ => E_ r_ (ak_ (ay_ (al_ ?_)))))))))
          refine an_ (M_ r_ (o_ r_ (bj_ r_ r_ g_ (E_ r_ (ak_ (jq_againS (i := (k, v)) (k + 1, v1) hlt (by dsimp only; omega) ?_ ?_))))))
          · dsimp only
            rw [hnx]
            exact bc_ 0 r_ (bc_ 1 r_ (bc_ 1 r_ sub_end))
          · (repeat (first | exact True.intro | refine ⟨rfl, ?_⟩))
        · have hlt2 : ¬ (k : Int) < (((t.modes).map MdRow).length : Int) := by omega
          rw [List.take_of_length_le (show (t.modes).length ≤ k by omega)]
          refine am_ (R_ (M_ r_ (F_ r_ (L_ 1 r_ (o_ r_ (br_ r_ (fun hlen => o_ r_ (bw_ r_ r_ (T_ (ap_ r_ w_ (av_ (ax_ (ax_ (ba_ (jq_cutS v trivial ?_ ?_)))))))))))))))
          · exact bc_ 0 r_ (bc_ 0 r_ (bc_ 0 r_ sub_end))
          · (repeat (first | exact True.intro | refine ⟨rfl, ?_⟩))
      intro vN3 _
      have hS3 := catL_size (f := mdT) (l := t.modes) (fun x hx => mdT_size (h4 x hx))
      generalize hE4 : Y3 ++ catL mdT (t.modes) = Y4 at *
      have hY4 : Y4.size ≤ 60002001200200 := by rw [← hE4, ByteArray.size_append]; omega
      clear hS3 hY3
      refine am_ (jc_cut (ι := Value) [] (fun _ => True) (fun v => (5, .cell (.val v)) :: [(1, .cell (.val (.pointer (some ⟨bx, 0, none⟩)))), (9, In .i64 (kt : Int)), (10, .cell (.val (.pointer (some ⟨bl, 0, none⟩))))]) (fun v => [Bw v (Y4 ++ catL clT (t.claims)), .blk bl 47 t.row, .blk bx 32 p.row]) ?_ ?_)
      · refine R_ (E_ r_ (T_ (au_ ?_)))
        refine jc_loopS (ι := Nat × Value) [] (fun i => i.1 ≤ (t.claims).length) (fun i => (16, In .i64 (i.1 : Int)) :: (5, .cell (.val i.2)) :: [(1, .cell (.val (.pointer (some ⟨bx, 0, none⟩)))), (9, In .i64 (kt : Int)), (10, .cell (.val (.pointer (some ⟨bl, 0, none⟩))))]) (fun i => [Bw i.2 (Y4 ++ catL clT ((t.claims).take i.1)), .blk bl 47 t.row, .blk bx 32 p.row]) (fun i => (t.claims).length - i.1) (0, vN3) (Nat.zero_le _) ?_ ?_ ?_
        · rw [show Y4 ++ catL clT ((t.claims).take 0) = Y4 by rw [List.take_zero, catL, ba_nil]]
          exact bc_ 0 r_ (bc_ 0 r_ (bc_ 0 r_ sub_end))
        · (repeat (first | exact True.intro | refine ⟨rfl, ?_⟩))
        rintro ⟨k, v⟩ hk
        dsimp only at hk ⊢
        have eL : ((t.claims).map ClRow).length = (t.claims).length := List.length_map _
        by_cases hlt : k < (t.claims).length
        · have hlt2 : (k : Int) < (((t.claims).map ClRow).length : Int) := by omega
          have hsz := catL_takeS (f := clT) (l := t.claims) (fun x hx => clT_size (h5 x hx)) k
          have hnx := catL_take clT (Y4) hlt
          have hfs := clT_size (h5 _ (List.getElem_mem hlt))
          have hYs : (Y4 ++ catL clT ((t.claims).take k)).size ≤ 60002001200200 + 200000 := by rw [ByteArray.size_append]; omega
          generalize Y4 ++ catL clT ((t.claims).take k) = Z at hYs hnx ⊢
          have gk := clT_ok (h5 _ (List.getElem_mem hlt))
          obtain ⟨g0, g1⟩ := gk
          have := g0.size
          have := g1.size
          refine am_ (R_ (M_ r_ (F_ r_ (L_ 1 r_ (o_ r_ (br_ r_ (fun hlen => o_ r_ (bw_ r_ r_ (T_ (aq_ r_ u_ (as_ (al_ (B_ (jc_anyB 19 none rfl k_ k_ (yM_ r_ (yF_ r_ (yL_ 1 r_ ?_)))))))))))))))))
          refine yM_ r_ (aa_ (fun c => cc_ r_ r_ g_ r_ r_ b_ p_) (aa_ (fun c => cf_ r_ r_ r_ b_ r_ b_ p_) (aa_ (fun c => cb_ r_ r_ p_) (aa_ (fun c => bm_ r_ (rnumF_c g0) p_) (aa_ (fun c => ow_strcat rfl rfl (by simp only [ByteArray.size_append, ba_lit, List.length_cons, List.length_nil] ; omega) p_) (aa_ (fun c => ow_strcat rfl rfl (by simp only [ByteArray.size_append, ba_lit, List.length_cons, List.length_nil] ; omega) p_) ?_))))))
          refine yF_ r_ (yL_ 1 r_ (yM_ r_ (aa_ (fun c => cc_ r_ r_ g_ r_ r_ b_ p_) (aa_ (fun c => cf_ r_ r_ r_ b_ r_ b_ p_) (aa_ (fun c => cb_ r_ r_ p_) (aa_ (fun c => bm_ r_ (rnumF_c g1) p_) (aa_ (fun c => ow_strcat rfl rfl (by simp only [ByteArray.size_append, ba_lit, List.length_cons, List.length_nil] ; omega) p_) ?_)))))))
          refine aa_ (fun c => ow_strcat rfl rfl (by simp only [ByteArray.size_append, ba_lit, List.length_cons, List.length_nil] ; omega) p_) (ae_ (afin_none (o_ r_ (ow_appendS 0 rfl rfl rfl rfl rfl rfl rfl rfl (by show _ + (clT (t.claims)[k]).size ≤ _ ; omega) (fun v1 _ => E_ r_ (ak_ (ay_ (al_ (an_ (M_ r_ (o_ r_ (bj_ r_ r_ g_ (E_ r_ (ak_ (jq_againS (i := (k, v)) (k + 1, v1) hlt (by dsimp only; omega) ?_ ?_)))))))))))))))
          · dsimp only
            rw [hnx]
            exact bc_ 0 r_ (bc_ 0 r_ (bc_ 0 r_ sub_end))
          · (repeat (first | exact True.intro | refine ⟨rfl, ?_⟩))
        · have hlt2 : ¬ (k : Int) < (((t.claims).map ClRow).length : Int) := by omega
          rw [List.take_of_length_le (show (t.claims).length ≤ k by omega)]
          refine am_ (R_ (M_ r_ (F_ r_ (L_ 1 r_ (o_ r_ (br_ r_ (fun hlen => o_ r_ (bw_ r_ r_ (T_ (ap_ r_ w_ (av_ (ax_ (ax_ (ba_ (jq_cutS v trivial ?_ ?_)))))))))))))))
          · exact bc_ 0 r_ (bc_ 0 r_ (bc_ 0 r_ sub_end))
          · (repeat (first | exact True.intro | refine ⟨rfl, ?_⟩))
      intro vN4 _
      have hS4 := catL_size (f := clT) (l := t.claims) (fun x hx => clT_size (h5 x hx))
      generalize hE5 : Y4 ++ catL clT (t.claims) = Y5 at *
      have hY5 : Y5.size ≤ 60002001400200 := by rw [← hE5, ByteArray.size_append]; omega
      clear hS4 hY4
      have hfine := fine_of 8 20 t.body (by omega) hb hdt
      have hbs := sts_size (sp := Ksp) hfine (by show 2 + 2 * 8 ≤ 100; omega)
      have hX1 : (Y5 ++ (⟨#[98, 111, 100, 121, 10]⟩ : ByteArray)).size = Y5.size + 5 := by rw [ByteArray.size_append]; rfl
      have con1 := fun v => rbody_c 8 t.body Ksp (Y5 ++ (⟨#[98, 111, 100, 121, 10]⟩ : ByteArray)) v hfine (by show 2 + 2 * 8 ≤ 100; omega) (by omega)
      have hX3 : ((Y5 ++ (⟨#[98, 111, 100, 121, 10]⟩ : ByteArray)) ++ stsT Ksp t.body).size = (Y5 ++ (⟨#[98, 111, 100, 121, 10]⟩ : ByteArray)).size + (stsT Ksp t.body).size := ByteArray.size_append ..
      refine R_ (M_ r_ (o_ r_ (ow_appendS 0 rfl rfl rfl rfl rfl rfl rfl rfl (by simp only [ba_lit, List.length_cons, List.length_nil] ; omega) (fun v1 _ => E_ r_ (T_ (R_ (M_ r_ (F_ r_ (L_ 1 r_ (o_ r_ (bt_ [0] rfl rfl (con1 _) (fun pp hpp => E_ r_ (T_ (an_ (M_ r_ (o_ r_ (ow_appendS 0 rfl rfl rfl rfl rfl rfl rfl rfl (by simp only [ba_lit, List.length_cons, List.length_nil] ; omega) (fun v1 _ => E_ r_ ?_))))))))))))))))))
      refine ak_ (ay_ (al_ (an_ (M_ r_ (o_ r_ (bj_ r_ r_ g_ (E_ r_ (ak_ (jq_againS (i := (kt, v)) (kt + 1, v1) hltt (by dsimp only; omega) ?_ ?_)))))))))
      · dsimp only
        rw [hnx, show Z0 ++ tkT t = ((Y5 ++ (⟨#[98, 111, 100, 121, 10]⟩ : ByteArray)) ++ stsT Ksp t.body) ++ (⟨#[101, 110, 100, 10]⟩ : ByteArray) by rw [← hE5, ← hE4, ← hE3, ← hE2, ← hE1, ← hE0]; simp only [tkT, ByteArray.append_assoc]]
        exact bc_ 0 r_ (bc_ 1 r_ sub_end)
      · (repeat (first | exact True.intro | refine ⟨rfl, ?_⟩))
    · have hlt2 : ¬ (kt : Int) < ((p.tasks.map Tk.row).length : Int) := by omega
      rw [List.take_of_length_le (show p.tasks.length ≤ kt by omega)]
      refine am_ (R_ (M_ r_ (F_ r_ (L_ 1 r_ (o_ r_ (br_ r_ (fun hlen => o_ r_ (bw_ r_ r_ (T_ (ap_ r_ w_ (av_ (ax_ (ax_ (ba_ (jq_cutS v trivial ?_ ?_)))))))))))))))
      · exact bc_ 0 r_ (bc_ 0 r_ sub_end)
      · (repeat (first | exact True.intro | refine ⟨rfl, ?_⟩))
  intro vC _
  have hprog : X2 ++ catL tkT p.tasks = progT p := by rw [← hX2]; rfl
  rw [hprog]
  have hPs : (progT p).size ≤ 60002000400000 := by
    have h1 := catL_size (f := tkT) htz
    have : p.tasks.length * 60002000000 ≤ 1000 * 60002000000 := Nat.mul_le_mul_right _ zl
    rw [← hprog, ByteArray.size_append]; omega
  have ePn : ((bytesI (progT p)).map Brow).length = (progT p).size := by rw [List.length_map, bytesI_len]
  have e0 : progF p = if 8192 < (progT p).size then (⟨#[]⟩, 4) else (progT p, 0) := by unfold progF; rw [if_neg hokb, if_neg (by rw [hdeep]; simp)]
  by_cases hbig : 8192 < (progT p).size
  · have hbig2 : (8192 : Int) < (((bytesI (progT p)).map Brow).length : Int) := by omega
    rw [if_pos hbig] at e0
    refine am_ (R_ (M_ r_ (o_ r_ (cw_ 0 r_ r_ (fun hlen => o_ r_ (bz_ r_ r_ (T_ (aq_ r_ u_ (R_ (E_ r_ (E_ r_ (T_ (ar_ (aw_ (jq_ret2 rfl rfl rfl [] rfl (fun K h => by rw [e0] at h; exact h))))))))))))))))
  · have hbig2 : ¬ (8192 : Int) < (((bytesI (progT p)).map Brow).length : Int) := by omega
    rw [if_neg hbig] at e0
    refine am_ (R_ (M_ r_ (o_ r_ (cw_ 0 r_ r_ (fun hlen => o_ r_ (bz_ r_ r_ (T_ (ap_ r_ w_ (as_ (al_ (R_ (M_ r_ (jl_freeze 264 0 rfl rfl (by rw [hc]; simp [hb]) (o_ r_ (ow_bytesToString r_ r_ r_ ?_)))))))))))))))
    rw [bytesOf_bytesI]
    refine E_ r_ (E_ r_ (T_ (ar_ (jq_ret2 rfl rfl rfl [] rfl (fun K h => by rw [e0] at h; exact h)))))
end Go.Proofs.YtamajcgdfjeehaaGreatDoor
end

section
namespace Go.Proofs.YtamajcgdfjeehaaGreatDoor
open Go.Vc
theorem con_conseq {P : Program} [Gl P] {f : FuncId} {ss : List S} {Hin : List Ch} {post post' : (S → List Ch → Prop) → Prop} (hp : ∀ K, post' K → post K) (h : Con P f ss Hin post) : Con P f ss Hin post' := by
  intro vs w A h1 h2 h3 h4 h5 h6
  refine (h vs w A h1 h2 h3 h4 h5 h6).mono ?_
  rintro e w' ⟨v, s, Ho, he, hK, hs, hrest⟩
  exact ⟨v, s, Ho, he, fun K h => hK K (hp K h), hs, hrest⟩
attribute [local irreducible] JL JC JQ OpWp Con ConN
attribute [local irreducible] progT StG BlG
theorem progF_ok {p : Pg} (h : (progF p).2 = 0) : okPg p = true ∧ p.tasks.any (fun t => dpF 8 t.body) = false ∧ (progT p).size ≤ 8192 ∧ (progF p).1 = progT p := by
  unfold progF at h ⊢
  by_cases h1 : okPg p = false
  · rw [if_pos h1] at h; cases h
  rw [if_neg h1] at h ⊢
  by_cases h2 : p.tasks.any (fun t => dpF 8 t.body) = true
  · rw [if_pos h2] at h; cases h
  rw [if_neg h2] at h ⊢
  by_cases h3 : 8192 < (progT p).size
  · rw [if_pos h3] at h; cases h
  rw [if_neg h3]
  exact ⟨by simpa using h1, by simpa using h2, by omega, rfl⟩
attribute [local irreducible] progF

theorem gNewT_c (L : List Int) : Con Tryz.prog 10 [.cell (.list (L.map Irow))] [] (fun K => ∀ b : Nat, True → K (Ptr b) [Dk b L]) := con_conseq (fun _ h b => h b trivial) (gNew_c L)
theorem TaskG.sz {Sh : List Shd} {nm : ByteArray} {W : Int} {t : Tk} (h : TaskG Sh nm W t) : TkSz t := by
  obtain ⟨lab, l, n, hl, hb⟩ := h.body
  have h1 := body_szs hl
  have h2 := Sm.szs_take l n
  refine ⟨by have := h.inputs.1; omega, by rw [h.vars]; decide, ?_, ?_, ?_, by rw [hb]; omega⟩
  · rcases h.arrays with e | ⟨k, _, e⟩ <;> rw [e] <;> simp
  · rcases h.modes with e | ⟨x, lo, hi, _, _, e⟩ <;> rw [e] <;> simp
  · rcases h.claims with e | ⟨a, b, _, _, _, e⟩ <;> rw [e] <;> simp
theorem PgG.sz {T : Nat} {W : Int} {p : Pg} (hT : T ≤ 1000) (h : PgG T W p) : PgSz p := by
  refine ⟨?_, ?_, by rw [h.len]; exact hT, ?_⟩
  · obtain ⟨n, hn, e⟩ := h.res
    rw [e]
    rcases n with _ | _ | n <;> simp [RSl]
  · rcases h.shared with e | ⟨r, k, _, _, e⟩ <;> rw [e] <;> simp
  · intro t ht
    obtain ⟨i, hi, rfl⟩ := List.mem_iff_getElem.1 ht
    exact (h.tasks i hi).sz
theorem Text_c (p : Pg) (hz : PgSz p) : Con Tryz.prog 8 [.row p.row] [] (fun K => K (.tup [Str (progF p).1, In .i64 (progF p).2]) []) := by
  refine con_intro Tryz.func8 rfl rfl (Nat.le_of_ble_eq_true rfl) (fun c hc => R_ (o_ r_ (ci_ r_ (fun bx => E_ r_ (E_ r_ (T_ (R_ (A_ 0 r_ (o_ r_ (bm_ r_ (rProg_c p hz) (X_ r_ (X_ r_ (E_ r_ (E_ r_ (T_ (ar_ (jq_ret2 rfl rfl rfl [] rfl (fun K h => h))))))))))))))))))
end Go.Proofs.YtamajcgdfjeehaaGreatDoor
end

section
namespace Go.Vc
open Go.RowKit

theorem store_free {P : Program} {w : World} {g o : Nat} {t : TypeId} {fz : Nat × Nat} {cur : Array Value} {v : Value} (hg : w.heap[g]? = some (.cells cur t fz)) (hfz : ∀ k, k < cur.size → ¬ (fz.1 ≤ k ∧ k < fz.2)) (ho : o < cur.size) (h1 : v.oneCell' = true) :
    (store (⟨g, o, none⟩ : Addr) v).run P w = .ok () (w.setRow g (cur.setIfInBounds o v)) := by
  have hcell : w.cell? ⟨g, o, none⟩ = some cur[o] := by simp [World.cell?, hg, ho]
  have hfro : w.frozen? ⟨g, o, none⟩ = false := by
    have := hfz o ho
    obtain ⟨lo, hi⟩ := fz
    simp only [World.frozen?, hg, Bool.and_eq_false_iff, decide_eq_false_iff_not]
    simp only at this
    omega
  rw [run_store P w _ v _ h1, hcell]
  simp [hfro, setCell_eq_setRow w g o cur t fz v hg]
theorem run_storeCells_free (P : Program) (g o : Nat) (t : TypeId) (fz : Nat × Nat) : ∀ (vs : List Value) (i : Nat) (cur : Array Value) (w : World), w.heap[g]? = some (.cells cur t fz) → (∀ k, k < cur.size → ¬ (fz.1 ≤ k ∧ k < fz.2)) → o + i + vs.length ≤ cur.size → (∀ v ∈ vs, v.oneCell' = true) →
    (storeCells ⟨g, o, none⟩ vs i).run P w = .ok () (w.setRow g (cur.toList.take (o + i) ++ vs ++ cur.toList.drop (o + i + vs.length)).toArray)
  | [], i, cur, w, hg, _, _, _ => by
    simp only [storeCells, List.append_nil, List.length_nil, Nat.add_zero, List.take_append_drop, Array.toArray_toList]
    rw [setRow_self w g cur t fz hg]
    rfl
  | v :: rest, i, cur, w, hg, hfz, hl, h1 => by
    have hi : o + i < cur.size := by simp at hl; omega
    have hadd : (⟨g, o, none⟩ : Addr).add i = ⟨g, o + i, none⟩ := by unfold Addr.add; split <;> simp_all
    have hst : (store ((⟨g, o, none⟩ : Addr).add i) v).run P w = .ok () (w.setRow g (cur.setIfInBounds (o + i) v)) := by
      rw [hadd]
      exact store_free hg hfz hi (h1 v (by simp))
    have ih := run_storeCells_free P g o t fz rest (i + 1) (cur.setIfInBounds (o + i) v) (w.setRow g (cur.setIfInBounds (o + i) v)) (setRow_heap w g cur _ t _ hg) (by simpa using hfz) (by simp at hl ⊢; omega) (fun x hx => h1 x (by simp [hx]))
    simp only [storeCells, Sem.run_bind, hst, Result.andThen_ok, ih, setRow_setRow]
    congr 3
    have e1 : (cur.setIfInBounds (o + i) v).toList = cur.toList.set (o + i) v := by simp
    rw [e1, show o + (i + 1) = o + i + 1 by omega, List.length_cons, show o + i + (rest.length + 1) = o + i + 1 + rest.length by omega]
    have hlt : o + i < cur.toList.length := by simpa using hi
    rw [List.take_set, List.drop_set_of_lt (by omega)]
    rw [List.take_succ_eq_append_getElem hlt, List.set_append_right _ _ (by simp; omega)]
    simp [Nat.min_eq_left (Nat.le_of_lt hi)]
section
variable {P : Program} [Gl P] {nt : Nat} {c : Cx P nt} {env : Env} {H Hr : List Ch} {K : S → List Ch → Prop}
variable {d : Option Tmp} {ty t t' u : TypeId} {pos : String} {af : Array Edge} {g : Option (Nat × Bool)} {x y : Operand}
theorem ow_strBytesB [TI P t] [SL P t'] (ht : TI.u P t = .string) (he : TI.u P (SL.e P t') = .int .u8) {s : ByteArray} (hs : s.size ≤ 9223372036854775807) (hx : env.ev x = some (Str s))
    (hK : ∀ v, c.Fresh v → K (.cell (.val v)) (.ownB v (SL.e P t') (bytesI s) :: H)) : OpWp c ⟨d, .convert t t' x, ty, pos, af, g⟩ env H K := by
  intro a w h next Q hn
  have hrun := run_bytes_of_string (P := P) w t t' (SL.e P t') s (by rw [TI.hu (P := P) (t := t), ht]) SL.hs (by rw [TI.hu (P := P) (t := SL.e P t'), he])
  have hge := grownCap_ge w s.size 0 (SL.e P t')
  have hcm : grownCap w s.size 0 (SL.e P t') ≤ maxLen := grownCap_le_maxLen w s.size 0 (SL.e P t') (by unfold maxLen; omega)
  generalize grownCap w s.size 0 (SL.e P t') = cap at hrun hge hcm
  have hbz : (bytesRow s cap).size = cap := by
    unfold bytesRow
    simp only [Array.size_append, Array.size_map, Array.size_replicate]
    have : s.data.size = s.size := rfl
    omega
  generalize hww : w.drew.alloc (.cells (bytesRow s cap) (SL.e P t') ((bytesRow s cap).size, (bytesRow s cap).size + 1)) = w' at hrun
  have hsz : w'.heap.size = w.heap.size + 1 := by rw [← hww]; simp
  have hold : ∀ k, k < w.heap.size → w'.heap[k]? = w.heap[k]? := fun k hk => by rw [← hww]; exact (MapKept.heap_alloc w.drew _).2 k hk
  have hnew : w'.heap[w.heap.size]? = some (.cells (bytesRow s cap) (SL.e P t') ((bytesRow s cap).size, (bytesRow s cap).size + 1)) := by rw [← hww]; exact (MapKept.heap_alloc w.drew _).1
  have hg : Grow (hb []) w w' := ⟨by rw [← hww]; rfl, by rw [← hww]; rfl, by rw [← hww]; rfl, by omega, fun k hk _ => hold k hk⟩
  have h' : StW c ([] ++ H) w := h.heap
  have hlen : (bytesI s).length = s.size := bytesI_len s
  obtain ⟨s1, s2⟩ := StW.step (H1' := [.ownB (.slice (some ⟨w.heap.size, 0, none⟩) s.size cap) (SL.e P t') (bytesI s)]) h' hg (by simp [hb, Ch.bs, Value.ownBlock]) (by simp [hb, Ch.bs, Value.ownBlock]) (by
    intro ch hch
    simp only [List.mem_singleton] at hch
    subst hch
    refine ⟨w.heap.size, cap, bytesRow s cap, _, by rw [hlen], hnew, fun k hk => by simp only; omega, by rw [hlen]; exact hge, hcm, hbz, ?_⟩
    unfold bytesRow
    rw [Array.toList_append, List.take_left' (by rw [hlen]; simp)]
    simp [bytesI])
  unfold Oper.wp
  have hex : (execOp a.eval ⟨d, .convert t t' x, ty, pos, af, g⟩).run P w = .ok (.value (.slice (some ⟨w.heap.size, 0, none⟩) s.size cap)) w' := by
    simp only [execOp, ev_val h hx, Sem.run_bind, hrun, Result.andThen_ok, Sem.run_pure]
  rw [hex]
  exact hn _ _ _ _ (hK _ (fun b hb => by simp only [Value.ownBlock, Option.some.injEq] at hb; have := h.heap.size; omega)) s1 ⟨rfl, rfl⟩ s2
theorem bytes_ok {a : Act} {w : World} {v : Value} {e : TypeId} {L : List Int} {j : Nat} (h : St c env H a w) (hp : pick [j] H = some ([.ownB v e L], Hr)) : BytesOk w e v L := h.heap.ok (.ownB v e L) ((pick_perm hp).mem_iff.2 (by simp))
theorem ow_lenB [SL P t] {v : Value} {e : TypeId} {L : List Int} (j : Nat) (hx : env.ev x = some (.cell (.val v))) (hp : pick [j] H = some ([.ownB v e L], Hr)) (hK : L.length ≤ 9223372036854775807 → K (In .i64 L.length) H) :
    OpWp c ⟨d, .call { callee := .builtin .len, args := #[x], argTypes := #[t] }, ty, pos, af, g⟩ env H K := by
  by_cases hm : L.length ≤ 9223372036854775807
  · exact ow_valx rfl (fun a w hs => by
      obtain ⟨g, cap, cur, fz, hv, _⟩ := bytes_ok hs hp
      simp [execOp, resolve, invoke, builtin, Builtin.len_, run_elem t, ev_val hs hx, hv, goInt]) (hK hm)
  · intro a w hs
    obtain ⟨g, cap, cur, fz, hv, _, _, h1, h2, _⟩ := bytes_ok hs hp
    unfold maxLen at h2
    omega
theorem ow_indexB [SL P t] {v : Value} {e : TypeId} {L : List Int} {m : Int} (j : Nat) (hx : env.ev x = some (.cell (.val v))) (hp : pick [j] H = some ([.ownB v e L], Hr)) (hy : env.ev y = some (In .i64 m)) (h0 : 0 ≤ m) (hlt : m.toNat < L.length)
    (hz : (TI.i P (SL.e P t)).size = 1) (hK : K (.cell (.inn v m.toNat)) H) : OpWp c ⟨d, .indexAddr t x y, ty, pos, af, g⟩ env H K :=
  ow_val (fun a w h => by
    obtain ⟨b, cap, cur, fz, rfl, _⟩ := bytes_ok h hp
    refine ⟨.pointer (some ⟨b, m.toNat, none⟩), ?_, b, L.length, cap, rfl, rfl⟩
    have : 0 ≤ m ∧ m < ↑L.length := ⟨h0, by omega⟩
    simp [execOp, ev_val h hx, ev_val h hy, Instr.indexAt, asIntOf, run_elem t, this, run_sizeOf, add_at, hz]) hK
theorem ow_storeB [TI P t] {v : Value} {e : TypeId} {i : Nat} {L : List Int} {n : Int} (j : Nat) (hx : env.ev x = some (.cell (.inn v i))) (hy : env.ev y = some (In .u8 n)) (hp : pick [j] H = some ([.ownB v e L], Hr)) (hlt : i < L.length)
    (hz : (TI.i P t).size = 1) (hK : K .void (.ownB v e (L.set i n) :: Hr)) : OpWp c ⟨d, .store t x y, ty, pos, af, g⟩ env H K := by
  intro a w h next Q hn
  have hperm := pick_perm hp
  have h' : StW c (.ownB v e L :: Hr) w := h.heap.perm hperm
  have hav : c.av (.ownB v e L :: Hr) = c.av H := av_perm c hperm
  obtain ⟨b, n', cap, hv, hxe⟩ := ev_ok h hx
  subst hv
  obtain ⟨b', cap', cur, fz, hve, hh, hfz, g3, g4, g5, g6⟩ := bytes_ok h hp
  simp only [Value.slice.injEq, Option.some.injEq, Addr.mk.injEq] at hve
  obtain ⟨⟨rfl, _⟩, rfl, rfl⟩ := hve
  have hyv := ev_val h hy
  have hst := store_free (P := P) (v := .int .u8 n) hh hfz (show i < cur.size by omega) rfl
  have hrun : (execOp a.eval ⟨d, .store t x y, ty, pos, af, g⟩).run P w = .ok .skip (w.setRow b (cur.setIfInBounds i (.int .u8 n))) := by
    have hsz : ¬ (Value.int IntKind.u8 n).cells.size ≠ (TI.i P t).size := by rw [hz]; simp [Value.cells]
    have hadd : (⟨b, i, none⟩ : Addr).add 0 = ⟨b, i, none⟩ := by unfold Addr.add; split <;> simp_all
    simp only [execOp, hxe, hyv, Instr.storeAt, Instr.sureAddr, storeVar, Sem.run_bind, Sem.run_pure, Result.andThen_ok, run_sizeOf, if_neg hsz]
    simp [Value.cells, storeCells, hadd, hst]
  have hg : Grow (hb [.ownB (.slice (some ⟨b, 0, none⟩) L.length cap) e L]) w (w.setRow b (cur.setIfInBounds i (.int .u8 n))) := setRow_grow w b _
  obtain ⟨s1, s2⟩ := StW.step (H1 := [.ownB (.slice (some ⟨b, 0, none⟩) L.length cap) e L]) (H1' := [.ownB (.slice (some ⟨b, 0, none⟩) L.length cap) e (L.set i n)]) h' hg (fun b hb => .inl hb) (by simp [hb, Ch.bs, Value.ownBlock]) (by
    intro ch hch
    simp only [List.mem_singleton] at hch
    subst hch
    refine ⟨b, cap, _, fz, by rw [List.length_set], setRow_heap w b _ _ e _ hh, by simpa using hfz, by rw [List.length_set]; exact g3, g4, by simpa using g5, ?_⟩
    rw [List.length_set, Array.toList_setIfInBounds, List.take_set, g6, List.map_set])
  unfold Oper.wp
  rw [hrun]
  exact hn .void _ undef _ hK s1 trivial (fun s v hs => s2 s v (by rw [List.singleton_append, hav]; exact hs))
theorem ow_trimB [SL P t] {v : Value} {e : TypeId} {L : List Int} {m : Int} (j : Nat) (hx : env.ev x = some (.cell (.val v))) (hp : pick [j] H = some ([.ownB v e L], Hr)) (hy : env.ev y = some (In .i64 m)) (h0 : 0 ≤ m) (hle : m.toNat ≤ L.length)
    (hK : K (.cell (.val (trimV v m.toNat))) H) : OpWp c ⟨d, .slice t x none (some y) none, ty, pos, af, g⟩ env H K :=
  ow_val (fun a w h => by
    obtain ⟨b, cap, cur, fz, rfl, _, _, h1, _⟩ := bytes_ok h hp
    refine ⟨.slice (some ⟨b, 0, none⟩) m.toNat cap, ?_, rfl, rfl⟩
    have hb : 0 ≤ m ∧ m ≤ (cap : Int) := ⟨h0, by omega⟩
    simp [execOp, ev_val h hx, ev_val h hy, Instr.sliceAt, Instr.slice, Instr.sliceBounds, Instr.sliceBound, asIntOf, run_elem t, run_sizeOf, hb]
    intro _
    simp [Addr.add]) hK
theorem ow_sufB [SL P t] {v : Value} {e : TypeId} {L : List Int} {m : Int} (j : Nat) (hx : env.ev x = some (.cell (.val v))) (hp : pick [j] H = some ([.ownB v e L], Hr)) (hy : env.ev y = some (In .i64 m)) (h0 : 0 ≤ m) (hle : m.toNat ≤ L.length)
    (hz : (TI.i P (SL.e P t)).size = 1) (hK : K (.cell (.val (sufV v m.toNat 1))) H) : OpWp c ⟨d, .slice t x (some y) none none, ty, pos, af, g⟩ env H K :=
  ow_val (fun a w h => by
    obtain ⟨b, cap, cur, fz, rfl, _⟩ := bytes_ok h hp
    refine ⟨_, ?_, rfl, rfl⟩
    have hb : 0 ≤ m ∧ m ≤ (L.length : Int) := ⟨h0, by omega⟩
    simp [execOp, ev_val h hx, ev_val h hy, Instr.sliceAt, Instr.slice, Instr.sliceBounds, Instr.sliceBound, asIntOf, run_elem t, run_sizeOf, hb, sufV, hz]) hK
/-- append(b[:i], b[k:]...), in place. -/
theorem ow_appendCutB [SL P t] {v : Value} {e : TypeId} {L : List Int} {i k : Nat} (j : Nat) (hx : env.ev x = some (.cell (.val (trimV v i)))) (hy : env.ev y = some (.cell (.val (sufV v k 1)))) (hp : pick [j] H = some ([.ownB v e L], Hr)) (he : e = SL.e P t) (hik : i ≤ k) (hk : k ≤ L.length) (hk1 : k ≤ i + 1)
    (hz : (TI.i P (SL.e P t)).size = 1) (hK : K (.cell (.val (trimV v (i + (L.length - k))))) (.ownB (trimV v (i + (L.length - k))) e (L.take i ++ L.drop k) :: Hr)) :
    OpWp c ⟨d, .call { callee := .builtin .append, args := #[x, y], argTypes := #[t, t] }, ty, pos, af, g⟩ env H K := by
  subst he
  intro a w h next Q hn
  have hperm := pick_perm hp
  have h' : StW c (.ownB v (SL.e P t) L :: Hr) w := h.heap.perm hperm
  have hav : c.av (.ownB v (SL.e P t) L :: Hr) = c.av H := av_perm c hperm
  obtain ⟨b, cap, cur, fz, rfl, hh, hfz, g3, g4, g5, g6⟩ := bytes_ok h hp
  have h1x := ev_val h hx
  have h1y := ev_val h hy
  have hcl : cur.toList.length = cap := by simpa using g5
  have hnl : (L.drop k).length = L.length - k := List.length_drop ..
  -- the cells that are moved
  have hget : ∀ q u, ((L.drop k).map (Value.int .u8))[q]? = some u → w.cell? ⟨b, k + q, none⟩ = some u := by
    intro q u hq
    rw [List.getElem?_map, List.getElem?_drop, ← List.getElem?_map, ← g6] at hq
    have hq2 : k + q < L.length := by
      rcases Nat.lt_or_ge (k + q) L.length with h | h
      · exact h
      · rw [List.getElem?_eq_none (by rw [List.length_take]; omega)] at hq; cases hq
    rw [List.getElem?_take_of_lt hq2] at hq
    simp only [World.cell?, hh]
    rw [← Array.getElem?_toList]
    exact hq
  obtain ⟨M, hM⟩ : ∃ M, M = (L.drop k).map (Value.int .u8) := ⟨_, rfl⟩
  have hMl : M.length = L.length - k := by rw [hM, List.length_map, hnl]
  have hMo : ∀ u ∈ M, u.oneCell' = true := by intro u hu; rw [hM] at hu; obtain ⟨n, _, rfl⟩ := List.mem_map.1 hu; rfl
  rw [← hM] at hget
  have hst := run_storeCells_free P b i (SL.e P t) fz M 0 cur w hh hfz (by omega) hMo
  simp only [Nat.add_zero] at hst
  have hrun : (execOp a.eval ⟨d, .call { callee := .builtin .append, args := #[x, y], argTypes := #[t, t] }, ty, pos, af, g⟩).run P w = .ok (.value (.slice (some ⟨b, 0, none⟩) (i + (L.length - k)) cap)) (w.setRow b (cur.toList.take i ++ M ++ cur.toList.drop (i + M.length)).toArray) := by
    have hroom : i + (L.length - k) ≤ cap := by omega
    simp only [trimV] at h1x
    simp only [sufV] at h1y
    simp only [execOp, resolve, invoke, builtin, Sem.run_bind, Sem.run_pure, Result.andThen_ok, List.map_toArray, List.map_cons, List.map_nil, h1x, h1y]
    have hfc : (Builtin.firstCells 1 (L.length - k) (.slice (if cap = k then some ⟨b, 0, none⟩ else some ((⟨b, 0, none⟩ : Addr).add k)) (L.length - k) (cap - k))).run P w = .ok M.toArray w := by
      by_cases hck : cap = k
      · have h0 : L.length - k = 0 := by omega
        have hM0 : M = [] := List.eq_nil_of_length_eq_zero (by omega)
        rw [if_pos hck, h0, hM0]
        exact run_firstCells_some (P := P) w 1 0 ⟨b, 0, none⟩ 0 (cap - k) [] (by simp) (by simp)
      · rw [if_neg hck]
        have hadd : (⟨b, 0, none⟩ : Addr).add k = ⟨b, k, none⟩ := by rw [add_at]; simp
        rw [hadd]
        exact run_firstCells_some (P := P) w 1 (L.length - k) ⟨b, k, none⟩ (L.length - k) (cap - k) M (by omega) (fun q u hq => by rw [add_at]; exact hget q u hq)
    have hadd2 : (⟨b, 0, none⟩ : Addr).add i = ⟨b, i, none⟩ := by rw [add_at]; simp
    simp [Builtin.append_, run_elem t, run_sizeOf, Builtin.lenOf, hz, hroom, hfc, hadd2, hst]
  generalize hw2 : w.setRow b (cur.toList.take i ++ M ++ cur.toList.drop (i + M.length)).toArray = w2 at hrun
  have hg : Grow (hb [.ownB (.slice (some ⟨b, 0, none⟩) L.length cap) (SL.e P t) L]) w w2 := by rw [← hw2]; exact setRow_grow w b _
  have hll : (L.take i ++ L.drop k).length = i + (L.length - k) := by rw [List.length_append, hnl, List.length_take]; omega
  obtain ⟨s1, s2⟩ := StW.step (H1 := [.ownB (.slice (some ⟨b, 0, none⟩) L.length cap) (SL.e P t) L]) (H1' := [.ownB (.slice (some ⟨b, 0, none⟩) (i + (L.length - k)) cap) (SL.e P t) (L.take i ++ L.drop k)]) h' hg (fun b hb => .inl hb) (by simp [hb, Ch.bs, Value.ownBlock]) (by
    intro ch hch
    simp only [List.mem_singleton] at hch
    subst hch
    have hn2 : (cur.toList.take i ++ M ++ cur.toList.drop (i + M.length)).length = cap := by
      simp only [List.length_append, List.length_take, List.length_drop]
      omega
    refine ⟨b, cap, _, fz, by rw [hll], by rw [← hw2]; exact setRow_heap w b _ _ _ _ hh, by rw [List.size_toArray, hn2, ← g5]; exact hfz, by rw [hll]; omega, g4, by rw [List.size_toArray, hn2], ?_⟩
    rw [hll, List.map_append, List.map_take, ← g6, List.take_take, Nat.min_eq_left (by omega), ← hM]
    exact List.take_left' (by simp only [List.length_append, List.length_take]; omega))
  unfold Oper.wp
  rw [hrun]
  exact hn _ _ _ _ hK s1 ⟨rfl, rfl⟩ (fun s v hs => s2 s v (by rw [List.singleton_append, hav]; exact hs))
/-- Such bytes, only read from here on. -/
theorem st_freezeBy {a : Act} {w : World} {i j : Nat} {v : Value} {e : TypeId} {L : List Int} (h : St c env H a w) (hi : env.lookup i = some (.cell (.val v))) (hp : pick [j] H = some ([.ownB v e L], Hr)) (hX : c.Fresh v) :
    St c ((i, .cell (.list (L.map Brow))) :: env) Hr a w := by
  have h' : StW c ([.ownB v e L] ++ Hr) w := h.heap.perm (pick_perm hp)
  have hav : c.av ([.ownB v e L] ++ Hr) = c.av H := av_perm c (pick_perm hp)
  obtain ⟨d1, d2⟩ := h'.drop
  obtain ⟨b, cap, cur, fz, rfl, hh, hfz, g3, g4, g5, g6⟩ := bytes_ok h hp
  have hnd := h'.nodup
  rw [List.singleton_append, hb_cons, List.nodup_append] at hnd
  have hgn : b ∉ hb Hr := fun hx => hnd.2.2 b (by simp [Ch.bs, Value.ownBlock]) b hx rfl
  have hgA : ¬ c.av Hr b := by
    intro hx
    rcases hx with hx | hx
    · have := hX b rfl; have := c.bnd b hx; omega
    · exact hgn hx
  have hrows : ∀ (w : World) (A : Nat → Prop) (L : List Int), RdRows w A 1 (L.map Brow) (L.map (Value.int .u8)) := by
    intro w A L
    induction L with
    | nil => rfl
    | cons n L ih => exact ⟨[.int .u8 n], L.map (Value.int .u8), rfl, rfl, ⟨_, _, rfl, ⟨rfl, rfl⟩, rfl⟩, ih⟩
  refine ⟨h.size, h.defers, fun t s hl => ?_, d1⟩
  rcases lookup_cons hl with ⟨rfl, rfl⟩ | ⟨_, hl⟩
  · have : a.tmps.getD t undef = .slice (some ⟨b, 0, none⟩) L.length cap := (h.slots t _ hi).1
    rw [this]
    refine ⟨some ⟨b, 0, none⟩, cap, by rw [List.length_map], by rw [List.length_map]; exact g3, g4, .inr ⟨b, 0, L.map (Value.int .u8), 1, rfl, hgA, ?_, Nat.one_pos, hrows _ _ L⟩⟩
    intro q u hq
    rw [← g6] at hq
    have hq2 : q < L.length := by
      rcases Nat.lt_or_ge q L.length with h | h
      · exact h
      · rw [List.getElem?_eq_none (by rw [List.length_take]; omega)] at hq; cases hq
    rw [List.getElem?_take_of_lt hq2] at hq
    simp only [World.cell?, hh, Nat.zero_add]
    rw [← Array.getElem?_toList]
    exact hq
  · exact d2 _ _ (by rw [hav]; exact h.slots t s hl)
theorem jc_freezeBy {Q : Exit → Act → World → Prop} {code : Code} (i j : Nat) {v : Value} {e : TypeId} {L : List Int} (hi : env.lookup i = some (.cell (.val v))) (hp : pick [j] H = some ([.ownB v e L], Hr)) (hX : c.Fresh v)
    (h : JC c code Q ((i, .cell (.list (L.map Brow))) :: env) Hr) : JC c code Q env H := fun a w hs => h a w (st_freezeBy hs hi hp hX)
theorem fresh_trim {v : Value} {m : Nat} (h : c.Fresh v) : c.Fresh (trimV v m) := by
  intro b hb
  cases v with
  | slice p n cap => cases p <;> exact h b hb
  | _ => exact h b hb
theorem rdRows_drop {w : World} {A : Nat → Prop} {k : Nat} : ∀ {rows : List (List C)} {vs : List Value} (m : Nat), RdRows w A k rows vs → RdRows w A k (rows.drop m) (vs.drop (m * k))
  | _, _, 0, h => by simpa using h
  | [], _, m + 1, h => by simp only [RdRows] at h; subst h; simp [RdRows]
  | r0 :: rows, _, m + 1, h => by
    obtain ⟨c0, r, rfl, q1, q2, q3⟩ := h
    rw [List.drop_succ_cons, Nat.add_mul, Nat.one_mul, Nat.add_comm (m * k) k, ← List.drop_drop, List.drop_left' q1]
    exact rdRows_drop m q3
theorem list_drop {w : World} {A : Nat → Prop} {rows : List (List C)} {ad : Option Addr} {cap m q : Nat} (hb : rows.length = 0 ∨ ∃ b off vs k, ad = some ⟨b, off, none⟩ ∧ ¬ A b ∧ Cells w b off vs ∧ 0 < k ∧ RdRows w A k rows vs) (h1 : rows.length ≤ cap) (h2 : cap ≤ maxLen) (hle : m ≤ rows.length) (hk : ∀ row ∈ rows, row.length = q) :
    Rd1 w A (.list (rows.drop m)) (.slice (if cap = m then ad else ad.map (·.add (m * q))) (rows.length - m) (cap - m)) := by
  have hlen : (rows.drop m).length = rows.length - m := List.length_drop ..
  refine ⟨_, _, by rw [hlen], by omega, by omega, ?_⟩
  by_cases hnil : rows.length = m
  · exact .inl (by omega)
  rcases hb with hb | ⟨b, off, vs, k, rfl, hA, hc, hk2, hr⟩
  · exact .inl (by omega)
  · have hkk : k = q := by
      match rows, hr, hk, hnil, hle with
      | [], _, _, hn, hl => simp at hn hl; omega
      | r0 :: _, hr, hk, _, _ =>
        obtain ⟨c0, _, _, q1, q2, _⟩ := hr
        rw [← q1, rdRow_length q2]
        exact hk r0 (by simp)
    have hcm : ¬ cap = m := by omega
    rw [if_neg hcm]
    exact .inr ⟨b, off + m * k, vs.drop (m * k), k, by rw [← hkk]; simp [add_at], hA, cells_drop hc _, hk2, rdRows_drop _ hr⟩
theorem hok_prefix {Sw : World → Prop} [SL P t] {rows : List (List C)} {m : Int} (hx : env.ev x = some (.cell (.list rows))) (hy : env.ev y = some (In .i64 m)) (h0 : 0 ≤ m) (hle : m.toNat ≤ rows.length) :
    HOk c Sw env H ⟨d, .slice t x none (some y) none, ty, pos, af, none⟩ (.cell (.list (rows.take m.toNat))) :=
  fun a w h _ => by
    obtain ⟨ad, cap, he, h1, h2, hb⟩ := ev_ok h hx
    refine ⟨.slice ad m.toNat cap, fun w' _ => ?_, ?_⟩
    · have hb : 0 ≤ m ∧ m ≤ (cap : Int) := ⟨h0, by omega⟩
      simp [execOp, he, ev_val h hy, Instr.sliceAt, Instr.slice, Instr.sliceBounds, Instr.sliceBound, asIntOf, run_elem t, run_sizeOf, hb]
      intro _
      cases ad <;> simp [Addr.add]
    · have hlen : (rows.take m.toNat).length = m.toNat := by simp; omega
      refine ⟨ad, cap, by rw [hlen], by omega, h2, ?_⟩
      rcases hb with hb | ⟨b, off, vs, k, rfl, hA, hc, hk, hr⟩
      · exact .inl (by omega)
      · exact .inr ⟨b, off, vs.take (m.toNat * k), k, rfl, hA, cells_take hc _, hk, rdRows_take m.toNat hr hle⟩
theorem hok_suffix {Sw : World → Prop} [SL P t] {rows : List (List C)} {m : Int} (hx : env.ev x = some (.cell (.list rows))) (hy : env.ev y = some (In .i64 m)) (h0 : 0 ≤ m) (hle : m.toNat ≤ rows.length) {k : Nat} (hz : (TI.i P (SL.e P t)).size = k) (hk : ∀ row ∈ rows, row.length = k) :
    HOk c Sw env H ⟨d, .slice t x (some y) none none, ty, pos, af, none⟩ (.cell (.list (rows.drop m.toNat))) :=
  fun a w h _ => by
    rw [← hz] at hk
    obtain ⟨ad, cap, he, h1, h2, hb⟩ := ev_ok h hx
    refine ⟨.slice (if cap = m.toNat then ad else ad.map (·.add (m.toNat * (TI.i P (SL.e P t)).size))) (rows.length - m.toNat) (cap - m.toNat), fun w' _ => ?_, list_drop hb h1 h2 hle hk⟩
    have hb : 0 ≤ m ∧ m ≤ (rows.length : Int) := ⟨h0, by omega⟩
    simp [execOp, he, ev_val h hy, Instr.sliceAt, Instr.slice, Instr.sliceBounds, Instr.sliceBound, asIntOf, run_elem t, run_sizeOf, hb]
theorem hok_indexList {Sw : World → Prop} [SL P t] {rows : List (List C)} {m : Int} {row : List C} (hx : env.ev x = some (.cell (.list rows))) (hy : env.ev y = some (In .i64 m)) (h0 : 0 ≤ m) (hrow : rows[m.toNat]? = some row) (hz : (TI.i P (SL.e P t)).size = row.length) (hp : 0 < row.length) :
    HOk c Sw env H ⟨d, .indexAddr t x y, ty, pos, af, none⟩ (.cell (.place row)) :=
  fun a w h _ => by
    obtain ⟨hlt, _⟩ := List.getElem?_eq_some_iff.1 hrow
    obtain ⟨ad, cap, he, _, _, hb⟩ := ev_ok h hx
    rcases hb with hb | ⟨b, off, vs, k, rfl, hA, hc, hk, hr⟩
    · omega
    · obtain ⟨cs, h1, h2, h3⟩ := rdRows_get hr hc hrow
      have hkl : k = row.length := by rw [← h2, rdRow_length h1]
      refine ⟨.pointer (some ⟨b, off + m.toNat * k, none⟩), fun w' _ => ?_, b, _, cs, rfl, hA, hp, h3, h1⟩
      have : 0 ≤ m ∧ m < ↑rows.length := ⟨h0, by omega⟩
      simp [execOp, he, ev_val h hy, Instr.indexAt, asIntOf, run_elem t, this, run_sizeOf, add_at, hz, hkl]
theorem hok_indexMap {Sw : World → Prop} [SL P t] {α : Type} {f : α → List C} {l : List α} {m : Int} (hx : env.ev x = some (.cell (.list (l.map f)))) (hy : env.ev y = some (In .i64 m)) (h0 : 0 ≤ m) (hlt : m.toNat < l.length) {k : Nat} (hz : (TI.i P (SL.e P t)).size = k) (hf : ∀ a, (f a).length = k) (hp : 0 < k) :
    HOk c Sw env H ⟨d, .indexAddr t x y, ty, pos, af, none⟩ (.cell (.place (f l[m.toNat]))) :=
  hok_indexList hx hy h0 (by simp [List.getElem?_eq_getElem hlt]) (by rw [hz, hf]) (by rw [hf]; exact hp)
theorem rows_len {α : Type} {f : α → List C} {l : List α} {k : Nat} (h : ∀ a, (f a).length = k) : ∀ r ∈ l.map f, r.length = k := by
  intro r hr
  obtain ⟨a, _, rfl⟩ := List.mem_map.1 hr
  exact h a
theorem rows_len_take {α : Type} {f : α → List C} {l : List α} {k i : Nat} (h : ∀ a, (f a).length = k) : ∀ r ∈ (l.map f).take i, r.length = k := fun r hr => rows_len h r (List.mem_of_mem_take hr)
theorem rows_len_drop {α : Type} {f : α → List C} {l : List α} {k i : Nat} (h : ∀ a, (f a).length = k) : ∀ r ∈ (l.map f).drop i, r.length = k := fun r hr => rows_len h r (List.mem_of_mem_drop hr)
theorem rows_len_one {r0 : List C} {k : Nat} (h : r0.length = k) : ∀ r ∈ [r0], r.length = k := by
  intro r hr
  rw [List.mem_singleton.1 hr]
  exact h
end
end Go.Vc
end

section
namespace Go.Proofs.YtamajcgdfjeehaaGreatDoor
open Go.Vc
attribute [local irreducible] JL JC JQ OpWp Con ConN Pan ConE OpPan hasW idxW
set_option maxHeartbeats 4000000

def isA (l : List Tok) (a : Nat) (w : ByteArray) : Bool := match l[a]? with | some t => !decide (t.kind = 2) && decide (t.text = w) | none => false
def isNum (l : List Tok) (a : Nat) : Bool := match l[a]? with | some t => decide (t.kind = 2) | none => false
def isNm (l : List Tok) (a : Nat) : Bool := match l[a]? with | some t => decide (t.kind = 1) && !hasW t.text | none => false
def numAt (l : List Tok) (a : Nat) : Int := match l[a]? with | some t => t.num | none => 0
def txtAt (l : List Tok) (a : Nat) : ByteArray := match l[a]? with | some t => t.text | none => ⟨#[]⟩
def lineAt (l : List Tok) (p : Nat) : Int := match l[min p (l.length - 1)]? with | some t => t.line | none => 1
theorem isA_get {l : List Tok} {a : Nat} (w : ByteArray) (h : a < l.length) : isA l a w = (!decide (l[a].kind = 2) && decide (l[a].text = w)) := by simp [isA, h]
theorem isA_end {l : List Tok} {a : Nat} (w : ByteArray) (h : ¬ a < l.length) : isA l a w = false := by simp [isA, List.getElem?_eq_none (show l.length ≤ a by omega)]
theorem isNum_get {l : List Tok} {a : Nat} (h : a < l.length) : isNum l a = decide (l[a].kind = 2) := by simp [isNum, h]
theorem isNum_end {l : List Tok} {a : Nat} (h : ¬ a < l.length) : isNum l a = false := by simp [isNum, List.getElem?_eq_none (show l.length ≤ a by omega)]
theorem isNm_get {l : List Tok} {a : Nat} (h : a < l.length) : isNm l a = (decide (l[a].kind = 1) && !hasW l[a].text) := by simp [isNm, h]
theorem isNm_end {l : List Tok} {a : Nat} (h : ¬ a < l.length) : isNm l a = false := by simp [isNm, List.getElem?_eq_none (show l.length ≤ a by omega)]
theorem isA_lt {l : List Tok} {a : Nat} {w : ByteArray} (h : isA l a w = true) : a < l.length := by
  rcases Nat.lt_or_ge a l.length with h' | h'
  · exact h'
  · rw [isA_end w (by omega)] at h; cases h
theorem isNum_lt {l : List Tok} {a : Nat} (h : isNum l a = true) : a < l.length := by
  rcases Nat.lt_or_ge a l.length with h' | h'
  · exact h'
  · rw [isNum_end (by omega)] at h; cases h
theorem isNm_lt {l : List Tok} {a : Nat} (h : isNm l a = true) : a < l.length := by
  rcases Nat.lt_or_ge a l.length with h' | h'
  · exact h'
  · rw [isNm_end (by omega)] at h; cases h

abbrev Pz (b : Nat) (l : List Tok) (a : Nat) : Ch := .blk b 97 [.list (l.map Tok.row), .val (.int .i64 (a : Int))]
section
variable {l : List Tok} {a b : Nat} (hl : l.length ≤ 1000000) (ha : a ≤ l.length)
include hl ha
omit hl in
theorem pis_c (w : ByteArray) : Con Tryz.prog 119 [Ptr b, Str w] [Pz b l a] (fun K => K (Bl (isA l a w)) [Pz b l a]) := by
  have eL : (l.map Tok.row).length = l.length := List.length_map _
  refine con_intro Tryz.func119 rfl rfl (Nat.le_of_ble_eq_true rfl) (fun c hc => R_ (E_ r_ (T_ (am_ (am_ (ao_ r_ r_ k_ k_ (yM_ r_ (yN_ r_ (yF_ r_ (yL_ 0 r_ (yM_ r_ (yN_ r_ (yF_ r_ (yL_ 0 r_ (aa_ (fun c => br_ r_ (fun hlen => p_)) ?_)))))))))))))))
  refine aa_ (fun c => cn_ r_ r_ p_) (ae_ (al_ (jc_condd rfl (fun hge => ?_) (fun hlt => ?_))))
  · have e := isA_end w (show ¬ a < l.length by omega)
    refine R_ (E_ r_ (T_ (ar_ (aw_ (jq_ret1 rfl rfl [0] rfl (fun K h => by rw [e] at h; exact h))))))
  · have hlt' : a < l.length := by omega
    have e := isA_get w hlt'
    refine as_ (al_ (am_ (jc_anyB 11 (some 10) rfl k_ k_ (yM_ r_ (yN_ r_ (yF_ r_ (yL_ 0 r_ (yM_ r_ (yN_ r_ (yF_ r_ (yL_ 0 r_ (aa_ (fun c => cc_ r_ r_ g_ r_ r_ b_ p_) (aa_ (fun c => cr_ r_ r_ r_ p_) (af_ (ae_ ?_)))))))))))))))
    refine afin_some rfl rfl rfl (fun bT => ?_)
    by_cases hk : l[a].kind = 2
    · have hkn : ¬ ¬ l[a].kind = 2 := fun h => h hk
      refine S_ 0 r_ (T_ (R_ (F_ r_ (L_ 0 r_ (o_ r_ (bx_ r_ r_ (M_ r_ (ai_ r_ w_ b_ (ai_ r_ w_ b_ (ai_ r_ w_ b_ (ai_ r_ w_ b_ (o_ r_ (bv_ r_ w_ r_ (E_ r_ (T_ (ar_ (jq_ret1 rfl rfl [1] rfl (fun K h => by rw [e, decide_eq_true hk] at h; exact h))))))))))))))))))
    · refine S_ 0 r_ (T_ (R_ (F_ r_ (L_ 0 r_ (o_ r_ (bx_ r_ r_ (M_ r_ (ah_ r_ u_ b_ (bf_ r_ r_ r_ b_ (ah_ r_ u_ b_ (bg_ 0 r_ r_ r_ r_ (ah_ r_ u_ b_ (bd_ r_ (ah_ r_ u_ b_ (cs_ r_ r_ (o_ r_ (bp_ r_ u_ r_ (E_ r_ (T_ (ar_ (jq_ret1 rfl rfl [1] rfl (fun K h => by rw [e, decide_eq_false hk] at h; exact h))))))))))))))))))))))
theorem phas_c (w : ByteArray) : Con Tryz.prog 79 [Ptr b, Str w] [Pz b l a] (fun K => K (Bl (isA l a w)) [Pz b l (if isA l a w then a + 1 else a)]) := by
  refine con_intro Tryz.func79 rfl rfl (Nat.le_of_ble_eq_true rfl) (fun c hc => R_ (E_ r_ (T_ (R_ (M_ r_ (M_ r_ (o_ r_ (bi_ [0] r_ r_ (pis_c ha w) (E_ r_ (T_ (am_ (R_ (M_ r_ (T_ (jc_cond rfl (fun hy => ?_) (fun hn => ?_))))))))))))))))
  · have hlt := isA_lt hy
    refine an_ (M_ r_ (N_ r_ (F_ r_ (L_ 0 r_ (o_ r_ (bj_ r_ r_ g_ (N_ r_ (F_ r_ (W_ 0 r_ (T_ (R_ (M_ r_ (E_ r_ (T_ (ar_ (jq_ret1 rfl rfl [0] rfl (fun K h => by rw [hy] at h; rw [hy]; exact h)))))))))))))))))
  · refine as_ (al_ (R_ (M_ r_ (E_ r_ (T_ (ar_ (jq_ret1 rfl rfl [0] rfl (fun K h => by rw [hn] at h; rw [hn]; exact h))))))))
omit hl in
theorem pnamed_c : Con Tryz.prog 120 [Ptr b] [Pz b l a] (fun K => K (Bl (isNm l a)) [Pz b l a]) := by
  have eL : (l.map Tok.row).length = l.length := List.length_map _
  refine con_intro Tryz.func120 rfl rfl (Nat.le_of_ble_eq_true rfl) (fun c hc => ?_)
  by_cases hlt : a < l.length
  · have e := isNm_get hlt
    by_cases hk : l[a].kind = 1
    · refine R_ (E_ r_ (T_ (am_ (ao_ r_ r_ k_ k_ (yM_ r_ (yN_ r_ (yF_ r_ (yL_ 0 r_ (yM_ r_ (yN_ r_ (yF_ r_ (yL_ 0 r_ (aa_ (fun c => br_ r_ (fun hlen => p_)) (aa_ (fun c => bw_ r_ r_ p_) (yM_ r_ ?_)))))))))))))))
      refine ab_ r_ t_ (fun c => bd_ r_ p_) (ab_ r_ t_ (fun c => bh_ r_ p_) (ab_ r_ t_ (fun c => bf_ r_ r_ r_ b_ p_) (ab_ r_ t_ (fun c => bg_ 0 r_ r_ r_ r_ p_) (ab_ r_ t_ (fun c => bd_ r_ p_) (ab_ r_ t_ (fun c => bh_ r_ p_) (ab_ r_ t_ (fun c => bf_ r_ r_ r_ b_ p_) (ab_ r_ t_ (fun c => bg_ 0 r_ r_ r_ r_ p_) (ab_ r_ t_ (fun c => cc_ r_ r_ g_ r_ r_ b_ p_) (ab_ r_ t_ (fun c => cf_ r_ r_ r_ b_ r_ b_ p_) ?_)))))))))
      refine ab_ r_ t_ (fun c => cb_ r_ r_ p_) (ab_ r_ t_ (fun c => bn_ r_ r_ p_) (aa_ (fun c => bp_ r_ t_ r_ p_) (yM_ r_ (ab_ r_ t_ (fun c => bd_ r_ p_) (ab_ r_ t_ (fun c => bh_ r_ p_) (ab_ r_ t_ (fun c => bf_ r_ r_ r_ b_ p_) (ab_ r_ t_ (fun c => bg_ 0 r_ r_ r_ r_ p_) (ab_ r_ t_ (fun c => bd_ r_ p_) (ab_ r_ t_ (fun c => bh_ r_ p_) (ab_ r_ t_ (fun c => bf_ r_ r_ r_ b_ p_) (ab_ r_ t_ (fun c => bg_ 0 r_ r_ r_ r_ p_) ?_)))))))))))
      refine ab_ r_ t_ (fun c => cc_ r_ r_ g_ r_ r_ b_ p_) (ab_ r_ t_ (fun c => cf_ r_ r_ r_ b_ r_ b_ p_) (ab_ r_ t_ (fun c => cb_ r_ r_ p_) (ab_ r_ t_ (fun c => bm_ r_ (Keyword_c _) p_) (ab_ r_ t_ (fun c => cd_ r_ p_) (aa_ (fun c => bp_ r_ u_ r_ p_) (yE_ r_ (ae_ (al_ (ar_ (jq_ret1 rfl rfl [0] rfl (fun K h => by rw [e, decide_eq_true hk, Bool.true_and] at h; exact h)))))))))))
    · refine R_ (E_ r_ (T_ (am_ (ao_ r_ r_ k_ k_ (yM_ r_ (yN_ r_ (yF_ r_ (yL_ 0 r_ (yM_ r_ (yN_ r_ (yF_ r_ (yL_ 0 r_ (aa_ (fun c => br_ r_ (fun hlen => p_)) (aa_ (fun c => bw_ r_ r_ p_) (yM_ r_ ?_)))))))))))))))
      refine ab_ r_ t_ (fun c => bd_ r_ p_) (ab_ r_ t_ (fun c => bh_ r_ p_) (ab_ r_ t_ (fun c => bf_ r_ r_ r_ b_ p_) (ab_ r_ t_ (fun c => bg_ 0 r_ r_ r_ r_ p_) (ab_ r_ t_ (fun c => bd_ r_ p_) (ab_ r_ t_ (fun c => bh_ r_ p_) (ab_ r_ t_ (fun c => bf_ r_ r_ r_ b_ p_) (ab_ r_ t_ (fun c => bg_ 0 r_ r_ r_ r_ p_) (ab_ r_ t_ (fun c => cc_ r_ r_ g_ r_ r_ b_ p_) (ab_ r_ t_ (fun c => cf_ r_ r_ r_ b_ r_ b_ p_) ?_)))))))))
      refine ab_ r_ t_ (fun c => cb_ r_ r_ p_) (ab_ r_ t_ (fun c => bn_ r_ r_ p_) (aa_ (fun c => bp_ r_ t_ r_ p_) (yM_ r_ (ac_ r_ w_ (ac_ r_ w_ (ac_ r_ w_ (ac_ r_ w_ (ac_ r_ w_ (ac_ r_ w_ (ac_ r_ w_ (ac_ r_ w_ (ac_ r_ w_ (ac_ r_ w_ (ac_ r_ w_ (ac_ r_ w_ ?_)))))))))))))))
      refine ac_ r_ w_ (aa_ (fun c => bv_ r_ w_ r_ p_) (yE_ r_ (ae_ (al_ (ar_ (jq_ret1 rfl rfl [0] rfl (fun K h => by rw [e, decide_eq_false hk] at h; exact h)))))))
  · have e := isNm_end hlt
    have hlt2 : ¬ (a : Int) < l.length := by omega
    refine R_ (E_ r_ (T_ (am_ (ao_ r_ r_ k_ k_ (yM_ r_ (yN_ r_ (yF_ r_ (yL_ 0 r_ (yM_ r_ (yN_ r_ (yF_ r_ (yL_ 0 r_ (aa_ (fun c => br_ r_ (fun hlen => p_)) (aa_ (fun c => bw_ r_ r_ p_) (yM_ r_ ?_)))))))))))))))
    refine ac_ r_ v_ (ac_ r_ v_ (ac_ r_ v_ (ac_ r_ v_ (ac_ r_ v_ (ac_ r_ v_ (ac_ r_ v_ (ac_ r_ v_ (ac_ r_ v_ (ac_ r_ v_ (ac_ r_ v_ (ac_ r_ v_ (aa_ (fun c => bv_ r_ v_ r_ p_) (yM_ r_ (ac_ r_ r_ (ac_ r_ r_ ?_)))))))))))))))
    refine ac_ r_ r_ (ac_ r_ r_ (ac_ r_ r_ (ac_ r_ r_ (ac_ r_ r_ (ac_ r_ r_ (ac_ r_ r_ (ac_ r_ r_ (ac_ r_ r_ (ac_ r_ r_ (ac_ r_ r_ (aa_ (fun c => bv_ r_ r_ r_ p_) (yE_ r_ (ae_ (al_ (ar_ ?_)))))))))))))))
    refine jq_ret1 rfl rfl [0] rfl (fun K h => by rw [e] at h; exact h)
omit hl in
theorem pnumbered_c : Con Tryz.prog 122 [Ptr b] [Pz b l a] (fun K => K (Bl (isNum l a)) [Pz b l a]) := by
  have eL : (l.map Tok.row).length = l.length := List.length_map _
  refine con_intro Tryz.func122 rfl rfl (Nat.le_of_ble_eq_true rfl) (fun c hc => ?_)
  by_cases hlt : a < l.length
  · have e := isNum_get hlt
    refine R_ (E_ r_ (T_ (am_ (ao_ r_ r_ k_ k_ (yM_ r_ (yN_ r_ (yF_ r_ (yL_ 0 r_ (yM_ r_ (yN_ r_ (yF_ r_ (yL_ 0 r_ (aa_ (fun c => br_ r_ (fun hlen => p_)) (aa_ (fun c => bw_ r_ r_ p_) (yM_ r_ ?_)))))))))))))))
    refine ab_ r_ t_ (fun c => bd_ r_ p_) (ab_ r_ t_ (fun c => bh_ r_ p_) (ab_ r_ t_ (fun c => bf_ r_ r_ r_ b_ p_) (ab_ r_ t_ (fun c => bg_ 0 r_ r_ r_ r_ p_) (ab_ r_ t_ (fun c => bd_ r_ p_) (ab_ r_ t_ (fun c => bh_ r_ p_) (ab_ r_ t_ (fun c => bf_ r_ r_ r_ b_ p_) (ab_ r_ t_ (fun c => bg_ 0 r_ r_ r_ r_ p_) (ab_ r_ t_ (fun c => cc_ r_ r_ g_ r_ r_ b_ p_) (ab_ r_ t_ (fun c => cf_ r_ r_ r_ b_ r_ b_ p_) ?_)))))))))
    refine ab_ r_ t_ (fun c => cb_ r_ r_ p_) (ab_ r_ t_ (fun c => bn_ r_ r_ p_) (aa_ (fun c => bp_ r_ t_ r_ p_) (yE_ r_ (ae_ (al_ (ar_ (jq_ret1 rfl rfl [0] rfl (fun K h => by rw [e] at h; exact h))))))))
  · have e := isNum_end hlt
    refine R_ (E_ r_ (T_ (am_ (ao_ r_ r_ k_ k_ (yM_ r_ (yN_ r_ (yF_ r_ (yL_ 0 r_ (yM_ r_ (yN_ r_ (yF_ r_ (yL_ 0 r_ (aa_ (fun c => br_ r_ (fun hlen => p_)) (aa_ (fun c => bw_ r_ r_ p_) (yM_ r_ ?_)))))))))))))))
    refine ac_ r_ v_ (ac_ r_ v_ (ac_ r_ v_ (ac_ r_ v_ (ac_ r_ v_ (ac_ r_ v_ (ac_ r_ v_ (ac_ r_ v_ (ac_ r_ v_ (ac_ r_ v_ (ac_ r_ v_ (ac_ r_ v_ (aa_ (fun c => bv_ r_ v_ r_ p_) (yE_ r_ (ae_ (al_ ?_)))))))))))))))
    refine ar_ (jq_ret1 rfl rfl [0] rfl (fun K h => by rw [e] at h; exact h))
end
end Go.Proofs.YtamajcgdfjeehaaGreatDoor
end

section
namespace Go.Proofs.YtamajcgdfjeehaaGreatDoor
open Go.Vc
attribute [local irreducible] JL JC JQ OpWp Con ConN Pan ConE OpPan hasW idxW isA isNum isNm numAt txtAt lineAt
set_option maxHeartbeats 4000000

def stopV (l : List Tok) (code : Int) (p : Nat) : Value := .iface 99 (.agg #[.int .i64 (lineAt l p), .int .i64 code])
theorem lineAt_get {l : List Tok} {p : Nat} (h : min p (l.length - 1) < l.length) : lineAt l p = l[min p (l.length - 1)].line := by simp [lineAt, h]
theorem numAt_get {l : List Tok} {a : Nat} (h : a < l.length) : numAt l a = l[a].num := by simp [numAt, h]
theorem txtAt_get {l : List Tok} {a : Nat} (h : a < l.length) : txtAt l a = l[a].text := by simp [txtAt, h]
theorem txtAt_getI {l : List Tok} {a : Nat} {m : Int} (h : m.toNat < l.length) (hm : m.toNat = a) : txtAt l a = l[m.toNat].text := by subst hm; exact txtAt_get h
theorem numAt_getI {l : List Tok} {a : Nat} {m : Int} (h : m.toNat < l.length) (hm : m.toNat = a) : numAt l a = l[m.toNat].num := by subst hm; exact numAt_get h
abbrev ngI (n : Int) : Int := IntKind.i64.wrap (-n)
section
variable {l : List Tok} {a b : Nat} (hl : l.length ≤ 1000000) (ha : a ≤ l.length)
include hl
theorem pfail_c (code : Int) (p : Nat) (hp : p ≤ 2000000) : Pan Tryz.prog 121 [Ptr b, In .i64 code, In .i64 (p : Int)] [Pz b l a] (stopV l code p) := by
  have eL : (l.map Tok.row).length = l.length := List.length_map _
  refine pan_intro Tryz.func121 rfl rfl (Nat.le_of_ble_eq_true rfl) (fun c hc => R_ (E_ r_ (T_ (am_ (R_ (M_ r_ (N_ r_ (F_ r_ (L_ 0 r_ (o_ r_ (br_ r_ (fun hlen => E_ r_ (T_ (R_ (M_ r_ (o_ r_ (bz_ r_ r_ ?_)))))))))))))))))
  refine T_ (jc_condd rfl (fun hpos => ?_) (fun hz => ?_))
  · have hm : min p (l.length - 1) < l.length := by omega
    have e : lineAt l p = l[min p (l.length - 1)].line := lineAt_get hm
    have e2 : max (0 : Int) (min (p : Int) (((l.map Tok.row).length : Int) - 1)) = ((min p (l.length - 1) : Nat) : Int) := by omega
    refine an_ (M_ r_ (N_ r_ (F_ r_ (L_ 0 r_ (M_ r_ (M_ r_ (o_ r_ (cg_ r_ r_ g_ (o_ r_ (cl_ r_ r_ (o_ r_ (ck_ r_ r_ ?_))))))))))))
    rw [e2]
    refine o_ r_ (cc_ r_ r_ g_ r_ r_ b_ (o_ r_ (cf_ r_ r_ r_ b_ r_ b_ (o_ r_ (cb_ r_ r_ (E_ r_ (T_ (an_ (M_ r_ (M_ r_ (o_ r_ (bu_ r_ r_ r_ r_ r_ (o_ r_ (ow_makeIface (vs := [.int .i64 l[min p (l.length - 1)].line, .int .i64 code]) r_ r_ ?_))))))))))))))
    exact jl_pan (op_panic rfl) (by (repeat (first | refine pq_then ?_ | refine pq_block ?_)); exact pq_fin (by rw [stopV, e]))
  · obtain rfl : l = [] := List.eq_nil_of_length_eq_zero (by omega)
    refine as_ (al_ (an_ (M_ r_ (M_ r_ (o_ r_ (bu_ r_ r_ r_ r_ r_ (o_ r_ (ow_makeIface (vs := [.int .i64 1, .int .i64 code]) r_ r_ ?_))))))))
    exact jl_pan (op_panic rfl) (by (repeat (first | refine pq_then ?_ | refine pq_block ?_)); exact pq_fin (by rw [stopV, lineAt]; rfl))
include ha
theorem pword_ok (w : ByteArray) (h : isA l a w = true) : Con Tryz.prog 82 [Ptr b, Str w] [Pz b l a] (fun K => K (.tup []) [Pz b l (a + 1)]) := by
  have hP := phas_c (b := b) hl ha w
  rw [h, if_pos rfl] at hP
  refine con_intro Tryz.func82 rfl rfl (Nat.le_of_ble_eq_true rfl) (fun c hc => R_ (M_ r_ (M_ r_ (o_ r_ (bi_ [0] r_ r_ hP (o_ r_ (cd_ r_ (T_ (jc_cond rfl (fun h => by cases h) (fun _ => as_ (jq_ret0 (.inr rfl) rfl [0] rfl (fun K h => h))))))))))))
theorem pword_er (w : ByteArray) (h : isA l a w = false) : Pan Tryz.prog 82 [Ptr b, Str w] [Pz b l a] (stopV l 1 a) := by
  have hP := phas_c (b := b) hl ha w
  rw [h, if_neg Bool.false_ne_true] at hP
  refine pan_intro Tryz.func82 rfl rfl (Nat.le_of_ble_eq_true rfl) (fun c hc => R_ (M_ r_ (M_ r_ (o_ r_ (bi_ [0] r_ r_ hP (o_ r_ (cd_ r_ (T_ (jc_cond rfl (fun _ => an_ (M_ r_ (M_ r_ (N_ r_ (F_ r_ (L_ 0 r_ ?_)))))) (fun h => by cases h))))))))))
  exact jl_pan (op_pan [0] rfl rfl (pfail_c hl 1 a g_)) (by (repeat (first | refine pq_then ?_ | refine pq_block ?_)); exact pq_fin (rfl))
theorem pname_ok (h : isNm l a = true) : Con Tryz.prog 80 [Ptr b] [Pz b l a] (fun K => K (Str (txtAt l a)) [Pz b l (a + 1)]) := by
  have eL : (l.map Tok.row).length = l.length := List.length_map _
  have hP := pnamed_c (b := b) ha
  rw [h] at hP
  have hlt := isNm_lt h
  have e := txtAt_get hlt
  refine con_intro Tryz.func80 rfl rfl (Nat.le_of_ble_eq_true rfl) (fun c hc => R_ (E_ r_ (T_ (am_ (R_ (M_ r_ (o_ r_ (bi_ [0] r_ r_ hP (o_ r_ (cd_ r_ (T_ (jc_cond rfl (fun h => by cases h) (fun _ => as_ (al_ (R_ (M_ r_ (N_ r_ ?_)))))))))))))))))
  refine F_ r_ (L_ 0 r_ (o_ r_ (bj_ r_ r_ g_ (N_ r_ (F_ r_ (W_ 0 r_ (T_ (am_ (ao_ r_ r_ k_ k_ (yM_ r_ (yN_ r_ (yF_ r_ (yL_ 0 r_ (yM_ r_ (yN_ r_ (yF_ r_ ?_))))))))))))))))
  refine yL_ 0 r_ (aa_ (fun c => cg_ r_ r_ g_ p_) (aa_ (fun c => cv_ r_ r_ g_ g_ r_ r_ b_ p_) (aa_ (fun c => cf_ r_ r_ r_ b_ r_ b_ p_) (aa_ (fun c => cb_ r_ r_ p_) (yE_ r_ (ae_ (al_ (ar_ (jq_ret1 rfl rfl [0] rfl (fun K h => by rw [txtAt_getI (m := (a : Int) + 1 - 1) g_ g_] at h; exact h))))))))))
theorem pname_er (h : isNm l a = false) : Pan Tryz.prog 80 [Ptr b] [Pz b l a] (stopV l 1 a) := by
  have hP := pnamed_c (b := b) ha
  rw [h] at hP
  refine pan_intro Tryz.func80 rfl rfl (Nat.le_of_ble_eq_true rfl) (fun c hc => R_ (E_ r_ (T_ (am_ (R_ (M_ r_ (o_ r_ (bi_ [0] r_ r_ hP (o_ r_ (cd_ r_ (T_ (jc_cond rfl (fun _ => an_ (M_ r_ (M_ r_ (N_ r_ (F_ r_ ?_))))) (fun h => by cases h)))))))))))))
  refine L_ 0 r_ ?_
  exact jl_pan (op_pan [0] rfl rfl (pfail_c hl 1 a g_)) (by (repeat (first | refine pq_then ?_ | refine pq_block ?_)); exact pq_fin (rfl))
theorem pnum_ok (h : isNum l a = true) : Con Tryz.prog 81 [Ptr b] [Pz b l a] (fun K => K (In .i64 (numAt l a)) [Pz b l (a + 1)]) := by
  have eL : (l.map Tok.row).length = l.length := List.length_map _
  have hP := pnumbered_c (b := b) ha
  rw [h] at hP
  have hlt := isNum_lt h
  refine con_intro Tryz.func81 rfl rfl (Nat.le_of_ble_eq_true rfl) (fun c hc => R_ (E_ r_ (T_ (am_ (R_ (M_ r_ (o_ r_ (bi_ [0] r_ r_ hP (o_ r_ (cd_ r_ (T_ (jc_cond rfl (fun h => by cases h) (fun _ => as_ (al_ (R_ (M_ r_ (N_ r_ ?_)))))))))))))))))
  refine F_ r_ (L_ 0 r_ (o_ r_ (bj_ r_ r_ g_ (N_ r_ (F_ r_ (W_ 0 r_ (T_ (am_ (ao_ r_ r_ k_ k_ (yM_ r_ (yN_ r_ (yF_ r_ (yL_ 0 r_ (yM_ r_ (yN_ r_ (yF_ r_ ?_))))))))))))))))
  refine yL_ 0 r_ (aa_ (fun c => cg_ r_ r_ g_ p_) (aa_ (fun c => cv_ r_ r_ g_ g_ r_ r_ b_ p_) (aa_ (fun c => cf_ r_ r_ r_ b_ r_ b_ p_) (aa_ (fun c => cb_ r_ r_ p_) (yE_ r_ (ae_ (al_ (ar_ (jq_ret1 rfl rfl [0] rfl (fun K h => by rw [numAt_getI (m := (a : Int) + 1 - 1) g_ g_] at h; exact h))))))))))
theorem pnum_er (h : isNum l a = false) : Pan Tryz.prog 81 [Ptr b] [Pz b l a] (stopV l 1 a) := by
  have hP := pnumbered_c (b := b) ha
  rw [h] at hP
  refine pan_intro Tryz.func81 rfl rfl (Nat.le_of_ble_eq_true rfl) (fun c hc => R_ (E_ r_ (T_ (am_ (R_ (M_ r_ (o_ r_ (bi_ [0] r_ r_ hP (o_ r_ (cd_ r_ (T_ (jc_cond rfl (fun _ => an_ (M_ r_ (M_ r_ (N_ r_ (F_ r_ ?_))))) (fun h => by cases h)))))))))))))
  refine L_ 0 r_ ?_
  exact jl_pan (op_pan [0] rfl rfl (pfail_c hl 1 a g_)) (by (repeat (first | refine pq_then ?_ | refine pq_block ?_)); exact pq_fin (rfl))
end

theorem idxW_bd (L : List ByteArray) (s : ByteArray) : -1 ≤ idxW L s ∧ idxW L s ≤ L.length := by
  unfold idxW
  cases h : L.findIdx? (fun w => decide (w = s)) with
  | none => simp only; omega
  | some i =>
    obtain ⟨hi, _⟩ := List.findIdx?_eq_some_iff_getElem.1 h
    simp only; omega
theorem Operator_c (s : ByteArray) : Con Tryz.prog 128 [Str s] [] (fun K => K (In .i64 (idxW signL s + 1)) []) := by
  have hb := idxW_bd signL s
  have e14 : signL.length = 14 := rfl
  refine con_intro Tryz.func128 rfl rfl (Nat.le_of_ble_eq_true rfl) (fun c hc => R_ (E_ r_ (T_ (R_ (o_ r_ (ow_sliceG (rows := signL.map Wrow) (e := 9) (n := 14) gl_signs rfl rfl rfl b_ (by unfold maxLen; omega) rfl (M_ r_ (o_ r_ (bm_ r_ (Index_c signL s) (o_ r_ (bj_ r_ r_ g_ (E_ r_ (T_ (ar_ (jq_ret1 rfl rfl [] rfl (fun K h => h))))))))))))))))
/-- The operator, of some, that stands at a place. -/
def opAt (l : List Tok) (L : List ByteArray) (a : Nat) : Option Int := match l[a]? with | some t => if t.kind = 3 ∧ (L.any fun w => decide (w = t.text)) = true then some (idxW signL t.text + 1) else none | none => none
theorem one_c (b : Nat) (L : List ByteArray) : Con Tryz.prog 87 [Ptr b, .cell (.list (L.map Wrow))] [] (fun K => ∀ p : Nat × Nat, True → K (.cell (.val (.func (.func 127) #[] #[.pointer (some ⟨p.1, 0, none⟩), .pointer (some ⟨p.2, 0, none⟩)]))) [.blk p.1 28 [.list (L.map Wrow)], .blk p.2 95 [.val (.pointer (some ⟨b, 0, none⟩))]]) := by
  refine con_intro Tryz.func87 rfl rfl (Nat.le_of_ble_eq_true rfl) (fun c hc => R_ (o_ r_ (cj_ r_ (fun bx => o_ r_ (cj_ r_ (fun bx => E_ r_ (T_ (R_ ?_))))))))
  rename_i b1
  refine o_ r_ (ow_makeFunc r_ (E_ r_ (T_ (ar_ (jq_ret1 rfl rfl [0, 0] rfl (fun K h => h (bx, b1) trivial))))))
end Go.Proofs.YtamajcgdfjeehaaGreatDoor
end

section
namespace Go.Proofs.YtamajcgdfjeehaaGreatDoor
open Go.Vc
attribute [local irreducible] JL JC JQ OpWp Con ConN Pan ConE OpPan hasW idxW isA isNum isNm numAt txtAt lineAt
set_option maxHeartbeats 4000000

theorem opAt_end {l : List Tok} {L : List ByteArray} {a : Nat} (h : ¬ a < l.length) : opAt l L a = none := by simp [opAt, List.getElem?_eq_none (show l.length ≤ a by omega)]
theorem opAt_get {l : List Tok} (L : List ByteArray) {a : Nat} (h : a < l.length) : opAt l L a = if l[a].kind = 3 ∧ (L.any fun w => decide (w = l[a].text)) = true then some (idxW signL l[a].text + 1) else none := by simp [opAt, h]
def opV (l : List Tok) (L : List ByteArray) (a : Nat) : Int := (opAt l L a).getD 0
def opN (l : List Tok) (L : List ByteArray) (a : Nat) : Nat := if (opAt l L a).isSome then a + 1 else a
abbrev Cap1 (p : Nat) (L : List ByteArray) : Ch := .blk p 28 [.list (L.map Wrow)]
abbrev Cap2 (p b : Nat) : Ch := .blk p 95 [.val (.pointer (some ⟨b, 0, none⟩))]
theorem op1_c {l : List Tok} {a b p q : Nat} (hl : l.length ≤ 1000000) (ha : a ≤ l.length) (L : List ByteArray) : Con Tryz.prog 127 [Ptr p, Ptr q] [Cap1 p L, Cap2 q b, Pz b l a] (fun K => K (In .i64 (opV l L a)) [Cap1 p L, Cap2 q b, Pz b l (opN l L a)]) := by
  have eL : (L.map Wrow).length = L.length := List.length_map _
  have el : (l.map Tok.row).length = l.length := List.length_map _
  refine con_intro Tryz.func127 rfl rfl (Nat.le_of_ble_eq_true rfl) (fun c hc => R_ (E_ r_ (T_ (am_ (R_ (L_ 0 r_ (o_ r_ (br_ r_ (fun hlen => M_ r_ (T_ (au_ ?_)))))))))))
  refine jc_loopS [] (fun k : Nat => k ≤ L.length ∧ ∀ j (hj : j < L.length), j < k → ∀ (h : a < l.length), l[a].kind = 3 → ¬ l[a].text = L[j]) (fun k => [(0, Ptr p), (1, Ptr q), (5, .cell (.list (L.map Wrow))), (6, In .i64 ((L.map Wrow).length : Int)), (7, In .i64 (k : Int))]) (fun _ => [Cap1 p L, Cap2 q b, Pz b l a]) (fun k => L.length - k) 0 ⟨Nat.zero_le _, fun j _ h => by omega⟩ ?_ ?_ ?_
  · exact bc_ 0 r_ (bc_ 0 r_ (bc_ 0 r_ sub_end))
  · (repeat (first | exact True.intro | refine ⟨rfl, ?_⟩))
  · rintro k ⟨hk, hno⟩
    refine jc_reset [(0, Ptr p), (1, Ptr q), (5, .cell (.list (L.map Wrow))), (6, In .i64 ((L.map Wrow).length : Int)), (7, In .i64 (k : Int))] [Cap1 p L, Cap2 q b, Pz b l a] ?_ ⟨[0, 0, 0], [], rfl⟩ ?_
    · (repeat (first | exact True.intro | refine ⟨rfl, ?_⟩))
    refine R_ (o_ r_ (bw_ r_ r_ (T_ (am_ (jc_condd rfl (fun hlt => ?_) (fun hge => ?_))))))
    · have hlt' : k < L.length := by omega
      by_cases h1 : a < l.length
      · by_cases h2 : l[a].kind = 3
        · refine as_ (al_ (B_ (R_ (o_ r_ (cc_ r_ r_ g_ r_ r_ b_ (o_ r_ (cb_ r_ r_ (E_ r_ (T_ (am_ (ao_ r_ r_ k_ k_ (yL_ 1 r_ (yN_ r_ (yF_ r_ (yL_ 2 r_ (yL_ 1 r_ (yN_ r_ ?_)))))))))))))))))
          refine yF_ r_ (yL_ 2 r_ (aa_ (fun c => br_ r_ (fun hlen => p_)) (aa_ (fun c => bw_ r_ r_ p_) (yM_ r_ (ab_ r_ t_ (fun c => bg_ 1 r_ r_ r_ r_ p_) (ab_ r_ t_ (fun c => bh_ r_ p_) (ab_ r_ t_ (fun c => bf_ r_ r_ r_ b_ p_) (ab_ r_ t_ (fun c => bg_ 2 r_ r_ r_ r_ p_) (ab_ r_ t_ (fun c => bg_ 1 r_ r_ r_ r_ p_) (ab_ r_ t_ (fun c => bh_ r_ p_) (ab_ r_ t_ (fun c => bf_ r_ r_ r_ b_ p_) ?_)))))))))))
          refine ab_ r_ t_ (fun c => bg_ 2 r_ r_ r_ r_ p_) (ab_ r_ t_ (fun c => cc_ r_ r_ g_ r_ r_ b_ p_) (ab_ r_ t_ (fun c => cf_ r_ r_ r_ b_ r_ b_ p_) (ab_ r_ t_ (fun c => cb_ r_ r_ p_) (ab_ r_ t_ (fun c => bn_ r_ r_ p_) (aa_ (fun c => bp_ r_ t_ r_ p_) (yM_ r_ (ab_ r_ t_ (fun c => bg_ 1 r_ r_ r_ r_ p_) (ab_ r_ t_ (fun c => bh_ r_ p_) (ab_ r_ t_ (fun c => bf_ r_ r_ r_ b_ p_) (ab_ r_ t_ (fun c => bg_ 2 r_ r_ r_ r_ p_) ?_))))))))))
          refine ab_ r_ t_ (fun c => bg_ 1 r_ r_ r_ r_ p_) (ab_ r_ t_ (fun c => bh_ r_ p_) (ab_ r_ t_ (fun c => bf_ r_ r_ r_ b_ p_) (ab_ r_ t_ (fun c => bg_ 2 r_ r_ r_ r_ p_) (ab_ r_ t_ (fun c => cc_ r_ r_ g_ r_ r_ b_ p_) (ab_ r_ t_ (fun c => cf_ r_ r_ r_ b_ r_ b_ p_) (ab_ r_ t_ (fun c => cb_ r_ r_ p_) (ab_ r_ t_ (fun c => bd_ r_ p_) (ab_ r_ t_ (fun c => cs_ r_ r_ p_) (aa_ (fun c => bp_ r_ u_ r_ p_) (ae_ (al_ ?_)))))))))))
          refine jc_condd rfl (fun h3 => ?_) (fun h3 => ?_)
          · have e : opAt l L a = some (idxW signL L[k] + 1) := by
              rw [opAt_get L h1, if_pos ⟨h2, List.any_eq_true.2 ⟨L[k], List.getElem_mem hlt', decide_eq_true h3.symm⟩⟩, h3]
            refine R_ (L_ 1 r_ (N_ r_ (F_ r_ (L_ 2 r_ (o_ r_ (bj_ r_ r_ g_ (N_ r_ (F_ r_ (W_ 2 r_ (T_ (R_ (M_ r_ (o_ r_ (bm_ r_ (Operator_c _) (E_ r_ (T_ (ar_ ?_)))))))))))))))))
            refine az_ (aw_ (aw_ (az_ (aw_ (jq_ret1 rfl rfl [1, 1, 0] rfl (fun K h => by rw [opV, opN, e] at h; exact h))))))
          · refine as_ (ay_ (al_ (an_ (o_ r_ (bj_ r_ r_ g_ (M_ r_ (ak_ (jq_againS (k + 1) ⟨by omega, fun j hj hjk h1' h2' => ?_⟩ g_ ?_ ?_))))))))
            · by_cases hjk' : j < k
              · exact hno j hj hjk' h1' h2'
              · obtain rfl : j = k := by omega
                exact h3
            · exact bc_ 0 r_ (bc_ 0 r_ (bc_ 0 r_ sub_end))
            · (repeat (first | exact True.intro | refine ⟨rfl, ?_⟩))
        · refine as_ (al_ (B_ (R_ (o_ r_ (cc_ r_ r_ g_ r_ r_ b_ (o_ r_ (cb_ r_ r_ (E_ r_ (T_ (am_ (ao_ r_ r_ k_ k_ (yL_ 1 r_ (yN_ r_ (yF_ r_ (yL_ 2 r_ (yL_ 1 r_ (yN_ r_ ?_)))))))))))))))))
          refine yF_ r_ (yL_ 2 r_ (aa_ (fun c => br_ r_ (fun hlen => p_)) (aa_ (fun c => bw_ r_ r_ p_) (yM_ r_ (ab_ r_ t_ (fun c => bg_ 1 r_ r_ r_ r_ p_) (ab_ r_ t_ (fun c => bh_ r_ p_) (ab_ r_ t_ (fun c => bf_ r_ r_ r_ b_ p_) (ab_ r_ t_ (fun c => bg_ 2 r_ r_ r_ r_ p_) (ab_ r_ t_ (fun c => bg_ 1 r_ r_ r_ r_ p_) (ab_ r_ t_ (fun c => bh_ r_ p_) (ab_ r_ t_ (fun c => bf_ r_ r_ r_ b_ p_) ?_)))))))))))
          refine ab_ r_ t_ (fun c => bg_ 2 r_ r_ r_ r_ p_) (ab_ r_ t_ (fun c => cc_ r_ r_ g_ r_ r_ b_ p_) (ab_ r_ t_ (fun c => cf_ r_ r_ r_ b_ r_ b_ p_) (ab_ r_ t_ (fun c => cb_ r_ r_ p_) (ab_ r_ t_ (fun c => bn_ r_ r_ p_) (aa_ (fun c => bp_ r_ t_ r_ p_) (yM_ r_ (ac_ r_ w_ (ac_ r_ w_ (ac_ r_ w_ (ac_ r_ w_ (ac_ r_ w_ (ac_ r_ w_ (ac_ r_ w_ (ac_ r_ w_ (ac_ r_ w_ ?_)))))))))))))))
          refine ac_ r_ w_ (ac_ r_ w_ (ac_ r_ w_ (ac_ r_ w_ (aa_ (fun c => bv_ r_ w_ r_ p_) (ae_ (al_ (jc_cond rfl (fun h => by cases h) (fun _ => as_ (ay_ (al_ (an_ (o_ r_ (bj_ r_ r_ g_ (M_ r_ (ak_ (jq_againS (k + 1) ⟨by omega, fun j hj hjk h1' h2' => absurd h2' h2⟩ g_ ?_ ?_))))))))))))))))
          · exact bc_ 0 r_ (bc_ 0 r_ (bc_ 0 r_ sub_end))
          · (repeat (first | exact True.intro | refine ⟨rfl, ?_⟩))
      · refine as_ (al_ (B_ (R_ (o_ r_ (cc_ r_ r_ g_ r_ r_ b_ (o_ r_ (cb_ r_ r_ (E_ r_ (T_ (am_ (ao_ r_ r_ k_ k_ (yL_ 1 r_ (yN_ r_ (yF_ r_ (yL_ 2 r_ (yL_ 1 r_ (yN_ r_ ?_)))))))))))))))))
        refine yF_ r_ (yL_ 2 r_ (aa_ (fun c => br_ r_ (fun hlen => p_)) (aa_ (fun c => bw_ r_ r_ p_) (yM_ r_ (ac_ r_ v_ (ac_ r_ v_ (ac_ r_ v_ (ac_ r_ v_ (ac_ r_ v_ (ac_ r_ v_ (ac_ r_ v_ (ac_ r_ v_ (ac_ r_ v_ (ac_ r_ v_ (ac_ r_ v_ ?_)))))))))))))))
        refine ac_ r_ v_ (aa_ (fun c => bv_ r_ v_ r_ p_) (yM_ r_ (ac_ r_ r_ (ac_ r_ r_ (ac_ r_ r_ (ac_ r_ r_ (ac_ r_ r_ (ac_ r_ r_ (ac_ r_ r_ (ac_ r_ r_ (ac_ r_ r_ (ac_ r_ r_ (ac_ r_ r_ (ac_ r_ r_ (ac_ r_ r_ ?_)))))))))))))))
        refine aa_ (fun c => bv_ r_ r_ r_ p_) (ae_ (al_ (jc_cond rfl (fun h => by cases h) (fun _ => as_ (ay_ (al_ (an_ (o_ r_ (bj_ r_ r_ g_ (M_ r_ (ak_ (jq_againS (k + 1) ⟨by omega, fun j hj hjk h1' h2' => absurd h1' h1⟩ g_ ?_ ?_))))))))))))
        · exact bc_ 0 r_ (bc_ 0 r_ (bc_ 0 r_ sub_end))
        · (repeat (first | exact True.intro | refine ⟨rfl, ?_⟩))
    · have e : opAt l L a = none := by
        by_cases h1 : a < l.length
        · rw [opAt_get L h1, if_neg]
          rintro ⟨h2, h3⟩
          obtain ⟨w, hw, h4⟩ := List.any_eq_true.1 h3
          obtain ⟨j, hj, rfl⟩ := List.mem_iff_getElem.1 hw
          exact hno j hj g_ h1 h2 (of_decide_eq_true h4).symm
        · exact opAt_end h1
      refine av_ (ax_ (ax_ (ba_ (al_ (R_ (E_ r_ (T_ (ar_ (jq_ret1 rfl rfl [0, 0, 0] rfl (fun K h => by rw [opV, opN, e] at h; exact h))))))))))
end Go.Proofs.YtamajcgdfjeehaaGreatDoor
end

section
namespace Go.Proofs.YtamajcgdfjeehaaGreatDoor
open Go.Vc
attribute [local irreducible] JL JC JQ OpWp Con ConN Pan ConE OpPan hasW idxW isA isNum isNm numAt txtAt lineAt opAt
set_option maxHeartbeats 4000000

section
variable {l : List Tok} {a b : Nat}
theorem numbered_y (ha : a ≤ l.length) (h : isNum l a = true) : Con Tryz.prog 122 [Ptr b] [Pz b l a] (fun K => K (Bl true) [Pz b l a]) := by have := pnumbered_c (b := b) ha; rwa [h] at this
theorem numbered_n (ha : a ≤ l.length) (h : isNum l a = false) : Con Tryz.prog 122 [Ptr b] [Pz b l a] (fun K => K (Bl false) [Pz b l a]) := by have := pnumbered_c (b := b) ha; rwa [h] at this
theorem named_y (ha : a ≤ l.length) (h : isNm l a = true) : Con Tryz.prog 120 [Ptr b] [Pz b l a] (fun K => K (Bl true) [Pz b l a]) := by have := pnamed_c (b := b) ha; rwa [h] at this
theorem named_n (ha : a ≤ l.length) (h : isNm l a = false) : Con Tryz.prog 120 [Ptr b] [Pz b l a] (fun K => K (Bl false) [Pz b l a]) := by have := pnamed_c (b := b) ha; rwa [h] at this
theorem is_y {w : ByteArray} (ha : a ≤ l.length) (h : isA l a w = true) : Con Tryz.prog 119 [Ptr b, Str w] [Pz b l a] (fun K => K (Bl true) [Pz b l a]) := by have := pis_c (b := b) ha w; rwa [h] at this
theorem is_n {w : ByteArray} (ha : a ≤ l.length) (h : isA l a w = false) : Con Tryz.prog 119 [Ptr b, Str w] [Pz b l a] (fun K => K (Bl false) [Pz b l a]) := by have := pis_c (b := b) ha w; rwa [h] at this
theorem has_y {w : ByteArray} (hl : l.length ≤ 1000000) (ha : a ≤ l.length) (h : isA l a w = true) : Con Tryz.prog 79 [Ptr b, Str w] [Pz b l a] (fun K => K (Bl true) [Pz b l (a + 1)]) := by have := phas_c (b := b) hl ha w; rwa [h, if_pos rfl] at this
theorem has_n {w : ByteArray} (hl : l.length ≤ 1000000) (ha : a ≤ l.length) (h : isA l a w = false) : Con Tryz.prog 79 [Ptr b, Str w] [Pz b l a] (fun K => K (Bl false) [Pz b l a]) := by have := phas_c (b := b) hl ha w; rwa [h, if_neg Bool.false_ne_true] at this
end

theorem op1_none {l : List Tok} {a b : Nat} (hl : l.length ≤ 1000000) (ha : a ≤ l.length) {L : List ByteArray} (h : opAt l L a = none) (p q : Nat) : Con Tryz.prog 127 [Ptr p, Ptr q] [Cap1 p L, Cap2 q b, Pz b l a] (fun K => K (In .i64 0) [Cap1 p L, Cap2 q b, Pz b l a]) := by
  have := op1_c (b := b) (p := p) (q := q) hl ha L
  rw [opV, opN, h] at this
  exact this
theorem op1_some {l : List Tok} {a b : Nat} (hl : l.length ≤ 1000000) (ha : a ≤ l.length) {L : List ByteArray} {o : Int} (h : opAt l L a = some o) (p q : Nat) : Con Tryz.prog 127 [Ptr p, Ptr q] [Cap1 p L, Cap2 q b, Pz b l a] (fun K => K (In .i64 o) [Cap1 p L, Cap2 q b, Pz b l (a + 1)]) := by
  have := op1_c (b := b) (p := p) (q := q) hl ha L
  rw [opV, opN, h] at this
  exact this

def lpx (l : List Tok) (L : List ByteArray) (sub : Nat → Option (T × Nat)) : Nat → T → Nat → T × Nat
  | 0, x, a => (x, a)
  | n + 1, x, a => match opAt l L a with
    | none => (x, a)
    | some o => match sub (a + 1) with
      | none => (x, a)
      | some (y, b) => lpx l L sub n (.bn o x y) b
/-- The operators of a line of the grammar: 0 comparisons, 1 sums, 2 terms. -/
def opsL : Nat → List ByteArray
  | 0 => cmpL
  | 1 => addL
  | _ => mulL
abbrev W40 : ByteArray := ⟨#[40]⟩
abbrev W41 : ByteArray := ⟨#[41]⟩
abbrev W45 : ByteArray := ⟨#[45]⟩
abbrev W91 : ByteArray := ⟨#[91]⟩
abbrev W93 : ByteArray := ⟨#[93]⟩
def inx (l : List Tok) (w : ByteArray) : Option (T × Nat) → Option (T × Nat)
  | some (x, b) => if isA l b w = true then some (x, b + 1) else none
  | none => none
def lx (l : List Tok) : Nat → Nat → Nat → Option (T × Nat)
  | 0, _, _ => none
  | F + 1, k, a =>
    if 3 ≤ k then
      if isNum l a = true then some (.nu (numAt l a), a + 1)
      else if isA l a W45 = true then
        if isNum l (a + 1) = true then some (.nu (ngI (numAt l (a + 1))), a + 2)
        else match lx l F 3 (a + 1) with
          | some (x, b) => some (.bn 2 (.nu 0) x, b)
          | none => none
      else if isNm l a = true then
        if isA l (a + 1) W91 = true then
          match inx l W93 (lx l F 0 (a + 2)) with
          | some (x, b) => some (.ix (txtAt l a) x, b)
          | none => some (.nm (txtAt l a), a + 1)
        else some (.nm (txtAt l a), a + 1)
      else if isA l a W40 = true then inx l W41 (lx l F 0 (a + 1))
      else none
    else match lx l F (k + 1) a with
      | none => none
      | some (x, b) => some (lpx l (opsL k) (lx l F (k + 1)) (if k = 0 then 1 else F) x b)
theorem opAt_lt {l : List Tok} {L : List ByteArray} {a : Nat} {o : Int} (h : opAt l L a = some o) : a < l.length := by
  rcases Nat.lt_or_ge a l.length with h' | h'
  · exact h'
  · rw [opAt_end (by omega)] at h; cases h
theorem lpx_none {l : List Tok} {L : List ByteArray} {sub : Nat → Option (T × Nat)} {a : Nat} (h : opAt l L a = none) (n : Nat) (x : T) : lpx l L sub n x a = (x, a) := by cases n <;> simp [lpx, h]
theorem lpx_stop {l : List Tok} {L : List ByteArray} {sub : Nat → Option (T × Nat)} {a : Nat} (h : sub (a + 1) = none) (n : Nat) (x : T) : lpx l L sub n x a = (x, a) := by
  cases n with
  | zero => rfl
  | succ n =>
    rw [lpx]
    split
    · rfl
    · rw [h]
theorem lpx_go {l : List Tok} {L : List ByteArray} {sub : Nat → Option (T × Nat)} {a b : Nat} {o : Int} {y : T} (h : opAt l L a = some o) (hs : sub (a + 1) = some (y, b)) (n : Nat) (x : T) : lpx l L sub (n + 1) x a = lpx l L sub n (.bn o x y) b := by rw [lpx, h]; dsimp only; rw [hs]
theorem ops_signs : ∀ k, ((opsL k).all fun w => signL.any fun u => decide (u = w)) = true
  | 0 => by decide +kernel
  | 1 => by decide +kernel
  | _ + 2 => by show (mulL.all fun w => signL.any fun u => decide (u = w)) = true; decide +kernel
theorem opAt_pos {l : List Tok} {k a : Nat} {o : Int} (h : opAt l (opsL k) a = some o) : ¬ o = 0 := by
  have hlt := opAt_lt h
  rw [opAt_get _ hlt] at h
  split at h
  · rename_i h1
    obtain ⟨w, hw, h2⟩ := List.any_eq_true.1 h1.2
    have h3 := List.all_eq_true.1 (ops_signs k) w hw
    rw [of_decide_eq_true h2, ← idxW_any] at h3
    have h4 := of_decide_eq_true h3
    simp only [Option.some.injEq] at h
    omega
  · cases h
theorem lpx_bd {l : List Tok} {L : List ByteArray} {sub : Nat → Option (T × Nat)} (hs : ∀ a t b, sub a = some (t, b) → a < b ∧ b ≤ l.length) : ∀ (n : Nat) (x : T) (a : Nat), a ≤ l.length → a ≤ (lpx l L sub n x a).2 ∧ (lpx l L sub n x a).2 ≤ l.length
  | 0, x, a, h => ⟨Nat.le_refl _, h⟩
  | n + 1, x, a, h => by
    unfold lpx
    split
    · exact ⟨Nat.le_refl _, h⟩
    · rename_i o _
      split
      · exact ⟨Nat.le_refl _, h⟩
      · rename_i y b hy
        have h1 := hs _ _ _ hy
        have h2 := lpx_bd (L := L) hs n (.bn o x y) b h1.2
        exact ⟨by omega, h2.2⟩
theorem inx_some {l : List Tok} {w : ByteArray} {r : Option (T × Nat)} {x : T} {b : Nat} (h : inx l w r = some (x, b)) : ∃ c, r = some (x, c) ∧ isA l c w = true ∧ b = c + 1 := by
  unfold inx at h
  split at h
  · split at h
    · rename_i h2
      simp only [Option.some.injEq, Prod.mk.injEq] at h
      obtain ⟨rfl, rfl⟩ := h
      exact ⟨_, rfl, h2, rfl⟩
    · cases h
  · cases h
theorem lx_bd {l : List Tok} : ∀ (F k a : Nat) (t : T) (b : Nat), lx l F k a = some (t, b) → a < b ∧ b ≤ l.length
  | 0, _, _, _, _, h => by simp [lx] at h
  | F + 1, k, a, t, b, h => by
    have ih := lx_bd (l := l) F
    rw [lx] at h
    split at h
    · split at h
      · rename_i h1
        have := isNum_lt h1
        simp only [Option.some.injEq, Prod.mk.injEq] at h
        omega
      · split at h
        · split at h
          · rename_i h1
            have := isNum_lt h1
            simp only [Option.some.injEq, Prod.mk.injEq] at h
            omega
          · split at h
            · rename_i x b' h1
              have := ih _ _ _ _ h1
              simp only [Option.some.injEq, Prod.mk.injEq] at h
              omega
            · cases h
        · split at h
          · rename_i h1
            have := isNm_lt h1
            split at h
            · split at h
              · rename_i x b' h2
                obtain ⟨c, h3, h4, rfl⟩ := inx_some h2
                have := ih _ _ _ _ h3
                have := isA_lt h4
                simp only [Option.some.injEq, Prod.mk.injEq] at h
                omega
              · simp only [Option.some.injEq, Prod.mk.injEq] at h
                omega
            · simp only [Option.some.injEq, Prod.mk.injEq] at h
              omega
          · split at h
            · obtain ⟨c, h3, h4, rfl⟩ := inx_some h
              have := ih _ _ _ _ h3
              have := isA_lt h4
              omega
            · cases h
    · split at h
      · cases h
      · rename_i x b' h1
        have h2 := ih _ _ _ _ h1
        have h3 := lpx_bd (L := opsL k) (fun a t b => ih (k + 1) a t b) (if k = 0 then 1 else F) x b' h2.2
        simp only [Option.some.injEq] at h
        rw [h] at h3
        exact ⟨by omega, h3.2⟩
/-- A beginning, as the program has it. -/
def PFX : Option (T × Nat) → List C
  | some (t, a) => [.val (.int .i64 t.kind), .val (.int .i64 t.num), .val (.string t.name), .val (.int .i64 t.op), .list (t.args.map T.row), .val (.int .i64 (a : Int)), .val (.bool true)]
  | none => [.val (.int .i64 0), .val (.int .i64 0), .val (.string ⟨#[]⟩), .val (.int .i64 0), .val (.slice none 0 0), .val (.int .i64 0), .val (.bool false)]
theorem binary_c (o : Int) (x y : T) : Con Tryz.prog 88 [In .i64 o, .row x.row', .row y.row'] [] (fun K => K (.row (T.bn o x y).row') []) := by
  refine con_intro Tryz.func88 rfl rfl (Nat.le_of_ble_eq_true rfl) (fun c hc => R_ (o_ r_ (ci_ r_ (fun bx => o_ r_ (ci_ r_ (fun bx => o_ r_ (bl_ r_ r_ (fun bl => T_ (R_ (M_ r_ (A_ 2 r_ (A_ 1 r_ (o_ r_ (bq_ r_ r_ b_ r_ r_ b_ (o_ r_ (bu_ r_ r_ r_ r_ r_ (S_ 0 r_ (T_ (ar_ (jq_row 0 (T.bn o x y).row' rfl ?_ ?_))))))))))))))))))))
  · (repeat (first | exact RowLe.nil | refine RowLe.cons (CLe.refl _) ?_ | refine RowLe.cons CLe.nil ?_))
    exact RowLe.cons (CLe.eq (by simp [T.row_eq, T.args])) .nil
  · refine jq_retRow rfl rfl rfl rfl 0 rfl [] rfl (fun K h => h)
/-- A number, as it is built, on the left. -/
theorem binaryN_c (o n : Int) (y : T) : Con Tryz.prog 88 [In .i64 o, .row [.val (.int .i64 1), .val (.int .i64 n), .val (.string ⟨#[]⟩), .val (.int .i64 0), .val (.slice none 0 0)], .row y.row'] [] (fun K => K (.row (T.bn o (.nu n) y).row') []) := by
  refine con_intro Tryz.func88 rfl rfl (Nat.le_of_ble_eq_true rfl) (fun c hc => R_ (o_ r_ (ci_ r_ (fun bx => o_ r_ (ci_ r_ (fun bx => o_ r_ (bl_ r_ r_ (fun bl => T_ (R_ (M_ r_ (A_ 2 r_ (A_ 1 r_ (o_ r_ (bq_ r_ r_ b_ r_ r_ b_ (o_ r_ (bu_ r_ r_ r_ r_ r_ (S_ 0 r_ (T_ (ar_ (jq_row 0 (T.bn o (.nu n) y).row' rfl ?_ ?_))))))))))))))))))))
  · (repeat (first | exact RowLe.nil | refine RowLe.cons (CLe.refl _) ?_ | refine RowLe.cons CLe.nil ?_))
    refine RowLe.cons (CLe.list (.cons ?_ (.cons ?_ .nil))) .nil
    · (repeat (first | exact RowLe.nil | refine RowLe.cons (CLe.refl _) ?_ | refine RowLe.cons CLe.nil ?_))
    · rw [T.row_eq]
      (repeat (first | exact RowLe.nil | refine RowLe.cons (CLe.refl _) ?_ | refine RowLe.cons CLe.nil ?_))
  · refine jq_retRow rfl rfl rfl rfl 0 rfl [] rfl (fun K h => h)
end Go.Proofs.YtamajcgdfjeehaaGreatDoor
end

section
namespace Go.Proofs.YtamajcgdfjeehaaGreatDoor
open Go.Vc
set_option maxHeartbeats 1000000

inductive R (α : Type) where
  | ok (a : α) (n : Nat)
  | er (code : Int) (p : Nat)
def dpR (fr : Bool) (t : T) (a : Nat) : R T := if fr = false ∧ 8 < t.dep then .er 4 (a - 1) else .ok t a
def sxp (fr : Bool) (l : List Tok) (L : List ByteArray) (sub : Nat → R T) : Nat → T → Nat → R T
  | 0, x, a => .ok x a
  | n + 1, x, a => match opAt l L a with
    | none => .ok x a
    | some o => match sub (a + 1) with
      | .er c p => .er c p
      | .ok y b => match dpR fr (.bn o x y) b with
        | .er c p => .er c p
        | .ok z b' => sxp fr l L sub n z b'
def sx (fr : Bool) (l : List Tok) : Nat → Nat → Nat → R T
  | 0, _, _ => .er 1 0
  | F + 1, k, a =>
    if 3 ≤ k then
      if isNum l a = true then .ok (.nu (numAt l a)) (a + 1)
      else if isA l a W45 = true then
        if isNum l (a + 1) = true then .ok (.nu (ngI (numAt l (a + 1)))) (a + 2)
        else match sx fr l F 3 (a + 1) with
          | .er c p => .er c p
          | .ok x b => dpR fr (.bn 2 (.nu 0) x) b
      else if isNm l a = true then
        if isA l (a + 1) W91 = true then
          match sx fr l F 0 (a + 2) with
          | .er c p => .er c p
          | .ok x b => if isA l b W93 = true then dpR fr (.ix (txtAt l a) x) (b + 1) else .er 1 b
        else .ok (.nm (txtAt l a)) (a + 1)
      else if isA l a W40 = true then
        match sx fr l F 0 (a + 1) with
        | .er c p => .er c p
        | .ok x b => if isA l b W41 = true then .ok x (b + 1) else .er 1 b
      else .er 1 a
    else match sx fr l F (k + 1) a with
      | .er c p => .er c p
      | .ok x b => sxp fr l (opsL k) (sx fr l F (k + 1)) (if k = 0 then 1 else F) x b

theorem dpR_bd {fr : Bool} {t u : T} {a b : Nat} (h : dpR fr t a = .ok u b) : u = t ∧ b = a := by
  unfold dpR at h
  split at h
  · cases h
  · cases h; exact ⟨rfl, rfl⟩
theorem sxp_bd {fr : Bool} {l : List Tok} {L : List ByteArray} {sub : Nat → R T} (hs : ∀ a t b, sub a = .ok t b → a < b ∧ b ≤ l.length) : ∀ (n : Nat) (x : T) (a : Nat) (t : T) (b : Nat), a ≤ l.length → sxp fr l L sub n x a = .ok t b → a ≤ b ∧ b ≤ l.length
  | 0, x, a, t, b, h, e => by simp only [sxp, R.ok.injEq] at e; omega
  | n + 1, x, a, t, b, h, e => by
    rw [sxp] at e
    split at e
    · simp only [R.ok.injEq] at e; omega
    · rename_i o _
      split at e
      · cases e
      · rename_i y b1 hy
        have h1 := hs _ _ _ hy
        split at e
        · cases e
        · rename_i z b2 hz
          obtain ⟨rfl, rfl⟩ := dpR_bd hz
          have h2 := sxp_bd hs n _ _ _ _ h1.2 e
          omega
theorem sx_bd {fr : Bool} {l : List Tok} : ∀ (F k a : Nat) (t : T) (b : Nat), sx fr l F k a = .ok t b → a < b ∧ b ≤ l.length
  | 0, _, _, _, _, h => by simp [sx] at h
  | F + 1, k, a, t, b, h => by
    have ih := sx_bd (fr := fr) (l := l) F
    rw [sx] at h
    split at h
    · split at h
      · rename_i h1
        have := isNum_lt h1
        simp only [R.ok.injEq] at h
        omega
      · split at h
        · split at h
          · rename_i h1
            have := isNum_lt h1
            simp only [R.ok.injEq] at h
            omega
          · split at h
            · cases h
            · rename_i x b' h1
              have := ih _ _ _ _ h1
              obtain ⟨rfl, rfl⟩ := dpR_bd h
              omega
        · split at h
          · rename_i h1
            have := isNm_lt h1
            split at h
            · split at h
              · cases h
              · rename_i x b' h2
                have := ih _ _ _ _ h2
                split at h
                · rename_i h4
                  have := isA_lt h4
                  obtain ⟨rfl, rfl⟩ := dpR_bd h
                  omega
                · cases h
            · simp only [R.ok.injEq] at h
              omega
          · split at h
            · split at h
              · cases h
              · rename_i x b' h2
                have := ih _ _ _ _ h2
                split at h
                · rename_i h4
                  have := isA_lt h4
                  simp only [R.ok.injEq] at h
                  omega
                · cases h
            · cases h
    · split at h
      · cases h
      · rename_i x b' h1
        have h2 := ih _ _ _ _ h1
        have h3 := sxp_bd (L := opsL k) (fun a t b => ih (k + 1) a t b) _ _ _ _ _ h2.2 h
        omega

end Go.Proofs.YtamajcgdfjeehaaGreatDoor
end

section
namespace Go.Proofs.YtamajcgdfjeehaaGreatDoor
open Go.Vc
set_option maxHeartbeats 1000000

def R.bind {α β : Type} (r : R α) (f : α → Nat → R β) : R β := match r with
  | .er c p => .er c p
  | .ok x a => f x a
abbrev Kresource : ByteArray := ⟨#[114, 101, 115, 111, 117, 114, 99, 101]⟩
abbrev Kshared : ByteArray := ⟨#[115, 104, 97, 114, 101, 100]⟩
abbrev Ktask : ByteArray := ⟨#[116, 97, 115, 107]⟩
abbrev Kperiod : ByteArray := ⟨#[112, 101, 114, 105, 111, 100]⟩
abbrev Kdeadline : ByteArray := ⟨#[100, 101, 97, 100, 108, 105, 110, 101]⟩
abbrev Kpriority : ByteArray := ⟨#[112, 114, 105, 111, 114, 105, 116, 121]⟩
abbrev Kjitter : ByteArray := ⟨#[106, 105, 116, 116, 101, 114]⟩
abbrev Kinput : ByteArray := ⟨#[105, 110, 112, 117, 116]⟩
abbrev Kvar : ByteArray := ⟨#[118, 97, 114]⟩
abbrev Karray : ByteArray := ⟨#[97, 114, 114, 97, 121]⟩
abbrev Kmode : ByteArray := ⟨#[109, 111, 100, 101]⟩
abbrev Knever : ByteArray := ⟨#[110, 101, 118, 101, 114]⟩
abbrev Kbody : ByteArray := ⟨#[98, 111, 100, 121]⟩
abbrev Kend : ByteArray := ⟨#[101, 110, 100]⟩
abbrev Kif : ByteArray := ⟨#[105, 102]⟩
abbrev Klabel : ByteArray := ⟨#[108, 97, 98, 101, 108]⟩
abbrev Kelse : ByteArray := ⟨#[101, 108, 115, 101]⟩
abbrev Kwhile : ByteArray := ⟨#[119, 104, 105, 108, 101]⟩
abbrev Kmax : ByteArray := ⟨#[109, 97, 120]⟩
abbrev Klock : ByteArray := ⟨#[108, 111, 99, 107]⟩
abbrev Kob : ByteArray := ⟨#[123]⟩
abbrev Kcb : ByteArray := ⟨#[125]⟩
abbrev Keq : ByteArray := ⟨#[61]⟩
section
variable (l : List Tok)
def wdG (w : ByteArray) (a : Nat) : R Unit := if isA l a w = true then .ok () (a + 1) else .er 1 a
def nmG (a : Nat) : R ByteArray := if isNm l a = true then .ok (txtAt l a) (a + 1) else .er 1 a
def nuG (a : Nat) : R Int := if isNum l a = true then .ok (numAt l a) (a + 1) else .er 1 a
def nbG (a : Nat) : R Int := if isA l a W45 = true then (nuG l (a + 1)).bind fun n b => .ok (ngI n) b else nuG l a
def exG (a : Nat) : R T := sx false l (5 * l.length + 4) 0 a
/-- Whether a statement begins here. -/
def startA (a : Nat) : Bool := isA l a Kif || isA l a Kwhile || isA l a Klock || isNm l a
def stmtsL (st : Nat → R Sm) (w : Nat) : Nat → Nat → List Sm → R (List Sm)
  | 0, a, acc => .ok acc a
  | n + 1, a, acc => if startA l a = true then (if 8 ≤ w then .er 4 a else (st a).bind fun s b => stmtsL st w n b (acc ++ [s])) else .ok acc a
/-- A block of statements that are within w others. -/
def blkG (st : Nat → R Sm) (w n : Nat) (a : Nat) : R (List Sm) := (wdG l Kob a).bind fun _ b => (stmtsL l st w n b []).bind fun ss c => (wdG l Kcb c).bind fun _ d => .ok ss d
def stmtG : Nat → Nat → Nat → R Sm
  | 0, _, _ => .er 1 0
  | F + 1, w, a =>
    if isA l a Kif = true then
      (exG l (a + 1)).bind fun x b => (wdG l Klabel b).bind fun _ b => (nuG l b).bind fun n b => (blkG l (stmtG F (w + 1)) (w + 1) F b).bind fun t b =>
        if isA l b Kelse = true then (blkG l (stmtG F (w + 1)) (w + 1) F (b + 1)).bind fun e b => .ok (.mk 3 ⟨#[]⟩ [] [x] 0 n t e) b
        else .ok (.mk 3 ⟨#[]⟩ [] [x] 0 n t []) b
    else if isA l a Kwhile = true then
      (exG l (a + 1)).bind fun x b => (wdG l Kmax b).bind fun _ b => (nuG l b).bind fun m b => (wdG l Klabel b).bind fun _ b => (nuG l b).bind fun n b =>
        (blkG l (stmtG F (w + 1)) (w + 1) F b).bind fun t b => .ok (.mk 4 ⟨#[]⟩ [] [x] m n t []) b
    else if isA l a Klock = true then
      (nmG l (a + 1)).bind fun s b => (blkG l (stmtG F (w + 1)) (w + 1) F b).bind fun t b => .ok (.mk 5 s [] [] 0 0 t []) b
    else
      (nmG l a).bind fun s b =>
        if isA l b W91 = true then (exG l (b + 1)).bind fun i b => (wdG l W93 b).bind fun _ b => (wdG l Keq b).bind fun _ b => (exG l b).bind fun v b => .ok (.mk 2 s [i] [v] 0 0 [] []) b
        else (wdG l Keq b).bind fun _ b => (exG l b).bind fun v b => .ok (.mk 1 s [] [v] 0 0 [] []) b
def lpG {α : Type} (kw : ByteArray) (one : Nat → R α) : Nat → Nat → List α → R (List α)
  | 0, a, acc => .ok acc a
  | n + 1, a, acc => if isA l a kw = true then (one (a + 1)).bind fun x b => lpG kw one n b (acc ++ [x]) else .ok acc a
def inG (a : Nat) : R Inp := (nmG l a).bind fun s b => (nbG l b).bind fun lo b => (nbG l b).bind fun hi b => .ok (s, lo, hi) b
def arG (a : Nat) : R Arr := (nmG l a).bind fun s b => (nuG l b).bind fun n b => .ok (s, n) b
def mdG (a : Nat) : R Md := (nmG l a).bind fun s b => (nmG l b).bind fun i b => (nbG l b).bind fun lo b => (nbG l b).bind fun hi b => .ok (s, i, lo, hi) b
def clG (a : Nat) : R Clm := (nuG l a).bind fun x b => (nuG l b).bind fun y b => .ok (x, y) b
def shG (a : Nat) : R Shd := (nmG l a).bind fun s b => (nuG l b).bind fun n b => (nmG l b).bind fun r b => .ok (s, n, r) b
def dcG (kw : ByteArray) (a : Nat) : R Int := (wdG l kw a).bind fun _ b => nuG l b
def bodyG (a : Nat) : R (List Sm) := (wdG l Kbody a).bind fun _ b => (stmtsL l (stmtG l (l.length + 1) 0) 0 (l.length + 1) b []).bind fun ss c => (wdG l Kend c).bind fun _ d => .ok ss d
def taskG (a : Nat) : R Tk :=
  (nmG l a).bind fun nm b => (dcG l Kperiod b).bind fun pe b => (dcG l Kdeadline b).bind fun de b => (dcG l Kpriority b).bind fun pr b => (dcG l Kjitter b).bind fun ji b =>
    (lpG l Kinput (inG l) (l.length + 1) b []).bind fun i b => (lpG l Kvar (nmG l) (l.length + 1) b []).bind fun v b => (lpG l Karray (arG l) (l.length + 1) b []).bind fun ar b => (lpG l Kmode (mdG l) (l.length + 1) b []).bind fun m b =>
      (lpG l Knever (clG l) (l.length + 1) b []).bind fun c b => (bodyG l b).bind fun ss b => .ok ⟨nm, pe, de, pr, ji, i, v, ar, m, c, ss⟩ b
def tasksL : Nat → Nat → List Tk → R (List Tk)
  | 0, a, acc => .ok acc a
  | n + 1, a, acc => if a < l.length then (wdG l Ktask a).bind fun _ b => (taskG l b).bind fun t c => tasksL n c (acc ++ [t]) else .ok acc a
def progG : R Pg := (lpG l Kresource (nmG l) (l.length + 1) 0 []).bind fun r b => (lpG l Kshared (shG l) (l.length + 1) b []).bind fun s b => (tasksL l (l.length + 1) b []).bind fun t b => .ok ⟨r, s, t⟩ b
end
/-- What a text means: the program, or the line and the error. -/
def parseF (s : ByteArray) : Option Pg × Int × Int :=
  if (scan s).2.2 = 0 then (match progG (scan s).1 with
    | .ok p _ => (some p, 0, 0)
    | .er c p => (none, lineAt (scan s).1 p, c))
  else (none, (scan s).2.1, (scan s).2.2)
end Go.Proofs.YtamajcgdfjeehaaGreatDoor
end

section
namespace Go.Proofs.YtamajcgdfjeehaaGreatDoor
open Go.Vc
attribute [local irreducible] JL JC JQ OpWp Con ConN Pan ConE OpPan hasW idxW isA isNum isNm numAt txtAt lineAt opAt lx lpx
set_option maxHeartbeats 4000000

def need (l : List Tok) (k a : Nat) : Nat := 5 * (l.length - a) + (4 - k)
def LgP (l : List Tok) (F : Nat) : Prop := ∀ (b k a p : Nat), k ≤ 2 → a ≤ l.length → p ≤ l.length → need l (k + 1) a ≤ F → Con Tryz.prog 86 [Ptr b, In .i64 (a : Int), In .i64 (k : Int)] [Pz b l p] (fun K => ∀ q : Nat, q ≤ l.length → K (.row (PFX (lx l F (k + 1) a))) [Pz b l q])
def LtP (l : List Tok) (F : Nat) : Prop := ∀ (b a p : Nat), a ≤ l.length → p ≤ l.length → need l 0 a ≤ F → Con Tryz.prog 46 [Ptr b, In .i64 (a : Int)] [Pz b l p] (fun K => ∀ q : Nat, q ≤ l.length → K (.row (PFX (lx l F 0 a))) [Pz b l q])
def ShP (l : List Tok) (F : Nat) : Prop := ∀ (b a p : Nat), a ≤ l.length → p ≤ l.length → need l 3 a ≤ F → Con Tryz.prog 126 [Ptr b, In .i64 (a : Int)] [Pz b l p] (fun K => ∀ q : Nat, q ≤ l.length → K (.row (PFX (lx l F 3 a))) [Pz b l q])
def InP (l : List Tok) (F : Nat) : Prop := ∀ (b a p : Nat) (w : ByteArray), a ≤ l.length → p ≤ l.length → need l 0 a ≤ F → Con Tryz.prog 148 [Ptr b, In .i64 (a : Int), Str w] [Pz b l p] (fun K => ∀ q : Nat, q ≤ l.length → K (.row (PFX (inx l w (lx l F 0 a)))) [Pz b l q])

section
variable {l : List Tok} (hl : l.length ≤ 1000000)
include hl
theorem inner_step (F : Nat) (hL : LtP l F) : InP l F := by
  intro b a p w ha hp hF
  have con := hL b a p ha hp hF
  refine con_intro Tryz.func148 rfl rfl (Nat.le_of_ble_eq_true rfl) (fun c hc => ?_)
  cases hr : lx l F 0 a with
  | none =>
    rw [hr] at con
    refine R_ (o_ r_ (bl_ r_ r_ (fun bl => T_ (R_ (M_ r_ (M_ r_ (o_ r_ (bt_ [1] rfl rfl (con) (fun pp hpp => o_ r_ (bl_ r_ r_ (fun bl => S_ 0 r_ (T_ (am_ (R_ (M_ r_ (F_ r_ (L_ 0 r_ (N_ r_ ?_))))))))))))))))))
    refine F_ r_ (W_ 1 r_ (T_ (R_ (F_ r_ (L_ 1 r_ (o_ r_ (cd_ r_ (M_ r_ (ai_ r_ r_ b_ (ai_ r_ r_ b_ (ai_ r_ r_ b_ (ai_ r_ r_ b_ (o_ r_ (bp_ r_ r_ r_ (T_ (aq_ r_ r_ (R_ ?_)))))))))))))))))
    exact o_ r_ (bu_ r_ r_ r_ r_ r_ (S_ 2 r_ (T_ (ar_ (aw_ (jq_retRowS rfl rfl rfl rfl 0 rfl (fun K h => h 0 (Nat.zero_le _)) (bc_ 1 r_ sub_end)))))))
  | some tb =>
    obtain ⟨t, c⟩ := tb
    rw [hr] at con
    have hc := lx_bd _ _ _ _ _ hr
    cases hw : isA l c w with
    | true =>
      have hlt := isA_lt hw
      have e : inx l w (some (t, c)) = some (t, c + 1) := by rw [inx, if_pos hw]
      refine R_ (o_ r_ (bl_ r_ r_ (fun bl => T_ (R_ (M_ r_ (M_ r_ (o_ r_ (bt_ [1] rfl rfl (con) (fun pp hpp => o_ r_ (bl_ r_ r_ (fun bl => S_ 0 r_ (T_ (am_ (R_ (M_ r_ (F_ r_ (L_ 0 r_ (N_ r_ ?_))))))))))))))))))
      refine F_ r_ (W_ 1 r_ (T_ (R_ (F_ r_ (L_ 1 r_ (o_ r_ (cd_ r_ (M_ r_ (ah_ r_ r_ b_ (bd_ r_ (ah_ r_ r_ b_ (bd_ r_ (ah_ r_ r_ b_ (bi_ [0] r_ r_ (has_y hl g_ h_) (ah_ r_ r_ b_ (cd_ r_ (o_ r_ (bv_ r_ r_ r_ (T_ (ap_ r_ r_ (as_ ?_)))))))))))))))))))))
      refine al_ (am_ (jc_anyB 7 none rfl k_ k_ (yF_ r_ (aa_ (fun c => cp_ 1 r_ r_ r_ r_ r_ p_) (yM_ r_ (yN_ r_ (yF_ r_ (yL_ 0 r_ (aa_ (fun c => bu_ r_ r_ r_ r_ r_ p_) (ae_ (afin_none (S_ 2 r_ (T_ (ar_ (jq_retRowS rfl rfl rfl rfl 0 rfl (fun K h => by rw [e] at h; exact h (c + 1) g_) ?_)))))))))))))))
      exact bc_ 1 r_ sub_end
    | false =>
      have e : inx l w (some (t, c)) = none := by rw [inx, if_neg (by rw [hw]; decide)]
      refine R_ (o_ r_ (bl_ r_ r_ (fun bl => T_ (R_ (M_ r_ (M_ r_ (o_ r_ (bt_ [1] rfl rfl (con) (fun pp hpp => o_ r_ (bl_ r_ r_ (fun bl => S_ 0 r_ (T_ (am_ (R_ (M_ r_ (F_ r_ (L_ 0 r_ (N_ r_ ?_))))))))))))))))))
      refine F_ r_ (W_ 1 r_ (T_ (R_ (F_ r_ (L_ 1 r_ (o_ r_ (cd_ r_ (M_ r_ (ah_ r_ r_ b_ (bd_ r_ (ah_ r_ r_ b_ (bd_ r_ (ah_ r_ r_ b_ (bi_ [0] r_ r_ (has_n hl g_ h_) (ah_ r_ r_ b_ (cd_ r_ (o_ r_ (bv_ r_ r_ r_ (T_ (aq_ r_ r_ (R_ ?_)))))))))))))))))))))
      exact o_ r_ (bu_ r_ r_ r_ r_ r_ (S_ 2 r_ (T_ (ar_ (aw_ (jq_retRowS rfl rfl rfl rfl 0 rfl (fun K h => by rw [e] at h; exact h c g_) (bc_ 1 r_ sub_end)))))))
theorem shortest_step (F : Nat) (hS : ShP l F) (hI : InP l F) : ShP l (F + 1) := by
  intro b a p ha hp hF
  unfold need at hF
  refine con_intro Tryz.func126 rfl rfl (Nat.le_of_ble_eq_true rfl) (fun c hc => ?_)
  cases h1 : isNum l a with
  | true =>
    have hlt := isNum_lt h1
    have e : lx l (F + 1) 3 a = some (.nu (numAt l a), a + 1) := by rw [lx, if_pos (Nat.le_refl _), if_pos h1]
    refine R_ (o_ r_ (bl_ r_ r_ (fun bl => T_ (R_ (M_ r_ (M_ r_ (N_ r_ (F_ r_ (W_ 1 r_ (T_ (B_ (R_ (M_ r_ (o_ r_ (bi_ [0] r_ r_ (numbered_y g_ h_) (E_ r_ (T_ ?_)))))))))))))))))
    refine aq_ r_ r_ (R_ (M_ r_ (o_ r_ (bi_ [0] r_ r_ (pnum_ok hl g_ h_) (o_ r_ (bu_ r_ r_ r_ r_ r_ (M_ r_ (o_ r_ (bj_ r_ r_ g_ (o_ r_ (bu_ r_ r_ r_ r_ r_ (S_ 1 r_ (T_ (ar_ (az_ (aw_ (jq_row 0 (PFX (some (.nu (numAt l a), a + 1))) rfl ?_ ?_)))))))))))))))))
    · (repeat (first | exact RowLe.nil | refine RowLe.cons (CLe.refl _) ?_ | refine RowLe.cons CLe.nil ?_))
    · exact jq_retRowS rfl rfl rfl rfl 0 rfl (fun K h => by rw [e] at h; exact h (a + 1) g_) (bc_ 1 r_ sub_end)
  | false =>
    have h1' : ¬ isNum l a = true := by rw [h1]; decide
    cases h2 : isA l a W45 with
    | true =>
      have hlt := isA_lt h2
      cases h3 : isNum l (a + 1) with
      | true =>
        have hlt2 := isNum_lt h3
        have e : lx l (F + 1) 3 a = some (.nu (ngI (numAt l (a + 1))), a + 2) := by rw [lx, if_pos (Nat.le_refl _), if_neg h1', if_pos h2, if_pos h3]
        refine R_ (o_ r_ (bl_ r_ r_ (fun bl => T_ (R_ (M_ r_ (M_ r_ (N_ r_ (F_ r_ (W_ 1 r_ (T_ (B_ (R_ (M_ r_ (o_ r_ (bi_ [0] r_ r_ (numbered_n g_ h1) (E_ r_ (T_ ?_)))))))))))))))))
        refine ap_ r_ r_ (R_ (M_ r_ (o_ r_ (bi_ [0] r_ r_ (has_y hl g_ h_) (E_ r_ (T_ (aq_ r_ r_ (am_ (R_ (M_ r_ (o_ r_ (bi_ [0] r_ r_ (numbered_y g_ h3) (T_ (aq_ r_ r_ (R_ (M_ r_ (o_ r_ (bi_ [0] r_ r_ (pnum_ok hl g_ h_) ?_))))))))))))))))))
        refine o_ r_ (ow_negW r_ (o_ r_ (bu_ r_ r_ r_ r_ r_ (M_ r_ (o_ r_ (bj_ r_ r_ g_ (o_ r_ (bu_ r_ r_ r_ r_ r_ (S_ 1 r_ (T_ (ar_ (aw_ (az_ (aw_ (jq_row 0 (PFX (some (.nu (ngI (numAt l (a + 1))), a + 2))) rfl ?_ ?_)))))))))))))))
        · (repeat (first | exact RowLe.nil | refine RowLe.cons (CLe.refl _) ?_ | refine RowLe.cons CLe.nil ?_))
        · exact jq_retRowS rfl rfl rfl rfl 0 rfl (fun K h => by rw [e] at h; exact h (a + 2) g_) (bc_ 1 r_ sub_end)
      | false =>
        have h3' : ¬ isNum l (a + 1) = true := by rw [h3]; decide
        have con := hS b (a + 1) (a + 1) (by omega) (by omega) (by unfold need; omega)
        cases hr : lx l F 3 (a + 1) with
        | none =>
          have e : lx l (F + 1) 3 a = none := by rw [lx, if_pos (Nat.le_refl _), if_neg h1', if_pos h2, if_neg h3', hr]
          rw [hr] at con
          refine R_ (o_ r_ (bl_ r_ r_ (fun bl => T_ (R_ (M_ r_ (M_ r_ (N_ r_ (F_ r_ (W_ 1 r_ (T_ (B_ (R_ (M_ r_ (o_ r_ (bi_ [0] r_ r_ (numbered_n g_ h1) (E_ r_ (T_ ?_)))))))))))))))))
          refine ap_ r_ r_ (R_ (M_ r_ (o_ r_ (bi_ [0] r_ r_ (has_y hl g_ h_) (E_ r_ (T_ (aq_ r_ r_ (am_ (R_ (M_ r_ (o_ r_ (bi_ [0] r_ r_ (numbered_n g_ h3) (T_ (ap_ r_ r_ (as_ (al_ (R_ ?_)))))))))))))))))
          refine M_ r_ (M_ r_ (o_ r_ (bj_ r_ r_ g_ (o_ r_ (bt_ [0] rfl rfl (con) (fun pp hpp => o_ r_ (bl_ r_ r_ (fun bl => S_ 0 r_ (T_ (am_ (R_ (F_ r_ (L_ 0 r_ (T_ (ap_ r_ r_ (as_ (al_ (R_ ?_))))))))))))))))))
          exact A_ 0 r_ (S_ 2 r_ (T_ (ar_ (az_ (aw_ (jq_retRowS rfl rfl rfl rfl 0 rfl (fun K h => by rw [e] at h; exact h pp hpp) (bc_ 2 r_ sub_end)))))))
        | some tb =>
          obtain ⟨t, c⟩ := tb
          have hc := lx_bd _ _ _ _ _ hr
          have e : lx l (F + 1) 3 a = some (.bn 2 (.nu 0) t, c) := by rw [lx, if_pos (Nat.le_refl _), if_neg h1', if_pos h2, if_neg h3', hr]
          rw [hr] at con
          have hB := binaryN_c 2 0 t
          refine R_ (o_ r_ (bl_ r_ r_ (fun bl => T_ (R_ (M_ r_ (M_ r_ (N_ r_ (F_ r_ (W_ 1 r_ (T_ (B_ (R_ (M_ r_ (o_ r_ (bi_ [0] r_ r_ (numbered_n g_ h1) (E_ r_ (T_ ?_)))))))))))))))))
          refine ap_ r_ r_ (R_ (M_ r_ (o_ r_ (bi_ [0] r_ r_ (has_y hl g_ h_) (E_ r_ (T_ (aq_ r_ r_ (am_ (R_ (M_ r_ (o_ r_ (bi_ [0] r_ r_ (numbered_n g_ h3) (T_ (ap_ r_ r_ (as_ (al_ (R_ ?_)))))))))))))))))
          refine M_ r_ (M_ r_ (o_ r_ (bj_ r_ r_ g_ (o_ r_ (bt_ [0] rfl rfl (con) (fun pp hpp => o_ r_ (bl_ r_ r_ (fun bl => S_ 0 r_ (T_ (am_ (R_ (F_ r_ (L_ 0 r_ (T_ (aq_ r_ r_ (an_ (o_ r_ (bu_ r_ r_ r_ r_ r_ (F_ r_ ?_)))))))))))))))))))
          exact o_ r_ (cp_ 0 r_ r_ r_ r_ r_ (o_ r_ (bm_ r_ (hB) (F_ r_ (ag_ (cm_ 0 r_ r_ r_ r_ r_ b_ r_ (T_ (R_ (A_ 0 r_ (S_ 2 r_ (T_ (ar_ (az_ (aw_ (jq_retRowS rfl rfl rfl rfl 0 rfl (fun K h => by rw [e] at h; exact h pp hpp) (bc_ 2 r_ sub_end))))))))))))))))
    | false =>
      have h2' : ¬ isA l a W45 = true := by rw [h2]; decide
      cases h3 : isNm l a with
      | true =>
        have hlt := isNm_lt h3
        cases h4 : isA l (a + 1) W91 with
        | true =>
          have hlt2 := isA_lt h4
          have con := hI b (a + 2) (a + 2) W93 (by omega) (by omega) (by unfold need; omega)
          cases hr : inx l W93 (lx l F 0 (a + 2)) with
          | none =>
            have e : lx l (F + 1) 3 a = some (.nm (txtAt l a), a + 1) := by rw [lx, if_pos (Nat.le_refl _), if_neg h1', if_neg h2', if_pos h3, if_pos h4, hr]
            rw [hr] at con
            refine R_ (o_ r_ (bl_ r_ r_ (fun bl => T_ (R_ (M_ r_ (M_ r_ (N_ r_ (F_ r_ (W_ 1 r_ (T_ (B_ (R_ (M_ r_ (o_ r_ (bi_ [0] r_ r_ (numbered_n g_ h1) (E_ r_ (T_ ?_)))))))))))))))))
            refine ap_ r_ r_ (R_ (M_ r_ (o_ r_ (bi_ [0] r_ r_ (has_n hl g_ h2) (E_ r_ (T_ (ap_ r_ r_ (R_ (M_ r_ (o_ r_ (bi_ [0] r_ r_ (named_y g_ h3) (o_ r_ (cd_ r_ (E_ r_ (T_ (ap_ r_ r_ (as_ (ay_ ?_))))))))))))))))))
            refine al_ (R_ (M_ r_ (o_ r_ (bi_ [0] r_ r_ (pname_ok hl g_ h3) (E_ r_ (T_ (am_ (R_ (M_ r_ (o_ r_ (bi_ [0] r_ r_ (has_y hl g_ h4) (T_ (aq_ r_ r_ (R_ (M_ r_ (M_ r_ (o_ r_ (bj_ r_ r_ g_ ?_))))))))))))))))))
            refine o_ r_ (bt_ [0] rfl rfl (con) (fun pp hpp => o_ r_ (bl_ r_ r_ (fun bl => S_ 0 r_ (T_ (R_ (F_ r_ (L_ 0 r_ (T_ (ap_ r_ r_ (as_ (al_ (R_ (M_ r_ (o_ r_ (bu_ r_ r_ r_ r_ r_ (M_ r_ (o_ r_ (bj_ r_ r_ g_ ?_)))))))))))))))))))
            refine o_ r_ (bu_ r_ r_ r_ r_ r_ (S_ 2 r_ (T_ (ar_ (jq_row 0 (PFX (some (.nm (txtAt l a), a + 1))) rfl ?_ ?_)))))
            · (repeat (first | exact RowLe.nil | refine RowLe.cons (CLe.refl _) ?_ | refine RowLe.cons CLe.nil ?_))
            · exact jq_retRowS rfl rfl rfl rfl 0 rfl (fun K h => by rw [e] at h; exact h pp hpp) (bc_ 2 r_ sub_end)
          | some tb =>
            obtain ⟨t, c⟩ := tb
            have e : lx l (F + 1) 3 a = some (.ix (txtAt l a) t, c) := by rw [lx, if_pos (Nat.le_refl _), if_neg h1', if_neg h2', if_pos h3, if_pos h4, hr]
            rw [hr] at con
            refine R_ (o_ r_ (bl_ r_ r_ (fun bl => T_ (R_ (M_ r_ (M_ r_ (N_ r_ (F_ r_ (W_ 1 r_ (T_ (B_ (R_ (M_ r_ (o_ r_ (bi_ [0] r_ r_ (numbered_n g_ h1) (E_ r_ (T_ ?_)))))))))))))))))
            refine ap_ r_ r_ (R_ (M_ r_ (o_ r_ (bi_ [0] r_ r_ (has_n hl g_ h2) (E_ r_ (T_ (ap_ r_ r_ (R_ (M_ r_ (o_ r_ (bi_ [0] r_ r_ (named_y g_ h3) (o_ r_ (cd_ r_ (E_ r_ (T_ (ap_ r_ r_ (as_ (ay_ ?_))))))))))))))))))
            refine al_ (R_ (M_ r_ (o_ r_ (bi_ [0] r_ r_ (pname_ok hl g_ h3) (E_ r_ (T_ (am_ (R_ (M_ r_ (o_ r_ (bi_ [0] r_ r_ (has_y hl g_ h4) (T_ (aq_ r_ r_ (R_ (M_ r_ (M_ r_ (o_ r_ (bj_ r_ r_ g_ ?_))))))))))))))))))
            refine o_ r_ (bt_ [0] rfl rfl (con) (fun pp hpp => o_ r_ (bl_ r_ r_ (fun bl => S_ 0 r_ (T_ (R_ (F_ r_ (L_ 0 r_ (T_ (aq_ r_ r_ (R_ (M_ r_ (F_ r_ (o_ r_ (cp_ 0 r_ r_ r_ r_ r_ (o_ r_ (bq_ r_ r_ b_ r_ r_ b_ (o_ r_ (bu_ r_ r_ r_ r_ r_ (F_ r_ ?_))))))))))))))))))))
            refine L_ 0 r_ (o_ r_ (bu_ r_ r_ r_ r_ r_ (S_ 2 r_ (T_ (ar_ (aw_ (jq_row 0 (PFX (some (.ix (txtAt l a) t, c))) rfl ?_ ?_)))))))
            · (repeat (first | exact RowLe.nil | refine RowLe.cons (CLe.refl _) ?_ | refine RowLe.cons CLe.nil ?_))
              refine RowLe.cons (CLe.eq (show C.list [t.row'] = C.list [t.row] by rw [T.row_eq])) ?_
              (repeat (first | exact RowLe.nil | refine RowLe.cons (CLe.refl _) ?_ | refine RowLe.cons CLe.nil ?_))
            · exact jq_retRowS rfl rfl rfl rfl 0 rfl (fun K h => by rw [e] at h; exact h pp hpp) (bc_ 2 r_ sub_end)
        | false =>
          have h4' : ¬ isA l (a + 1) W91 = true := by rw [h4]; decide
          have e : lx l (F + 1) 3 a = some (.nm (txtAt l a), a + 1) := by rw [lx, if_pos (Nat.le_refl _), if_neg h1', if_neg h2', if_pos h3, if_neg h4']
          refine R_ (o_ r_ (bl_ r_ r_ (fun bl => T_ (R_ (M_ r_ (M_ r_ (N_ r_ (F_ r_ (W_ 1 r_ (T_ (B_ (R_ (M_ r_ (o_ r_ (bi_ [0] r_ r_ (numbered_n g_ h1) (E_ r_ (T_ ?_)))))))))))))))))
          refine ap_ r_ r_ (R_ (M_ r_ (o_ r_ (bi_ [0] r_ r_ (has_n hl g_ h2) (E_ r_ (T_ (ap_ r_ r_ (R_ (M_ r_ (o_ r_ (bi_ [0] r_ r_ (named_y g_ h3) (o_ r_ (cd_ r_ (E_ r_ (T_ (ap_ r_ r_ (as_ (ay_ ?_))))))))))))))))))
          refine al_ (R_ (M_ r_ (o_ r_ (bi_ [0] r_ r_ (pname_ok hl g_ h3) (E_ r_ (T_ (am_ (R_ (M_ r_ (o_ r_ (bi_ [0] r_ r_ (has_n hl g_ h4) (T_ (ap_ r_ r_ (as_ (al_ (R_ (M_ r_ ?_)))))))))))))))))
          refine o_ r_ (bu_ r_ r_ r_ r_ r_ (M_ r_ (o_ r_ (bj_ r_ r_ g_ (o_ r_ (bu_ r_ r_ r_ r_ r_ (S_ 1 r_ (T_ (ar_ (jq_row 0 (PFX (some (.nm (txtAt l a), a + 1))) rfl ?_ ?_))))))))))
          · (repeat (first | exact RowLe.nil | refine RowLe.cons (CLe.refl _) ?_ | refine RowLe.cons CLe.nil ?_))
          · exact jq_retRowS rfl rfl rfl rfl 0 rfl (fun K h => by rw [e] at h; exact h (a + 1) g_) (bc_ 1 r_ sub_end)
      | false =>
        have h3' : ¬ isNm l a = true := by rw [h3]; decide
        cases h4 : isA l a W40 with
        | true =>
          have hlt2 := isA_lt h4
          have con := hI b (a + 1) (a + 1) W41 (by omega) (by omega) (by unfold need; omega)
          have e : lx l (F + 1) 3 a = inx l W41 (lx l F 0 (a + 1)) := by rw [lx, if_pos (Nat.le_refl _), if_neg h1', if_neg h2', if_neg h3', if_pos h4]
          rw [← e] at con
          cases hr : lx l (F + 1) 3 a with
          | none =>
            rw [hr] at con
            refine R_ (o_ r_ (bl_ r_ r_ (fun bl => T_ (R_ (M_ r_ (M_ r_ (N_ r_ (F_ r_ (W_ 1 r_ (T_ (B_ (R_ (M_ r_ (o_ r_ (bi_ [0] r_ r_ (numbered_n g_ h1) (E_ r_ (T_ ?_)))))))))))))))))
            refine ap_ r_ r_ (R_ (M_ r_ (o_ r_ (bi_ [0] r_ r_ (has_n hl g_ h2) (E_ r_ (T_ (ap_ r_ r_ (R_ (M_ r_ (o_ r_ (bi_ [0] r_ r_ (named_n g_ h3) (o_ r_ (cd_ r_ (E_ r_ (T_ (aq_ r_ r_ (am_ (R_ ?_))))))))))))))))))
            refine M_ r_ (o_ r_ (bi_ [0] r_ r_ (has_y hl g_ h4) (o_ r_ (cd_ r_ (T_ (ap_ r_ r_ (as_ (al_ (R_ (M_ r_ (M_ r_ (o_ r_ (bj_ r_ r_ g_ (o_ r_ (bt_ [0] rfl rfl (con) (fun pp hpp => S_ 1 r_ (T_ (ar_ (az_ ?_)))))))))))))))))))
            exact aw_ (jq_retRowS rfl rfl rfl rfl 0 rfl (fun K h => h pp hpp) (bc_ 1 r_ sub_end))
          | some tb =>
            obtain ⟨t, c⟩ := tb
            rw [hr] at con
            refine R_ (o_ r_ (bl_ r_ r_ (fun bl => T_ (R_ (M_ r_ (M_ r_ (N_ r_ (F_ r_ (W_ 1 r_ (T_ (B_ (R_ (M_ r_ (o_ r_ (bi_ [0] r_ r_ (numbered_n g_ h1) (E_ r_ (T_ ?_)))))))))))))))))
            refine ap_ r_ r_ (R_ (M_ r_ (o_ r_ (bi_ [0] r_ r_ (has_n hl g_ h2) (E_ r_ (T_ (ap_ r_ r_ (R_ (M_ r_ (o_ r_ (bi_ [0] r_ r_ (named_n g_ h3) (o_ r_ (cd_ r_ (E_ r_ (T_ (aq_ r_ r_ (am_ (R_ ?_))))))))))))))))))
            refine M_ r_ (o_ r_ (bi_ [0] r_ r_ (has_y hl g_ h4) (o_ r_ (cd_ r_ (T_ (ap_ r_ r_ (as_ (al_ (R_ (M_ r_ (M_ r_ (o_ r_ (bj_ r_ r_ g_ (o_ r_ (bt_ [0] rfl rfl (con) (fun pp hpp => S_ 1 r_ (T_ (ar_ (az_ ?_)))))))))))))))))))
            exact aw_ (jq_retRowS rfl rfl rfl rfl 0 rfl (fun K h => h pp hpp) (bc_ 1 r_ sub_end))
        | false =>
          have h4' : ¬ isA l a W40 = true := by rw [h4]; decide
          have e : lx l (F + 1) 3 a = none := by rw [lx, if_pos (Nat.le_refl _), if_neg h1', if_neg h2', if_neg h3', if_neg h4']
          refine R_ (o_ r_ (bl_ r_ r_ (fun bl => T_ (R_ (M_ r_ (M_ r_ (N_ r_ (F_ r_ (W_ 1 r_ (T_ (B_ (R_ (M_ r_ (o_ r_ (bi_ [0] r_ r_ (numbered_n g_ h1) (E_ r_ (T_ ?_)))))))))))))))))
          refine ap_ r_ r_ (R_ (M_ r_ (o_ r_ (bi_ [0] r_ r_ (has_n hl g_ h2) (E_ r_ (T_ (ap_ r_ r_ (R_ (M_ r_ (o_ r_ (bi_ [0] r_ r_ (named_n g_ h3) (o_ r_ (cd_ r_ (E_ r_ (T_ (aq_ r_ r_ (am_ (R_ ?_))))))))))))))))))
          exact M_ r_ (o_ r_ (bi_ [0] r_ r_ (has_n hl g_ h4) (o_ r_ (cd_ r_ (T_ (aq_ r_ r_ (R_ (o_ r_ (bu_ r_ r_ r_ r_ r_ (S_ 1 r_ (T_ (ar_ (aw_ (az_ (aw_ (jq_retRowS rfl rfl rfl rfl 0 rfl (fun K h => by rw [e] at h; exact h a g_) (bc_ 1 r_ sub_end)))))))))))))))))
theorem longest_step (F : Nat) (hG : LgP l F) : LtP l (F + 1) := by
  intro b a p ha hp hF
  unfold need at hF
  have con := hG b 0 a p (by omega) ha hp (by unfold need; omega)
  refine con_intro Tryz.func46 rfl rfl (Nat.le_of_ble_eq_true rfl) (fun c hc => ?_)
  cases hr : lx l F 1 a with
  | none =>
    have e : lx l (F + 1) 0 a = none := by rw [lx, if_neg (by omega), hr]
    rw [show 0 + 1 = 1 from rfl, hr] at con
    refine R_ (o_ r_ (bl_ r_ r_ (fun bl => T_ (R_ (M_ r_ (M_ r_ (o_ r_ (bt_ [1] rfl rfl (con) (fun pp hpp => o_ r_ (bl_ r_ r_ (fun bl => S_ 0 r_ (T_ (am_ (R_ (F_ r_ (L_ 0 r_ (o_ r_ (cd_ r_ (T_ ?_)))))))))))))))))))
    exact aq_ r_ r_ (R_ (A_ 0 r_ (S_ 2 r_ (T_ (ar_ (aw_ (jq_retRowS rfl rfl rfl rfl 0 rfl (fun K h => by rw [e] at h; exact h pp hpp) (bc_ 2 r_ sub_end))))))))
  | some tb =>
    obtain ⟨t, c⟩ := tb
    have hc := lx_bd _ _ _ _ _ hr
    rw [show 0 + 1 = 1 from rfl, hr] at con
    cases ho : opAt l cmpL c with
    | none =>
      have e : lx l (F + 1) 0 a = some (t, c) := by rw [lx, if_neg (by omega), hr]; show some (lpx l cmpL (lx l F 1) 1 t c) = _; rw [lpx_none ho]
      refine R_ (o_ r_ (bl_ r_ r_ (fun bl => T_ (R_ (M_ r_ (M_ r_ (o_ r_ (bt_ [1] rfl rfl (con) (fun pp hpp => o_ r_ (bl_ r_ r_ (fun bl => S_ 0 r_ (T_ (am_ (R_ (F_ r_ (L_ 0 r_ (o_ r_ (cd_ r_ (T_ ?_)))))))))))))))))))
      refine ap_ r_ r_ (as_ (al_ (R_ (M_ r_ (F_ r_ (L_ 0 r_ (N_ r_ (F_ r_ (W_ 1 r_ (T_ (am_ (R_ (M_ r_ (o_ r_ (dd_ gl_cmps r_ r_ r_ (o_ r_ (bt_ [] rfl rfl (one_c b cmpL) (fun pp hpp => ?_))))))))))))))))))
      refine o_ r_ (cx_ (cs := [Ptr _, Ptr _]) [0, 0, 0] rfl rfl (fun _ _ => ⟨_, _, rfl, ⟨rfl, rfl⟩, _, _, rfl, ⟨rfl, rfl⟩, rfl⟩) rfl (op1_none hl g_ ho _ _) (E_ r_ (T_ (R_ (M_ r_ (o_ r_ (bx_ r_ r_ (T_ (ap_ r_ r_ (as_ (al_ (R_ (A_ 3 r_ (S_ 4 r_ (T_ (ar_ (jq_retRowS rfl rfl rfl rfl 0 rfl (fun K h => by rw [e] at h; exact h c g_) ?_)))))))))))))))))
      exact bc_ 3 r_ sub_end
    | some o =>
      have ho0 : ¬ o = 0 := opAt_pos (k := 0) ho
      have hlt := opAt_lt ho
      have con2 := hG b 0 (c + 1) (c + 1) (by omega) (by omega) (by omega) (by unfold need; omega)
      cases hr2 : lx l F 1 (c + 1) with
      | none =>
        have e : lx l (F + 1) 0 a = some (t, c) := by rw [lx, if_neg (by omega), hr]; show some (lpx l cmpL (lx l F 1) 1 t c) = _; rw [lpx_stop hr2]
        rw [show 0 + 1 = 1 from rfl, hr2] at con2
        refine R_ (o_ r_ (bl_ r_ r_ (fun bl => T_ (R_ (M_ r_ (M_ r_ (o_ r_ (bt_ [1] rfl rfl (con) (fun pp hpp => o_ r_ (bl_ r_ r_ (fun bl => S_ 0 r_ (T_ (am_ (R_ (F_ r_ (L_ 0 r_ (o_ r_ (cd_ r_ (T_ ?_)))))))))))))))))))
        refine ap_ r_ r_ (as_ (al_ (R_ (M_ r_ (F_ r_ (L_ 0 r_ (N_ r_ (F_ r_ (W_ 1 r_ (T_ (am_ (R_ (M_ r_ (o_ r_ (dd_ gl_cmps r_ r_ r_ (o_ r_ (bt_ [] rfl rfl (one_c b cmpL) (fun pp hpp => ?_))))))))))))))))))
        refine o_ r_ (cx_ (cs := [Ptr _, Ptr _]) [0, 0, 0] rfl rfl (fun _ _ => ⟨_, _, rfl, ⟨rfl, rfl⟩, _, _, rfl, ⟨rfl, rfl⟩, rfl⟩) rfl (op1_some hl g_ ho _ _) (E_ r_ (T_ (R_ (M_ r_ (o_ r_ (bx_ r_ r_ (T_ (aq_ r_ u_ (R_ (M_ r_ (M_ r_ (N_ r_ (F_ r_ (L_ 2 r_ (o_ r_ (bt_ [2] rfl rfl (con2) (fun pp hpp => o_ r_ (bl_ r_ r_ (fun bl => ?_))))))))))))))))))))
        exact S_ 0 r_ (T_ (R_ (F_ r_ (L_ 0 r_ (T_ (ap_ r_ r_ (as_ (al_ (R_ (A_ 4 r_ (S_ 5 r_ (T_ (ar_ (jq_retRowS rfl rfl rfl rfl 0 rfl (fun K h => by rw [e] at h; exact h pp hpp) (bc_ 2 r_ sub_end)))))))))))))))
      | some tb =>
        obtain ⟨u, d⟩ := tb
        have hc2 := lx_bd _ _ _ _ _ hr2
        have e : lx l (F + 1) 0 a = some (.bn o t u, d) := by rw [lx, if_neg (by omega), hr]; show some (lpx l cmpL (lx l F 1) 1 t c) = _; rw [lpx_go ho hr2, lpx]
        rw [show 0 + 1 = 1 from rfl, hr2] at con2
        refine R_ (o_ r_ (bl_ r_ r_ (fun bl => T_ (R_ (M_ r_ (M_ r_ (o_ r_ (bt_ [1] rfl rfl (con) (fun pp hpp => o_ r_ (bl_ r_ r_ (fun bl => S_ 0 r_ (T_ (am_ (R_ (F_ r_ (L_ 0 r_ (o_ r_ (cd_ r_ (T_ ?_)))))))))))))))))))
        refine ap_ r_ r_ (as_ (al_ (R_ (M_ r_ (F_ r_ (L_ 0 r_ (N_ r_ (F_ r_ (W_ 1 r_ (T_ (am_ (R_ (M_ r_ (o_ r_ (dd_ gl_cmps r_ r_ r_ (o_ r_ (bt_ [] rfl rfl (one_c b cmpL) (fun pp hpp => ?_))))))))))))))))))
        refine o_ r_ (cx_ (cs := [Ptr _, Ptr _]) [0, 0, 0] rfl rfl (fun _ _ => ⟨_, _, rfl, ⟨rfl, rfl⟩, _, _, rfl, ⟨rfl, rfl⟩, rfl⟩) rfl (op1_some hl g_ ho _ _) (E_ r_ (T_ (R_ (M_ r_ (o_ r_ (bx_ r_ r_ (T_ (aq_ r_ u_ (R_ (M_ r_ (M_ r_ (N_ r_ (F_ r_ (L_ 2 r_ (o_ r_ (bt_ [2] rfl rfl (con2) (fun pp hpp => o_ r_ (bl_ r_ r_ (fun bl => ?_))))))))))))))))))))
        refine S_ 0 r_ ?_; refine T_ ?_; refine R_ ?_; refine F_ r_ ?_; refine L_ 0 r_ ?_; refine T_ ?_; refine aq_ r_ r_ ?_; refine am_ ?_; refine jc_anyB 9 none rfl k_ k_ ?_; refine yM_ r_ ?_; refine yF_ r_ ?_; refine aa_ (fun c => cp_ 4 r_ r_ r_ r_ r_ p_) ?_; refine yF_ r_ ?_; refine aa_ (fun c => cp_ 0 r_ r_ r_ r_ r_ p_) ?_; refine aa_ (fun c => bm_ r_ (binary_c o t u) p_) ?_; refine yF_ r_ ?_
        exact yL_ 0 r_ (aa_ (fun c => bu_ r_ r_ r_ r_ r_ p_) (ae_ (afin_none (S_ 5 r_ (T_ (ar_ (aw_ (jq_retRowS rfl rfl rfl rfl 0 rfl (fun K h => by rw [e] at h; exact h pp hpp) (bc_ 2 r_ sub_end)))))))))
omit hl in
theorem longer_top (F : Nat) (hS : ShP l F) (b a p : Nat) (ha : a ≤ l.length) (hp : p ≤ l.length) (hF : need l 3 a ≤ F) : Con Tryz.prog 86 [Ptr b, In .i64 (a : Int), In .i64 ((2 : Nat) : Int)] [Pz b l p] (fun K => ∀ q : Nat, q ≤ l.length → K (.row (PFX (lx l F 3 a))) [Pz b l q]) := by
  have con := hS b a p ha hp hF
  refine con_intro Tryz.func86 rfl rfl (Nat.le_of_ble_eq_true rfl) (fun c hc => ?_)
  cases hr : lx l F 3 a with
  | none =>
    rw [hr] at con
    refine R_ (o_ r_ (bl_ r_ r_ (fun bl => T_ (am_ (R_ (M_ r_ (o_ r_ (bn_ r_ r_ (T_ (aq_ r_ x_ (R_ (M_ r_ (M_ r_ (o_ r_ (bt_ [1] rfl rfl (con) (fun pp hpp => S_ 1 r_ (T_ (ar_ ?_))))))))))))))))))
    exact aw_ (jq_retRowS rfl rfl rfl rfl 0 rfl (fun K h => h pp hpp) (bc_ 1 r_ sub_end))
  | some tb =>
    obtain ⟨t, c⟩ := tb
    rw [hr] at con
    refine R_ (o_ r_ (bl_ r_ r_ (fun bl => T_ (am_ (R_ (M_ r_ (o_ r_ (bn_ r_ r_ (T_ (aq_ r_ x_ (R_ (M_ r_ (M_ r_ (o_ r_ (bt_ [1] rfl rfl (con) (fun pp hpp => S_ 1 r_ (T_ (ar_ ?_))))))))))))))))))
    exact aw_ (jq_retRowS rfl rfl rfl rfl 0 rfl (fun K h => h pp hpp) (bc_ 1 r_ sub_end))
theorem longer_step (F k b a p : Nat) (hk : k ≤ 1) (hG : ∀ a p, a ≤ l.length → p ≤ l.length → need l (k + 2) a ≤ F → Con Tryz.prog 86 [Ptr b, In .i64 (a : Int), In .i64 ((k + 1 : Nat) : Int)] [Pz b l p] (fun K => ∀ q : Nat, q ≤ l.length → K (.row (PFX (lx l F (k + 2) a))) [Pz b l q]))
    (ha : a ≤ l.length) (hp : p ≤ l.length) (hF : need l (k + 1) a ≤ F + 1) : Con Tryz.prog 86 [Ptr b, In .i64 (a : Int), In .i64 (k : Int)] [Pz b l p] (fun K => ∀ q : Nat, q ≤ l.length → K (.row (PFX (lx l (F + 1) (k + 1) a))) [Pz b l q]) := by
  unfold need at hF
  have con := hG a p ha hp (by unfold need; omega)
  have hk2 : ¬ (k : Int) = 2 := by omega
  refine con_intro Tryz.func86 rfl rfl (Nat.le_of_ble_eq_true rfl) (fun c hc => ?_)
  cases hr : lx l F (k + 2) a with
  | none =>
    have e : lx l (F + 1) (k + 1) a = none := by rw [lx, if_neg (by omega), hr]
    rw [hr] at con
    refine R_ (o_ r_ (bl_ r_ r_ (fun bl => T_ (am_ (R_ (M_ r_ (o_ r_ (bn_ r_ r_ (T_ (ap_ r_ w_ (as_ (al_ (R_ (M_ r_ (M_ r_ (M_ r_ (o_ r_ (bj_ r_ r_ g_ ?_))))))))))))))))))
    refine o_ r_ (bt_ [1] rfl rfl (con) (fun pp hpp => o_ r_ (bl_ r_ r_ (fun bl => S_ 0 r_ (T_ (B_ ?_))))))
    rename_i bR
    refine jc_loopS (ι := Unit) [] (fun _ => True) (fun _ => [(0, Ptr b), (2, In .i64 (k : Int)), (6, Ptr bR), (7, Ptr bl)]) (fun _ => [.blk bR 110 (PFX none), .blk bl 110 (PFX none), Pz b l pp]) (fun _ => 0) () trivial ?_ ?_ ?_
    · exact bc_ 2 r_ (bc_ 0 r_ (bc_ 0 r_ sub_end))
    · (repeat (first | exact True.intro | refine ⟨rfl, ?_⟩))
    · intro _ _
      refine jc_reset [(0, Ptr b), (2, In .i64 (k : Int)), (6, Ptr bR), (7, Ptr bl)] [.blk bR 110 (PFX none), .blk bl 110 (PFX none), Pz b l pp] ?_ ⟨[0, 0, 0], [], rfl⟩ ?_
      · (repeat (first | exact True.intro | refine ⟨rfl, ?_⟩))
      refine am_ (R_ (F_ r_ (L_ 1 r_ (T_ (ap_ r_ r_ (av_ (ax_ (ax_ (ba_ (al_ (R_ (A_ 1 r_ (S_ 0 r_ (T_ (ar_ ?_)))))))))))))))
      exact jq_retRowS rfl rfl rfl rfl 0 rfl (fun K h => by rw [e] at h; exact h pp hpp) (bc_ 2 r_ sub_end)
  | some tb =>
    obtain ⟨t0, c0⟩ := tb
    have hc0 := lx_bd _ _ _ _ _ hr
    have e : lx l (F + 1) (k + 1) a = some (lpx l (opsL (k + 1)) (lx l F (k + 2)) F t0 c0) := by rw [lx, if_neg (by omega), hr, if_neg (Nat.succ_ne_zero k)]
    rw [hr] at con
    refine R_ (o_ r_ (bl_ r_ r_ (fun bl => T_ (am_ (R_ (M_ r_ (o_ r_ (bn_ r_ r_ (T_ (ap_ r_ w_ (as_ (al_ (R_ (M_ r_ (M_ r_ (M_ r_ (o_ r_ (bj_ r_ r_ g_ ?_))))))))))))))))))
    refine o_ r_ (bt_ [1] rfl rfl (con) (fun pp hpp => o_ r_ (bl_ r_ r_ (fun bl => S_ 0 r_ (T_ (B_ ?_))))))
    rename_i bR
    refine jc_loopS (ι := T × Nat × Nat × Nat) [] (fun i => (a ≤ i.2.1 ∧ i.2.1 ≤ l.length) ∧ l.length - i.2.1 ≤ i.2.2.1 ∧ i.2.2.2 ≤ l.length ∧ lpx l (opsL (k + 1)) (lx l F (k + 2)) F t0 c0 = lpx l (opsL (k + 1)) (lx l F (k + 2)) i.2.2.1 i.1 i.2.1)
      (fun _ => [(0, Ptr b), (2, In .i64 (k : Int)), (6, Ptr bR), (7, Ptr bl)]) (fun i => [.blk bR 110 (PFX none), .blk bl 110 (PFX (some (i.1, i.2.1))), Pz b l i.2.2.2]) (fun i => l.length - i.2.1) (t0, c0, F, pp) ⟨⟨by dsimp only; omega, hc0.2⟩, by dsimp only; omega, hpp, rfl⟩ ?_ ?_ ?_
    · exact bc_ 2 r_ (bc_ 0 r_ (bc_ 0 r_ sub_end))
    · (repeat (first | exact True.intro | refine ⟨rfl, ?_⟩))
    · rintro ⟨t, c, n, q⟩ ⟨⟨hac, hcl⟩, hn, hq, hi⟩
      dsimp only at hac hcl hn hq hi ⊢
      clear hpp
      refine jc_reset [(0, Ptr b), (2, In .i64 (k : Int)), (6, Ptr bR), (7, Ptr bl)] [.blk bR 110 (PFX none), .blk bl 110 (PFX (some (t, c))), Pz b l q] ?_ ⟨[0, 0, 0], [], rfl⟩ ?_
      · (repeat (first | exact True.intro | refine ⟨rfl, ?_⟩))
      refine am_ (R_ (F_ r_ (L_ 1 r_ (T_ (aq_ r_ r_ (as_ (al_ (au_ (R_ (M_ r_ (F_ r_ (L_ 1 r_ (N_ r_ (F_ r_ (W_ 2 r_ ?_)))))))))))))))
      refine T_ (R_ (M_ r_ (M_ r_ (o_ r_ (de_ (n := 2) (e := 28) r_ r_ r_ g_ g_ (o_ r_ (dd_ (e := .list ((opsL (k + 1)).map Wrow)) gl_lines rfl rfl (by rcases (show k = 0 ∨ k = 1 by omega) with rfl | rfl <;> rfl) ?_)))))))
      cases ho : opAt l (opsL (k + 1)) c with
      | none =>
        rw [lpx_none ho] at hi
        refine o_ r_ (bt_ [] rfl rfl (one_c b (opsL (k + 1))) (fun pp hpp => o_ r_ (cx_ (cs := [Ptr _, Ptr _]) [0, 0, 0] rfl rfl (fun _ _ => ⟨_, _, rfl, ⟨rfl, rfl⟩, _, _, rfl, ⟨rfl, rfl⟩, rfl⟩) rfl (op1_none hl g_ ho _ _) (E_ r_ (T_ (am_ (R_ (M_ r_ (o_ r_ (bn_ r_ r_ (T_ (aq_ r_ x_ (av_ (ax_ (bb_ r_ (ax_ (ba_ (al_ ?_))))))))))))))))))
        exact R_ (A_ 4 r_ (S_ 3 r_ (T_ (ar_ (jq_retRowS rfl rfl rfl rfl 0 rfl (fun K h => by rw [e, hi] at h; exact h c hcl) (bc_ 3 r_ sub_end))))))
      | some o =>
        have ho0 : ¬ o = 0 := opAt_pos ho
        have hlt := opAt_lt ho
        have con2 := hG (c + 1) (c + 1) (by omega) (by omega) (by unfold need; omega)
        cases hr2 : lx l F (k + 2) (c + 1) with
        | none =>
          rw [lpx_stop hr2] at hi
          rw [hr2] at con2
          refine o_ r_ (bt_ [] rfl rfl (one_c b (opsL (k + 1))) (fun pp hpp => o_ r_ (cx_ (cs := [Ptr _, Ptr _]) [0, 0, 0] rfl rfl (fun _ _ => ⟨_, _, rfl, ⟨rfl, rfl⟩, _, _, rfl, ⟨rfl, rfl⟩, rfl⟩) rfl (op1_some hl g_ ho _ _) (E_ r_ (T_ (am_ (R_ (M_ r_ (o_ r_ (bn_ r_ r_ (T_ (ap_ r_ w_ (as_ (al_ (R_ (M_ r_ (M_ r_ (N_ r_ ?_))))))))))))))))))
          refine F_ r_ (L_ 2 r_ (M_ r_ (o_ r_ (bj_ r_ r_ g_ (o_ r_ (bt_ [2] rfl rfl (con2) (fun pp hpp => o_ r_ (bl_ r_ r_ (fun bl => S_ 0 r_ (T_ (am_ (R_ (F_ r_ (L_ 0 r_ (o_ r_ (cd_ r_ (T_ (aq_ r_ r_ (av_ ?_)))))))))))))))))))
          exact ax_ (bb_ r_ (ax_ (ba_ (al_ (R_ (A_ 5 r_ (S_ 4 r_ (T_ (ar_ (jq_retRowS rfl rfl rfl rfl 0 rfl (fun K h => by rw [e, hi] at h; exact h pp hpp) (bc_ 2 r_ sub_end)))))))))))
        | some tb =>
          obtain ⟨u, d⟩ := tb
          have hc2 := lx_bd _ _ _ _ _ hr2
          rw [hr2] at con2
          obtain ⟨n, rfl⟩ : ∃ m, n = m + 1 := ⟨n - 1, by omega⟩
          rw [lpx_go ho hr2] at hi
          refine o_ r_ (bt_ [] rfl rfl (one_c b (opsL (k + 1))) (fun pp hpp => o_ r_ (cx_ (cs := [Ptr _, Ptr _]) [0, 0, 0] rfl rfl (fun _ _ => ⟨_, _, rfl, ⟨rfl, rfl⟩, _, _, rfl, ⟨rfl, rfl⟩, rfl⟩) rfl (op1_some hl g_ ho _ _) (E_ r_ (T_ (am_ (R_ (M_ r_ (o_ r_ (bn_ r_ r_ (T_ (ap_ r_ w_ (as_ (al_ (R_ (M_ r_ (M_ r_ (N_ r_ ?_))))))))))))))))))
          refine F_ r_ (L_ 2 r_ (M_ r_ (o_ r_ (bj_ r_ r_ g_ (o_ r_ (bt_ [2] rfl rfl (con2) (fun pp hpp => o_ r_ (bl_ r_ r_ (fun bl => S_ 0 r_ (T_ (am_ (R_ (F_ r_ (L_ 0 r_ (o_ r_ (cd_ r_ (T_ (ap_ r_ r_ (as_ ?_)))))))))))))))))))
          refine al_ ?_; refine jc_anyB 9 none rfl k_ k_ ?_; refine yM_ r_ ?_; refine yF_ r_ ?_; refine aa_ (fun c => cp_ 5 r_ r_ r_ r_ r_ p_) ?_; refine yF_ r_ ?_; refine aa_ (fun c => cp_ 0 r_ r_ r_ r_ r_ p_) ?_; refine aa_ (fun c => bm_ r_ (binary_c o t u) p_) ?_; refine yF_ r_ ?_; refine yL_ 0 r_ ?_; refine aa_ (fun c => bu_ r_ r_ r_ r_ r_ p_) ?_; refine ae_ ?_; refine afin_none ?_; refine S_ 5 r_ ?_; refine ak_ ?_; refine ay_ ?_
          refine jq_againS (i := (t, c, n + 1, q)) ((T.bn o t u, d, n, pp) : T × Nat × Nat × Nat) ⟨⟨by dsimp only; omega, hc2.2⟩, by dsimp only; omega, hpp, hi⟩ (by dsimp only; omega) ?_ ?_
          · exact bc_ 5 r_ (bc_ 0 r_ (bc_ 1 r_ sub_end))
          · (repeat (first | exact True.intro | refine ⟨rfl, ?_⟩))
/-- All of it. -/
theorem long_all : ∀ F : Nat, ShP l F ∧ LtP l F ∧ LgP l F
  | 0 => ⟨fun b a p ha hp h => absurd h (by unfold need; omega), fun b a p ha hp h => absurd h (by unfold need; omega), fun b k a p hk ha hp h => absurd h (by unfold need; omega)⟩
  | F + 1 => by
    obtain ⟨h1, h2, h3⟩ := long_all F
    have i1 := inner_step hl F h2
    have s1 := shortest_step hl F h1 i1
    refine ⟨s1, longest_step hl F h3, ?_⟩
    intro b k a p hk ha hp hF
    rcases (show k = 0 ∨ k = 1 ∨ k = 2 by omega) with rfl | rfl | rfl
    · exact longer_step hl F 0 b a p g_ (fun a p ha hp h => h3 b 1 a p g_ ha hp h) ha hp hF
    · exact longer_step hl F 1 b a p g_ (fun a p ha hp h => h3 b 2 a p g_ ha hp h) ha hp hF
    · exact longer_top (F + 1) s1 b a p ha hp hF
end
end Go.Proofs.YtamajcgdfjeehaaGreatDoor
end
