import Derived.Test.YtalkkcfojplmdaaGreatDoorMe5
section
namespace Go.Proofs.YtalkkcfojplmdaaGreatDoor
open Go.Vc
attribute [local irreducible] JL JC JQ OpWp Con ConN HOk
attribute [local irreducible] byteAt runLen isL isD isName hasW
set_option maxHeartbeats 4000000

/-- Labels of the kinds that are wanted, so many levels down. -/
def lbSelf (w : Int → Bool) (s : Sm) : List Int := if w s.kind = true then [s.label] else []
def lbF (w : Int → Bool) : Nat → Sm → List Int
  | 0, _ => []
  | f + 1, s => lbSelf w s ++ s.thn.flatMap (lbF w f) ++ s.els.flatMap (lbF w f)
theorem lb_zero (w : Int → Bool) (l : List Sm) : l.flatMap (lbF w 0) = [] := by
  induction l with
  | nil => rfl
  | cons s l ih => simp [lbF]
theorem lb_rl : ∀ (f : Nat) (s : Sm), rlOne f s = lbF isIf f s
  | 0, _ => rfl
  | f + 1, s => by
    have h : ∀ l : List Sm, l.flatMap (rlOne f) = l.flatMap (lbF isIf f) := fun l => by
      induction l with
      | nil => rfl
      | cons u l ih => rw [List.flatMap_cons, List.flatMap_cons, ih, lb_rl f u]
    rw [rlOne, lbF, h, h]
    unfold rlSelf lbSelf isIf
    by_cases hk : s.kind = 3 <;> simp [hk]
theorem lbF_le (w : Int → Bool) : ∀ (f : Nat) (s : Sm), (lbF w f s).length ≤ s.sz
  | 0, s => by simp [lbF]
  | f + 1, s => by
    have h1 := flat_szs (lbF_le w f) s.thn
    have h2 := flat_szs (lbF_le w f) s.els
    have h3 : (lbSelf w s).length ≤ 1 := by unfold lbSelf; split <;> simp
    rw [lbF, Sm.sz_eq, List.length_append, List.length_append]
    omega
theorem lb_lbs (w : Int → Bool) : ∀ (n f : Nat) (l : List Sm), dpF n l = false → n ≤ f → l.flatMap (lbF w f) = Sm.lbss w l
  | 0, f, l, h, _ => by
    cases l with
    | nil => rfl
    | cons s l => cases h
  | n + 1, 0, l, _, h => by omega
  | n + 1, f + 1, l, h, hf => by
    rw [Sm.lbss_flat]
    have h' : ∀ s ∈ l, dpS (dpF n) s = false := fun s hs => by simpa using List.any_eq_false.1 h s hs
    clear h
    induction l with
    | nil => rfl
    | cons s l ih =>
      rw [List.flatMap_cons, List.flatMap_cons, ih (fun t ht => h' t (List.mem_cons_of_mem _ ht))]
      have hs := h' s (List.mem_cons_self ..)
      unfold dpS at hs
      simp only [Bool.or_eq_false_iff] at hs
      rw [lbF, lb_lbs w n f _ hs.1.1.1 (by omega), lb_lbs w n f _ hs.1.1.2 (by omega)]
      cases s
      rfl
def LB (l : List Sm) : List Int := l.flatMap (lbF isIW 20)
theorem LB_le (l : List Sm) : (LB l).length ≤ Sm.szs l := flat_szs (lbF_le isIW 20) l
/-- The labels of a task are right. -/
def clmB (fs : List Int) (c : Clm) : Bool := !decide (c.1 = c.2) && hasI fs c.1 && hasI fs c.2
def labF (t : Tk) : Bool := (LB t.body).all (fun n => decide (1 ≤ n) && decide (n ≤ 12)) && !dupI (LB t.body) && t.claims.all (clmB (ifsOf t.body))
theorem labF_labT {t : Tk} (h : dpF 8 t.body = false) : labF t = labT t := by
  have e1 : LB t.body = Sm.lbss isIW t.body := lb_lbs isIW 8 20 _ h (by omega)
  have e2 : ifsOf t.body = Sm.lbss isIf t.body := by
    rw [← lb_lbs isIf 8 20 _ h (by omega)]
    unfold ifsOf
    congr 1
    funext x
    exact lb_rl 20 x
  unfold labF labT clmB
  rw [e1, e2]
theorem lck_eq (sh : List Shd) (h : ByteArray) (s : Sm) : s.lck sh h = ((s.index ++ s.value).all (freeB sh h) && (!decide (s.kind = 5) || decide (h = ⟨#[]⟩)) && (!decide (s.kind = 2) || allowB sh h s.name) && Sm.lcks sh (if s.kind = 5 then s.name else h) s.thn && Sm.lcks sh (if s.kind = 5 then s.name else h) s.els) := by
  cases s
  simp only [Sm.lck, Sm.kind, Sm.name, Sm.index, Sm.value, Sm.thn, Sm.els, List.all_append, Bool.and_assoc]
  rfl
/-- The first error of a program. -/
def ckF (p : Pg) : Int := if (progF p).2 ≠ 0 then (progF p).2 else if limB p = false then 4 else if namB p = false then 2 else if ranB p = false then 3 else if p.tasks.all labF = false then 5 else if p.tasks.all (fun t => Sm.lcks p.shared ⟨#[]⟩ t.body) = false then 14 else if p.tasks.all (fun t => decide (wAll 20 t.body 0 ≤ 2000)) = false then 7 else 0
end Go.Proofs.YtalkkcfojplmdaaGreatDoor
end

section
namespace Go.Proofs.YtalkkcfojplmdaaGreatDoor
open Go.Vc
attribute [local irreducible] JL JC JQ OpWp Con ConN HOk
set_option maxHeartbeats 4000000

/-- Where the first fits; -1 if none does. -/
def idxOf {α : Type} (p : α → Bool) (l : List α) : Int := match l.findIdx? p with | some i => (i : Int) | none => -1
theorem idx_some {α : Type} {p : α → Bool} {l : List α} {k : Nat} (hk : k < l.length) (h : p l[k] = true) (hno : (l.take k).any p = false) : idxOf p l = (k : Int) := by
  unfold idxOf
  rw [List.findIdx?_eq_some_iff_getElem.2 ⟨hk, h, fun j hj => List.any_eq_false.1 hno l[j] (by rw [List.mem_take_iff_getElem]; exact ⟨j, by omega, rfl⟩)⟩]
theorem idx_none {α : Type} {p : α → Bool} {l : List α} (hno : l.any p = false) : idxOf p l = -1 := by
  unfold idxOf
  rw [List.findIdx?_eq_none_iff.2 (fun x hx => by simpa using List.any_eq_false.1 hno x hx)]
theorem idx_any {α : Type} (p : α → Bool) (l : List α) : decide (0 ≤ idxOf p l) = l.any p := by
  cases h : l.any p with
  | false => rw [idx_none h]; rfl
  | true =>
    unfold idxOf
    cases hf : l.findIdx? p with
    | some i => exact decide_eq_true (show (0 : Int) ≤ (i : Int) by omega)
    | none =>
      obtain ⟨x, hx, hp⟩ := List.any_eq_true.1 h
      rw [List.findIdx?_eq_none_iff.1 hf x hx] at hp
      cases hp
theorem idxSh1_c (F : FuncId) [FI Tryz.prog F] (cap : List Value) (hcap : cap.all Value.oneCell' = true) (h1 : Ch) (p : Shd → Bool) (l : List (Shd)) (hp : ∀ x ∈ l, Con Tryz.prog F (.row (ShRow x) :: capS cap) [h1] (fun K => K (Bl (p x)) [h1])) :
    Con Tryz.prog 147 [.cell (.list (l.map ShRow)), FC F cap] [h1] (fun K => K (In .i64 (idxOf p l)) [h1]) := by
  refine con_intro Tryz.func147 rfl rfl (Nat.le_of_ble_eq_true rfl) (fun c hc => R_ (E_ r_ (T_ (am_ (R_ (M_ r_ (o_ r_ (br_ r_ (fun hlen => M_ r_ (T_ (au_ ?_)))))))))))
  refine jc_loopS (ι := Nat) [] (fun k => k ≤ (l).length ∧ (l.take k).any p = false) (fun k => (8, In .i64 (k : Int)) :: [(0, .cell (.list (l.map ShRow))), (1, FC F cap), (7, In .i64 ((l.map ShRow).length : Int))]) (fun k => [h1]) (fun k => (l).length - k) 0 ⟨Nat.zero_le _, rfl⟩ ?_ ?_ ?_
  · exact bc_ 0 r_ sub_end
  · (repeat (first | exact True.intro | refine ⟨rfl, ?_⟩))
  rintro k ⟨hk, hno⟩
  have eLk : ((l).map ShRow).length = (l).length := List.length_map _
  by_cases hltk : k < (l).length
  · have hltk2 : (k : Int) < (((l).map ShRow).length : Int) := by omega
    have hC := hp l[k] (List.getElem_mem hltk)
    cases hb' : p l[k] with
    | true =>
      rw [hb'] at hC
      have hres := idx_some hltk hb' hno
      refine R_ (o_ r_ (bw_ r_ r_ (T_ (am_ (aq_ r_ u_ (as_ (al_ (B_ (R_ (M_ r_ (E_ r_ (T_ (R_ (M_ r_ (M_ r_ (M_ r_ ?_))))))))))))))))
      refine o_ r_ (cc_ r_ r_ g_ r_ r_ b_ (o_ r_ (cr_ r_ r_ r_ (o_ r_ (ow_callc [0] r_ r_ hcap r_ hC (T_ (aq_ r_ r_ (R_ (M_ r_ (E_ r_ (T_ (ar_ (az_ (aw_ (aw_ (az_ (aw_ (jq_ret1S rfl rfl (fun K h => by rw [hres] at h; exact h) ?_))))))))))))))))))
      exact bc_ 0 r_ sub_end
    | false =>
      rw [hb'] at hC
      refine R_ (o_ r_ (bw_ r_ r_ (T_ (am_ (aq_ r_ u_ (as_ (al_ (B_ (R_ (M_ r_ (E_ r_ (T_ (R_ (M_ r_ (M_ r_ (M_ r_ ?_))))))))))))))))
      refine o_ r_ (cc_ r_ r_ g_ r_ r_ b_ (o_ r_ (cr_ r_ r_ r_ (o_ r_ (ow_callc [0] r_ r_ hcap r_ hC (T_ (ap_ r_ r_ (as_ (ay_ (al_ (an_ (o_ r_ (bj_ r_ r_ g_ (M_ r_ (ak_ (jq_againS (i := k) (k + 1) ⟨hltk, any_snoc hltk hno hb'⟩ g_ ?_ ?_))))))))))))))))
      · exact bc_ 0 r_ sub_end
      · (repeat (first | exact True.intro | refine ⟨rfl, ?_⟩))
  · have hltk2 : ¬ (k : Int) < (((l).map ShRow).length : Int) := by omega
    rw [List.take_of_length_le (by omega)] at hno
    have hres := idx_none hno
    exact R_ (o_ r_ (bw_ r_ r_ (T_ (am_ (ap_ r_ w_ (av_ (ax_ (ax_ (ba_ (al_ (R_ (E_ r_ (T_ (ar_ (jq_ret1S rfl rfl (fun K h => by rw [hres] at h; exact h) (bc_ 0 r_ sub_end))))))))))))))))
theorem hasSh1_c (F : FuncId) [FI Tryz.prog F] (cap : List Value) (hcap : cap.all Value.oneCell' = true) (h1 : Ch) (p : Shd → Bool) (l : List (Shd)) (hp : ∀ x ∈ l, Con Tryz.prog F (.row (ShRow x) :: capS cap) [h1] (fun K => K (Bl (p x)) [h1])) :
    Con Tryz.prog 94 [.cell (.list (l.map ShRow)), FC F cap] [h1] (fun K => K (Bl (l.any p)) [h1]) := by
  have hI := idxSh1_c F cap hcap h1 p l hp
  rw [← idx_any]
  generalize idxOf p l = m at hI ⊢
  exact con_intro Tryz.func94 rfl rfl (Nat.le_of_ble_eq_true rfl) (fun c hc => R_ (E_ r_ (T_ (R_ (M_ r_ (M_ r_ (o_ r_ (bi_ [0] r_ r_ hI (o_ r_ (cn_ r_ r_ (E_ r_ (T_ (ar_ (jq_ret1S rfl rfl (fun K h => h) (bc_ 0 r_ sub_end)))))))))))))))
theorem idxEx1_c (F : FuncId) [FI Tryz.prog F] (cap : List Value) (hcap : cap.all Value.oneCell' = true) (h1 : Ch) (p : T → Bool) (l : List (T)) (hp : ∀ x ∈ l, Con Tryz.prog F (.row x.row' :: capS cap) [h1] (fun K => K (Bl (p x)) [h1])) :
    Con Tryz.prog 194 [.cell (.list (l.map T.row)), FC F cap] [h1] (fun K => K (In .i64 (idxOf p l)) [h1]) := by
  refine con_intro Tryz.func194 rfl rfl (Nat.le_of_ble_eq_true rfl) (fun c hc => R_ (E_ r_ (T_ (am_ (R_ (M_ r_ (o_ r_ (br_ r_ (fun hlen => M_ r_ (T_ (au_ ?_)))))))))))
  refine jc_loopS (ι := Nat) [] (fun k => k ≤ (l).length ∧ (l.take k).any p = false) (fun k => (8, In .i64 (k : Int)) :: [(0, .cell (.list (l.map T.row))), (1, FC F cap), (7, In .i64 ((l.map T.row).length : Int))]) (fun k => [h1]) (fun k => (l).length - k) 0 ⟨Nat.zero_le _, rfl⟩ ?_ ?_ ?_
  · exact bc_ 0 r_ sub_end
  · (repeat (first | exact True.intro | refine ⟨rfl, ?_⟩))
  rintro k ⟨hk, hno⟩
  have eLk : ((l).map T.row).length = (l).length := List.length_map _
  by_cases hltk : k < (l).length
  · have hltk2 : (k : Int) < (((l).map T.row).length : Int) := by omega
    have hC := hp l[k] (List.getElem_mem hltk)
    cases hb' : p l[k] with
    | true =>
      rw [hb'] at hC
      have hres := idx_some hltk hb' hno
      refine R_ (o_ r_ (bw_ r_ r_ (T_ (am_ (aq_ r_ u_ (as_ (al_ (B_ (R_ (M_ r_ (E_ r_ (T_ (R_ (M_ r_ (M_ r_ (M_ r_ ?_))))))))))))))))
      refine o_ r_ (cc_ r_ r_ g_ (T.row_eq _) r_ b_ (o_ r_ (cr_ r_ r_ r_ (o_ r_ (ow_callc [0] r_ r_ hcap r_ hC (T_ (aq_ r_ r_ (R_ (M_ r_ (E_ r_ (T_ (ar_ (az_ (aw_ (aw_ (az_ (aw_ (jq_ret1S rfl rfl (fun K h => by rw [hres] at h; exact h) ?_))))))))))))))))))
      exact bc_ 0 r_ sub_end
    | false =>
      rw [hb'] at hC
      refine R_ (o_ r_ (bw_ r_ r_ (T_ (am_ (aq_ r_ u_ (as_ (al_ (B_ (R_ (M_ r_ (E_ r_ (T_ (R_ (M_ r_ (M_ r_ (M_ r_ ?_))))))))))))))))
      refine o_ r_ (cc_ r_ r_ g_ (T.row_eq _) r_ b_ (o_ r_ (cr_ r_ r_ r_ (o_ r_ (ow_callc [0] r_ r_ hcap r_ hC (T_ (ap_ r_ r_ (as_ (ay_ (al_ (an_ (o_ r_ (bj_ r_ r_ g_ (M_ r_ (ak_ (jq_againS (i := k) (k + 1) ⟨hltk, any_snoc hltk hno hb'⟩ g_ ?_ ?_))))))))))))))))
      · exact bc_ 0 r_ sub_end
      · (repeat (first | exact True.intro | refine ⟨rfl, ?_⟩))
  · have hltk2 : ¬ (k : Int) < (((l).map T.row).length : Int) := by omega
    rw [List.take_of_length_le (by omega)] at hno
    have hres := idx_none hno
    exact R_ (o_ r_ (bw_ r_ r_ (T_ (am_ (ap_ r_ w_ (av_ (ax_ (ax_ (ba_ (al_ (R_ (E_ r_ (T_ (ar_ (jq_ret1S rfl rfl (fun K h => by rw [hres] at h; exact h) (bc_ 0 r_ sub_end))))))))))))))))
theorem hasEx1_c (F : FuncId) [FI Tryz.prog F] (cap : List Value) (hcap : cap.all Value.oneCell' = true) (h1 : Ch) (p : T → Bool) (l : List (T)) (hp : ∀ x ∈ l, Con Tryz.prog F (.row x.row' :: capS cap) [h1] (fun K => K (Bl (p x)) [h1])) :
    Con Tryz.prog 150 [.cell (.list (l.map T.row)), FC F cap] [h1] (fun K => K (Bl (l.any p)) [h1]) := by
  have hI := idxEx1_c F cap hcap h1 p l hp
  rw [← idx_any]
  generalize idxOf p l = m at hI ⊢
  exact con_intro Tryz.func150 rfl rfl (Nat.le_of_ble_eq_true rfl) (fun c hc => R_ (E_ r_ (T_ (R_ (M_ r_ (M_ r_ (o_ r_ (bi_ [0] r_ r_ hI (o_ r_ (cn_ r_ r_ (E_ r_ (T_ (ar_ (jq_ret1S rfl rfl (fun K h => h) (bc_ 0 r_ sub_end)))))))))))))))
theorem idxTk0_c (F : FuncId) [FI Tryz.prog F] (cap : List Value) (hcap : cap.all Value.oneCell' = true) (p : Tk → Bool) (l : List (Tk)) (hp : ∀ x ∈ l, Con Tryz.prog F (.row x.row :: capS cap) [] (fun K => K (Bl (p x)) [])) :
    Con Tryz.prog 63 [.cell (.list (l.map Tk.row)), FC F cap] [] (fun K => K (In .i64 (idxOf p l)) []) := by
  refine con_intro Tryz.func63 rfl rfl (Nat.le_of_ble_eq_true rfl) (fun c hc => R_ (E_ r_ (T_ (am_ (R_ (M_ r_ (o_ r_ (br_ r_ (fun hlen => M_ r_ (T_ (au_ ?_)))))))))))
  refine jc_loopS (ι := Nat) [] (fun k => k ≤ (l).length ∧ (l.take k).any p = false) (fun k => (8, In .i64 (k : Int)) :: [(0, .cell (.list (l.map Tk.row))), (1, FC F cap), (7, In .i64 ((l.map Tk.row).length : Int))]) (fun k => []) (fun k => (l).length - k) 0 ⟨Nat.zero_le _, rfl⟩ ?_ ?_ ?_
  · exact sub_end
  · (repeat (first | exact True.intro | refine ⟨rfl, ?_⟩))
  rintro k ⟨hk, hno⟩
  have eLk : ((l).map Tk.row).length = (l).length := List.length_map _
  by_cases hltk : k < (l).length
  · have hltk2 : (k : Int) < (((l).map Tk.row).length : Int) := by omega
    have hC := hp l[k] (List.getElem_mem hltk)
    cases hb' : p l[k] with
    | true =>
      rw [hb'] at hC
      have hres := idx_some hltk hb' hno
      refine R_ (o_ r_ (bw_ r_ r_ (T_ (am_ (aq_ r_ u_ (as_ (al_ (B_ (R_ (M_ r_ (E_ r_ (T_ (R_ (M_ r_ (M_ r_ (M_ r_ ?_))))))))))))))))
      exact o_ r_ (cc_ r_ r_ g_ r_ r_ b_ (o_ r_ (cr_ r_ r_ r_ (o_ r_ (ow_callc [] r_ r_ hcap r_ hC (T_ (aq_ r_ r_ (R_ (M_ r_ (E_ r_ (T_ (ar_ (az_ (aw_ (aw_ (az_ (aw_ (jq_ret1S rfl rfl (fun K h => by rw [hres] at h; exact h) sub_end))))))))))))))))))
    | false =>
      rw [hb'] at hC
      refine R_ (o_ r_ (bw_ r_ r_ (T_ (am_ (aq_ r_ u_ (as_ (al_ (B_ (R_ (M_ r_ (E_ r_ (T_ (R_ (M_ r_ (M_ r_ (M_ r_ ?_))))))))))))))))
      refine o_ r_ (cc_ r_ r_ g_ r_ r_ b_ (o_ r_ (cr_ r_ r_ r_ (o_ r_ (ow_callc [] r_ r_ hcap r_ hC (T_ (ap_ r_ r_ (as_ (ay_ (al_ (an_ (o_ r_ (bj_ r_ r_ g_ (M_ r_ (ak_ (jq_againS (i := k) (k + 1) ⟨hltk, any_snoc hltk hno hb'⟩ g_ ?_ ?_))))))))))))))))
      · exact sub_end
      · (repeat (first | exact True.intro | refine ⟨rfl, ?_⟩))
  · have hltk2 : ¬ (k : Int) < (((l).map Tk.row).length : Int) := by omega
    rw [List.take_of_length_le (by omega)] at hno
    have hres := idx_none hno
    exact R_ (o_ r_ (bw_ r_ r_ (T_ (am_ (ap_ r_ w_ (av_ (ax_ (ax_ (ba_ (al_ (R_ (E_ r_ (T_ (ar_ (jq_ret1S rfl rfl (fun K h => by rw [hres] at h; exact h) sub_end)))))))))))))))
theorem hasTk0_c (F : FuncId) [FI Tryz.prog F] (cap : List Value) (hcap : cap.all Value.oneCell' = true) (p : Tk → Bool) (l : List (Tk)) (hp : ∀ x ∈ l, Con Tryz.prog F (.row x.row :: capS cap) [] (fun K => K (Bl (p x)) [])) :
    Con Tryz.prog 53 [.cell (.list (l.map Tk.row)), FC F cap] [] (fun K => K (Bl (l.any p)) []) := by
  have hI := idxTk0_c F cap hcap p l hp
  rw [← idx_any]
  generalize idxOf p l = m at hI ⊢
  exact con_intro Tryz.func53 rfl rfl (Nat.le_of_ble_eq_true rfl) (fun c hc => R_ (E_ r_ (T_ (R_ (M_ r_ (M_ r_ (o_ r_ (bi_ [] r_ r_ hI (o_ r_ (cn_ r_ r_ (E_ r_ (T_ (ar_ (jq_ret1S rfl rfl (fun K h => h) sub_end))))))))))))))
theorem idxTk1_c (F : FuncId) [FI Tryz.prog F] (cap : List Value) (hcap : cap.all Value.oneCell' = true) (h1 : Ch) (p : Tk → Bool) (l : List (Tk)) (hp : ∀ x ∈ l, Con Tryz.prog F (.row x.row :: capS cap) [h1] (fun K => K (Bl (p x)) [h1])) :
    Con Tryz.prog 63 [.cell (.list (l.map Tk.row)), FC F cap] [h1] (fun K => K (In .i64 (idxOf p l)) [h1]) := by
  refine con_intro Tryz.func63 rfl rfl (Nat.le_of_ble_eq_true rfl) (fun c hc => R_ (E_ r_ (T_ (am_ (R_ (M_ r_ (o_ r_ (br_ r_ (fun hlen => M_ r_ (T_ (au_ ?_)))))))))))
  refine jc_loopS (ι := Nat) [] (fun k => k ≤ (l).length ∧ (l.take k).any p = false) (fun k => (8, In .i64 (k : Int)) :: [(0, .cell (.list (l.map Tk.row))), (1, FC F cap), (7, In .i64 ((l.map Tk.row).length : Int))]) (fun k => [h1]) (fun k => (l).length - k) 0 ⟨Nat.zero_le _, rfl⟩ ?_ ?_ ?_
  · exact bc_ 0 r_ sub_end
  · (repeat (first | exact True.intro | refine ⟨rfl, ?_⟩))
  rintro k ⟨hk, hno⟩
  have eLk : ((l).map Tk.row).length = (l).length := List.length_map _
  by_cases hltk : k < (l).length
  · have hltk2 : (k : Int) < (((l).map Tk.row).length : Int) := by omega
    have hC := hp l[k] (List.getElem_mem hltk)
    cases hb' : p l[k] with
    | true =>
      rw [hb'] at hC
      have hres := idx_some hltk hb' hno
      refine R_ (o_ r_ (bw_ r_ r_ (T_ (am_ (aq_ r_ u_ (as_ (al_ (B_ (R_ (M_ r_ (E_ r_ (T_ (R_ (M_ r_ (M_ r_ (M_ r_ ?_))))))))))))))))
      refine o_ r_ (cc_ r_ r_ g_ r_ r_ b_ (o_ r_ (cr_ r_ r_ r_ (o_ r_ (ow_callc [0] r_ r_ hcap r_ hC (T_ (aq_ r_ r_ (R_ (M_ r_ (E_ r_ (T_ (ar_ (az_ (aw_ (aw_ (az_ (aw_ (jq_ret1S rfl rfl (fun K h => by rw [hres] at h; exact h) ?_))))))))))))))))))
      exact bc_ 0 r_ sub_end
    | false =>
      rw [hb'] at hC
      refine R_ (o_ r_ (bw_ r_ r_ (T_ (am_ (aq_ r_ u_ (as_ (al_ (B_ (R_ (M_ r_ (E_ r_ (T_ (R_ (M_ r_ (M_ r_ (M_ r_ ?_))))))))))))))))
      refine o_ r_ (cc_ r_ r_ g_ r_ r_ b_ (o_ r_ (cr_ r_ r_ r_ (o_ r_ (ow_callc [0] r_ r_ hcap r_ hC (T_ (ap_ r_ r_ (as_ (ay_ (al_ (an_ (o_ r_ (bj_ r_ r_ g_ (M_ r_ (ak_ (jq_againS (i := k) (k + 1) ⟨hltk, any_snoc hltk hno hb'⟩ g_ ?_ ?_))))))))))))))))
      · exact bc_ 0 r_ sub_end
      · (repeat (first | exact True.intro | refine ⟨rfl, ?_⟩))
  · have hltk2 : ¬ (k : Int) < (((l).map Tk.row).length : Int) := by omega
    rw [List.take_of_length_le (by omega)] at hno
    have hres := idx_none hno
    exact R_ (o_ r_ (bw_ r_ r_ (T_ (am_ (ap_ r_ w_ (av_ (ax_ (ax_ (ba_ (al_ (R_ (E_ r_ (T_ (ar_ (jq_ret1S rfl rfl (fun K h => by rw [hres] at h; exact h) (bc_ 0 r_ sub_end))))))))))))))))
theorem hasTk1_c (F : FuncId) [FI Tryz.prog F] (cap : List Value) (hcap : cap.all Value.oneCell' = true) (h1 : Ch) (p : Tk → Bool) (l : List (Tk)) (hp : ∀ x ∈ l, Con Tryz.prog F (.row x.row :: capS cap) [h1] (fun K => K (Bl (p x)) [h1])) :
    Con Tryz.prog 53 [.cell (.list (l.map Tk.row)), FC F cap] [h1] (fun K => K (Bl (l.any p)) [h1]) := by
  have hI := idxTk1_c F cap hcap h1 p l hp
  rw [← idx_any]
  generalize idxOf p l = m at hI ⊢
  exact con_intro Tryz.func53 rfl rfl (Nat.le_of_ble_eq_true rfl) (fun c hc => R_ (E_ r_ (T_ (R_ (M_ r_ (M_ r_ (o_ r_ (bi_ [0] r_ r_ hI (o_ r_ (cn_ r_ r_ (E_ r_ (T_ (ar_ (jq_ret1S rfl rfl (fun K h => h) (bc_ 0 r_ sub_end)))))))))))))))
theorem idxCl1_c (F : FuncId) [FI Tryz.prog F] (cap : List Value) (hcap : cap.all Value.oneCell' = true) (h1 : Ch) (p : Clm → Bool) (l : List (Clm)) (hp : ∀ x ∈ l, Con Tryz.prog F (.row (ClRow x) :: capS cap) [h1] (fun K => K (Bl (p x)) [h1])) :
    Con Tryz.prog 155 [.cell (.list (l.map ClRow)), FC F cap] [h1] (fun K => K (In .i64 (idxOf p l)) [h1]) := by
  refine con_intro Tryz.func155 rfl rfl (Nat.le_of_ble_eq_true rfl) (fun c hc => R_ (E_ r_ (T_ (am_ (R_ (M_ r_ (o_ r_ (br_ r_ (fun hlen => M_ r_ (T_ (au_ ?_)))))))))))
  refine jc_loopS (ι := Nat) [] (fun k => k ≤ (l).length ∧ (l.take k).any p = false) (fun k => (8, In .i64 (k : Int)) :: [(0, .cell (.list (l.map ClRow))), (1, FC F cap), (7, In .i64 ((l.map ClRow).length : Int))]) (fun k => [h1]) (fun k => (l).length - k) 0 ⟨Nat.zero_le _, rfl⟩ ?_ ?_ ?_
  · exact bc_ 0 r_ sub_end
  · (repeat (first | exact True.intro | refine ⟨rfl, ?_⟩))
  rintro k ⟨hk, hno⟩
  have eLk : ((l).map ClRow).length = (l).length := List.length_map _
  by_cases hltk : k < (l).length
  · have hltk2 : (k : Int) < (((l).map ClRow).length : Int) := by omega
    have hC := hp l[k] (List.getElem_mem hltk)
    cases hb' : p l[k] with
    | true =>
      rw [hb'] at hC
      have hres := idx_some hltk hb' hno
      refine R_ (o_ r_ (bw_ r_ r_ (T_ (am_ (aq_ r_ u_ (as_ (al_ (B_ (R_ (M_ r_ (E_ r_ (T_ (R_ (M_ r_ (M_ r_ (M_ r_ ?_))))))))))))))))
      refine o_ r_ (cc_ r_ r_ g_ r_ r_ b_ (o_ r_ (cr_ r_ r_ r_ (o_ r_ (ow_callc [0] r_ r_ hcap r_ hC (T_ (aq_ r_ r_ (R_ (M_ r_ (E_ r_ (T_ (ar_ (az_ (aw_ (aw_ (az_ (aw_ (jq_ret1S rfl rfl (fun K h => by rw [hres] at h; exact h) ?_))))))))))))))))))
      exact bc_ 0 r_ sub_end
    | false =>
      rw [hb'] at hC
      refine R_ (o_ r_ (bw_ r_ r_ (T_ (am_ (aq_ r_ u_ (as_ (al_ (B_ (R_ (M_ r_ (E_ r_ (T_ (R_ (M_ r_ (M_ r_ (M_ r_ ?_))))))))))))))))
      refine o_ r_ (cc_ r_ r_ g_ r_ r_ b_ (o_ r_ (cr_ r_ r_ r_ (o_ r_ (ow_callc [0] r_ r_ hcap r_ hC (T_ (ap_ r_ r_ (as_ (ay_ (al_ (an_ (o_ r_ (bj_ r_ r_ g_ (M_ r_ (ak_ (jq_againS (i := k) (k + 1) ⟨hltk, any_snoc hltk hno hb'⟩ g_ ?_ ?_))))))))))))))))
      · exact bc_ 0 r_ sub_end
      · (repeat (first | exact True.intro | refine ⟨rfl, ?_⟩))
  · have hltk2 : ¬ (k : Int) < (((l).map ClRow).length : Int) := by omega
    rw [List.take_of_length_le (by omega)] at hno
    have hres := idx_none hno
    exact R_ (o_ r_ (bw_ r_ r_ (T_ (am_ (ap_ r_ w_ (av_ (ax_ (ax_ (ba_ (al_ (R_ (E_ r_ (T_ (ar_ (jq_ret1S rfl rfl (fun K h => by rw [hres] at h; exact h) (bc_ 0 r_ sub_end))))))))))))))))
theorem hasCl1_c (F : FuncId) [FI Tryz.prog F] (cap : List Value) (hcap : cap.all Value.oneCell' = true) (h1 : Ch) (p : Clm → Bool) (l : List (Clm)) (hp : ∀ x ∈ l, Con Tryz.prog F (.row (ClRow x) :: capS cap) [h1] (fun K => K (Bl (p x)) [h1])) :
    Con Tryz.prog 106 [.cell (.list (l.map ClRow)), FC F cap] [h1] (fun K => K (Bl (l.any p)) [h1]) := by
  have hI := idxCl1_c F cap hcap h1 p l hp
  rw [← idx_any]
  generalize idxOf p l = m at hI ⊢
  exact con_intro Tryz.func106 rfl rfl (Nat.le_of_ble_eq_true rfl) (fun c hc => R_ (E_ r_ (T_ (R_ (M_ r_ (M_ r_ (o_ r_ (bi_ [0] r_ r_ hI (o_ r_ (cn_ r_ r_ (E_ r_ (T_ (ar_ (jq_ret1S rfl rfl (fun K h => h) (bc_ 0 r_ sub_end)))))))))))))))
theorem each0_c (F : FuncId) [FI Tryz.prog F] (cap : List Value) (hcap : cap.all Value.oneCell' = true) (q : Sm → Bool) (A : List Sm → Bool) (hA : ∀ l, A l = l.all (fun s => q s && A s.thn && A s.els)) (hF : ∀ s, s.index.length ≤ 1000 → s.value.length ≤ 1000 → Con Tryz.prog F (.row s.row' :: capS cap) [] (fun K => K (Bl (q s)) [])) :
    ∀ l : List Sm, Sm.lnss l → Con Tryz.prog 99 [.cell (.list (l.map Sm.row)), FC F cap] [] (fun K => K (Bl (A l)) []) := by
  refine Sms.ind (fun l ih hl => ?_)
  have e0 := hA l
  refine con_intro Tryz.func99 rfl rfl (Nat.le_of_ble_eq_true rfl) (fun c hc => R_ (E_ r_ (T_ (am_ (R_ (M_ r_ (o_ r_ (br_ r_ (fun hlen => M_ r_ (T_ (au_ ?_)))))))))))
  refine jc_loopS (ι := Nat) [] (fun k => k ≤ (l).length ∧ (l.take k).all (fun s => q s && A s.thn && A s.els) = true) (fun k => (9, In .i64 (k : Int)) :: [(1, FC F cap), (7, .cell (.list (l.map Sm.row))), (8, In .i64 ((l.map Sm.row).length : Int))]) (fun k => []) (fun k => (l).length - k) 0 ⟨Nat.zero_le _, rfl⟩ ?_ ?_ ?_
  · exact sub_end
  · (repeat (first | exact True.intro | refine ⟨rfl, ?_⟩))
  rintro k ⟨hk, hI⟩
  have eLk : ((l).map Sm.row).length = (l).length := List.length_map _
  by_cases hltk : k < (l).length
  · have hltk2 : (k : Int) < (((l).map Sm.row).length : Int) := by omega
    obtain ⟨i1, i2⟩ := ih l[k] (List.getElem_mem hltk)
    obtain ⟨z1, z2, z3, z4⟩ := Sm.lnss_mem hl l[k] (List.getElem_mem hltk)
    have c0 := hF l[k] z1 z2
    have c1 := i1 z3
    have c2 := i2 z4
    cases b0 : q l[k] with
    | false =>
      have hres : A l = false := by rw [e0]; exact all_no hltk (by rw [b0]; rfl)
      rw [b0] at c0
      refine R_ (o_ r_ (bw_ r_ r_ (T_ (am_ (aq_ r_ u_ (as_ (al_ (B_ (R_ (o_ r_ (cc_ r_ r_ g_ (Sm.row_eq _) r_ b_ (o_ r_ (cr_ r_ r_ r_ (o_ r_ (bl_ r_ r_ (fun bl => S_ 0 r_ (T_ (R_ (M_ r_ ?_)))))))))))))))))))
      refine A_ 0 r_ (o_ r_ (ow_callc [] r_ r_ hcap r_ c0 (o_ r_ (cd_ r_ (M_ r_ (ai_ r_ r_ b_ (ai_ r_ r_ b_ (ai_ r_ r_ b_ (ai_ r_ r_ b_ (ai_ r_ r_ b_ (o_ r_ (bp_ r_ r_ r_ (M_ r_ (ai_ r_ r_ b_ (ai_ r_ r_ b_ (ai_ r_ r_ b_ (ai_ r_ r_ b_ (ai_ r_ r_ b_ ?_))))))))))))))))))
      exact o_ r_ (bp_ r_ r_ r_ (T_ (aq_ r_ r_ (R_ (E_ r_ (T_ (ar_ (az_ (aw_ (aw_ (az_ (aw_ (jq_ret1S rfl rfl (fun K h => by rw [hres] at h; exact h) sub_end)))))))))))))
    | true =>
      rw [b0] at c0
      cases b1 : A l[k].thn with
      | false =>
        have hres : A l = false := by rw [e0]; exact all_no hltk (by rw [b0, b1]; rfl)
        rw [b1] at c1
        refine R_ (o_ r_ (bw_ r_ r_ (T_ (am_ (aq_ r_ u_ (as_ (al_ (B_ (R_ (o_ r_ (cc_ r_ r_ g_ (Sm.row_eq _) r_ b_ (o_ r_ (cr_ r_ r_ r_ (o_ r_ (bl_ r_ r_ (fun bl => S_ 0 r_ (T_ (R_ (M_ r_ ?_)))))))))))))))))))
        refine A_ 0 r_ (o_ r_ (ow_callc [] r_ r_ hcap r_ c0 (o_ r_ (cd_ r_ (M_ r_ (ah_ r_ r_ b_ (bf_ r_ r_ r_ b_ (ah_ r_ r_ b_ (bg_ 0 r_ r_ r_ r_ (ah_ r_ r_ b_ (bd_ r_ (ah_ r_ r_ b_ (bi_ [] r_ r_ c1 (ah_ r_ r_ b_ (cd_ r_ (o_ r_ (bv_ r_ r_ r_ (M_ r_ (ai_ r_ r_ b_ (ai_ r_ r_ b_ (ai_ r_ r_ b_ (ai_ r_ r_ b_ (ai_ r_ r_ b_ ?_)))))))))))))))))))))))
        exact o_ r_ (bp_ r_ r_ r_ (T_ (aq_ r_ r_ (R_ (E_ r_ (T_ (ar_ (az_ (aw_ (aw_ (az_ (aw_ (jq_ret1S rfl rfl (fun K h => by rw [hres] at h; exact h) sub_end)))))))))))))
      | true =>
        rw [b1] at c1
        cases b2 : A l[k].els with
        | false =>
          have hres : A l = false := by rw [e0]; exact all_no hltk (by rw [b0, b1, b2]; rfl)
          rw [b2] at c2
          refine R_ (o_ r_ (bw_ r_ r_ (T_ (am_ (aq_ r_ u_ (as_ (al_ (B_ (R_ (o_ r_ (cc_ r_ r_ g_ (Sm.row_eq _) r_ b_ (o_ r_ (cr_ r_ r_ r_ (o_ r_ (bl_ r_ r_ (fun bl => S_ 0 r_ (T_ (R_ (M_ r_ ?_)))))))))))))))))))
          refine A_ 0 r_ (o_ r_ (ow_callc [] r_ r_ hcap r_ c0 (o_ r_ (cd_ r_ (M_ r_ (ah_ r_ r_ b_ (bf_ r_ r_ r_ b_ (ah_ r_ r_ b_ (bg_ 0 r_ r_ r_ r_ (ah_ r_ r_ b_ (bd_ r_ (ah_ r_ r_ b_ (bi_ [] r_ r_ c1 (ah_ r_ r_ b_ (cd_ r_ (o_ r_ (bv_ r_ r_ r_ (M_ r_ (ah_ r_ r_ b_ (bf_ r_ r_ r_ b_ (ah_ r_ r_ b_ (bg_ 0 r_ r_ r_ r_ (ah_ r_ r_ b_ (bd_ r_ (ah_ r_ r_ b_ (bi_ [] r_ r_ c2 (ah_ r_ r_ b_ (cd_ r_ ?_))))))))))))))))))))))))))))
          exact o_ r_ (bv_ r_ r_ r_ (T_ (aq_ r_ r_ (R_ (E_ r_ (T_ (ar_ (az_ (aw_ (aw_ (az_ (aw_ (jq_ret1S rfl rfl (fun K h => by rw [hres] at h; exact h) sub_end)))))))))))))
        | true =>
          rw [b2] at c2
          refine R_ (o_ r_ (bw_ r_ r_ (T_ (am_ (aq_ r_ u_ (as_ (al_ (B_ (R_ (o_ r_ (cc_ r_ r_ g_ (Sm.row_eq _) r_ b_ (o_ r_ (cr_ r_ r_ r_ (o_ r_ (bl_ r_ r_ (fun bl => S_ 0 r_ (T_ (R_ (M_ r_ ?_)))))))))))))))))))
          refine A_ 0 r_ (o_ r_ (ow_callc [] r_ r_ hcap r_ c0 (o_ r_ (cd_ r_ (M_ r_ (ah_ r_ r_ b_ (bf_ r_ r_ r_ b_ (ah_ r_ r_ b_ (bg_ 0 r_ r_ r_ r_ (ah_ r_ r_ b_ (bd_ r_ (ah_ r_ r_ b_ (bi_ [] r_ r_ c1 (ah_ r_ r_ b_ (cd_ r_ (o_ r_ (bv_ r_ r_ r_ (M_ r_ (ah_ r_ r_ b_ (bf_ r_ r_ r_ b_ (ah_ r_ r_ b_ (bg_ 0 r_ r_ r_ r_ (ah_ r_ r_ b_ (bd_ r_ (ah_ r_ r_ b_ (bi_ [] r_ r_ c2 (ah_ r_ r_ b_ (cd_ r_ ?_))))))))))))))))))))))))))))
          refine o_ r_ (bv_ r_ r_ r_ (T_ (ap_ r_ r_ (as_ (ay_ (al_ (an_ (o_ r_ (bj_ r_ r_ g_ (M_ r_ (ak_ (jq_againS (i := k) (k + 1) ⟨hltk, all_snoc hltk hI (by rw [b0, b1, b2]; rfl)⟩ g_ ?_ ?_))))))))))))
          · exact sub_end
          · (repeat (first | exact True.intro | refine ⟨rfl, ?_⟩))
  · have hltk2 : ¬ (k : Int) < (((l).map Sm.row).length : Int) := by omega
    rw [List.take_of_length_le (by omega)] at hI
    have hres : A l = true := by rw [e0]; exact hI
    exact R_ (o_ r_ (bw_ r_ r_ (T_ (am_ (ap_ r_ w_ (av_ (ax_ (ax_ (ba_ (al_ (R_ (E_ r_ (T_ (ar_ (jq_ret1S rfl rfl (fun K h => by rw [hres] at h; exact h) sub_end)))))))))))))))
theorem each2_c (F : FuncId) [FI Tryz.prog F] (cap : List Value) (hcap : cap.all Value.oneCell' = true) (h1 : Ch) (h2 : Ch) (q : Sm → Bool) (A : List Sm → Bool) (hA : ∀ l, A l = l.all (fun s => q s && A s.thn && A s.els)) (hF : ∀ s, s.index.length ≤ 1000 → s.value.length ≤ 1000 → Con Tryz.prog F (.row s.row' :: capS cap) [h1, h2] (fun K => K (Bl (q s)) [h1, h2])) :
    ∀ l : List Sm, Sm.lnss l → Con Tryz.prog 99 [.cell (.list (l.map Sm.row)), FC F cap] [h1, h2] (fun K => K (Bl (A l)) [h1, h2]) := by
  refine Sms.ind (fun l ih hl => ?_)
  have e0 := hA l
  refine con_intro Tryz.func99 rfl rfl (Nat.le_of_ble_eq_true rfl) (fun c hc => R_ (E_ r_ (T_ (am_ (R_ (M_ r_ (o_ r_ (br_ r_ (fun hlen => M_ r_ (T_ (au_ ?_)))))))))))
  refine jc_loopS (ι := Nat) [] (fun k => k ≤ (l).length ∧ (l.take k).all (fun s => q s && A s.thn && A s.els) = true) (fun k => (9, In .i64 (k : Int)) :: [(1, FC F cap), (7, .cell (.list (l.map Sm.row))), (8, In .i64 ((l.map Sm.row).length : Int))]) (fun k => [h1, h2]) (fun k => (l).length - k) 0 ⟨Nat.zero_le _, rfl⟩ ?_ ?_ ?_
  · exact bc_ 0 r_ (bc_ 0 r_ sub_end)
  · (repeat (first | exact True.intro | refine ⟨rfl, ?_⟩))
  rintro k ⟨hk, hI⟩
  have eLk : ((l).map Sm.row).length = (l).length := List.length_map _
  by_cases hltk : k < (l).length
  · have hltk2 : (k : Int) < (((l).map Sm.row).length : Int) := by omega
    obtain ⟨i1, i2⟩ := ih l[k] (List.getElem_mem hltk)
    obtain ⟨z1, z2, z3, z4⟩ := Sm.lnss_mem hl l[k] (List.getElem_mem hltk)
    have c0 := hF l[k] z1 z2
    have c1 := i1 z3
    have c2 := i2 z4
    cases b0 : q l[k] with
    | false =>
      have hres : A l = false := by rw [e0]; exact all_no hltk (by rw [b0]; rfl)
      rw [b0] at c0
      refine R_ (o_ r_ (bw_ r_ r_ (T_ (am_ (aq_ r_ u_ (as_ (al_ (B_ (R_ (o_ r_ (cc_ r_ r_ g_ (Sm.row_eq _) r_ b_ (o_ r_ (cr_ r_ r_ r_ (o_ r_ (bl_ r_ r_ (fun bl => S_ 0 r_ (T_ (R_ (M_ r_ ?_)))))))))))))))))))
      refine A_ 0 r_ (o_ r_ (ow_callc [1, 1] r_ r_ hcap r_ c0 (o_ r_ (cd_ r_ (M_ r_ (ai_ r_ r_ b_ (ai_ r_ r_ b_ (ai_ r_ r_ b_ (ai_ r_ r_ b_ (ai_ r_ r_ b_ (o_ r_ (bp_ r_ r_ r_ (M_ r_ (ai_ r_ r_ b_ (ai_ r_ r_ b_ (ai_ r_ r_ b_ (ai_ r_ r_ b_ (ai_ r_ r_ b_ ?_))))))))))))))))))
      exact o_ r_ (bp_ r_ r_ r_ (T_ (aq_ r_ r_ (R_ (E_ r_ (T_ (ar_ (az_ (aw_ (aw_ (az_ (aw_ (jq_ret1S rfl rfl (fun K h => by rw [hres] at h; exact h) (bc_ 0 r_ (bc_ 0 r_ sub_end)))))))))))))))
    | true =>
      rw [b0] at c0
      cases b1 : A l[k].thn with
      | false =>
        have hres : A l = false := by rw [e0]; exact all_no hltk (by rw [b0, b1]; rfl)
        rw [b1] at c1
        refine R_ (o_ r_ (bw_ r_ r_ (T_ (am_ (aq_ r_ u_ (as_ (al_ (B_ (R_ (o_ r_ (cc_ r_ r_ g_ (Sm.row_eq _) r_ b_ (o_ r_ (cr_ r_ r_ r_ (o_ r_ (bl_ r_ r_ (fun bl => S_ 0 r_ (T_ (R_ (M_ r_ ?_)))))))))))))))))))
        refine A_ 0 r_ (o_ r_ (ow_callc [1, 1] r_ r_ hcap r_ c0 (o_ r_ (cd_ r_ (M_ r_ (ah_ r_ r_ b_ (bf_ r_ r_ r_ b_ (ah_ r_ r_ b_ (bg_ 2 r_ r_ r_ r_ (ah_ r_ r_ b_ (bd_ r_ (ah_ r_ r_ b_ (bi_ [0, 0] r_ r_ c1 (ah_ r_ r_ b_ (cd_ r_ (o_ r_ (bv_ r_ r_ r_ (M_ r_ (ai_ r_ r_ b_ (ai_ r_ r_ b_ (ai_ r_ r_ b_ (ai_ r_ r_ b_ (ai_ r_ r_ b_ ?_)))))))))))))))))))))))
        exact o_ r_ (bp_ r_ r_ r_ (T_ (aq_ r_ r_ (R_ (E_ r_ (T_ (ar_ (az_ (aw_ (aw_ (az_ (aw_ (jq_ret1S rfl rfl (fun K h => by rw [hres] at h; exact h) (bc_ 0 r_ (bc_ 0 r_ sub_end)))))))))))))))
      | true =>
        rw [b1] at c1
        cases b2 : A l[k].els with
        | false =>
          have hres : A l = false := by rw [e0]; exact all_no hltk (by rw [b0, b1, b2]; rfl)
          rw [b2] at c2
          refine R_ (o_ r_ (bw_ r_ r_ (T_ (am_ (aq_ r_ u_ (as_ (al_ (B_ (R_ (o_ r_ (cc_ r_ r_ g_ (Sm.row_eq _) r_ b_ (o_ r_ (cr_ r_ r_ r_ (o_ r_ (bl_ r_ r_ (fun bl => S_ 0 r_ (T_ (R_ (M_ r_ ?_)))))))))))))))))))
          refine A_ 0 r_ (o_ r_ (ow_callc [1, 1] r_ r_ hcap r_ c0 (o_ r_ (cd_ r_ (M_ r_ (ah_ r_ r_ b_ (bf_ r_ r_ r_ b_ (ah_ r_ r_ b_ (bg_ 2 r_ r_ r_ r_ (ah_ r_ r_ b_ (bd_ r_ (ah_ r_ r_ b_ (bi_ [0, 0] r_ r_ c1 (ah_ r_ r_ b_ (cd_ r_ (o_ r_ (bv_ r_ r_ r_ (M_ r_ (ah_ r_ r_ b_ (bf_ r_ r_ r_ b_ (ah_ r_ r_ b_ (bg_ 2 r_ r_ r_ r_ (ah_ r_ r_ b_ (bd_ r_ (ah_ r_ r_ b_ (bi_ [0, 0] r_ r_ c2 (ah_ r_ r_ b_ (cd_ r_ ?_))))))))))))))))))))))))))))
          exact o_ r_ (bv_ r_ r_ r_ (T_ (aq_ r_ r_ (R_ (E_ r_ (T_ (ar_ (az_ (aw_ (aw_ (az_ (aw_ (jq_ret1S rfl rfl (fun K h => by rw [hres] at h; exact h) (bc_ 0 r_ (bc_ 0 r_ sub_end)))))))))))))))
        | true =>
          rw [b2] at c2
          refine R_ (o_ r_ (bw_ r_ r_ (T_ (am_ (aq_ r_ u_ (as_ (al_ (B_ (R_ (o_ r_ (cc_ r_ r_ g_ (Sm.row_eq _) r_ b_ (o_ r_ (cr_ r_ r_ r_ (o_ r_ (bl_ r_ r_ (fun bl => S_ 0 r_ (T_ (R_ (M_ r_ ?_)))))))))))))))))))
          refine A_ 0 r_ (o_ r_ (ow_callc [1, 1] r_ r_ hcap r_ c0 (o_ r_ (cd_ r_ (M_ r_ (ah_ r_ r_ b_ (bf_ r_ r_ r_ b_ (ah_ r_ r_ b_ (bg_ 2 r_ r_ r_ r_ (ah_ r_ r_ b_ (bd_ r_ (ah_ r_ r_ b_ (bi_ [0, 0] r_ r_ c1 (ah_ r_ r_ b_ (cd_ r_ (o_ r_ (bv_ r_ r_ r_ (M_ r_ (ah_ r_ r_ b_ (bf_ r_ r_ r_ b_ (ah_ r_ r_ b_ (bg_ 2 r_ r_ r_ r_ (ah_ r_ r_ b_ (bd_ r_ (ah_ r_ r_ b_ (bi_ [0, 0] r_ r_ c2 (ah_ r_ r_ b_ (cd_ r_ ?_))))))))))))))))))))))))))))
          refine o_ r_ (bv_ r_ r_ r_ (T_ (ap_ r_ r_ (as_ (ay_ (al_ (an_ (o_ r_ (bj_ r_ r_ g_ (M_ r_ (ak_ (jq_againS (i := k) (k + 1) ⟨hltk, all_snoc hltk hI (by rw [b0, b1, b2]; rfl)⟩ g_ ?_ ?_))))))))))))
          · exact bc_ 0 r_ (bc_ 0 r_ sub_end)
          · (repeat (first | exact True.intro | refine ⟨rfl, ?_⟩))
  · have hltk2 : ¬ (k : Int) < (((l).map Sm.row).length : Int) := by omega
    rw [List.take_of_length_le (by omega)] at hI
    have hres : A l = true := by rw [e0]; exact hI
    refine R_ (o_ r_ (bw_ r_ r_ (T_ (am_ (ap_ r_ w_ (av_ (ax_ (ax_ (ba_ (al_ (R_ (E_ r_ (T_ (ar_ (jq_ret1S rfl rfl (fun K h => by rw [hres] at h; exact h) (bc_ 0 r_ ?_))))))))))))))))
    exact bc_ 0 r_ sub_end
theorem parts0_c (F : FuncId) [FI Tryz.prog F] (cap : List Value) (hcap : cap.all Value.oneCell' = true) (bo : Nat) (tb : TypeId) (q A : T → Bool) (hA : ∀ t, A t = (q t && t.args.all A)) (hF : ∀ (x : T) (v : Bool), Con Tryz.prog F (.row x.row' :: capS cap) [.blk bo tb [.val (.bool (v))]] (fun K => K (.tup []) [.blk bo tb [.val (.bool (v && q x))]])) :
    ∀ (t : T) (v : Bool), Con Tryz.prog 153 [.row t.row', FC F cap] [.blk bo tb [.val (.bool (v))]] (fun K => K (.tup []) [.blk bo tb [.val (.bool (v && A t))]]) := by
  refine T.ind (fun t ih v => ?_)
  have e0 := hA t
  have c0 := hF t v
  refine con_intro Tryz.func153 rfl rfl (Nat.le_of_ble_eq_true rfl) (fun c hc => R_ (o_ r_ (ci_ r_ (fun bx => T_ (R_ (M_ r_ (A_ 0 r_ (o_ r_ (ow_callc [1] r_ r_ hcap r_ c0 (T_ (R_ (F_ r_ (L_ 1 r_ (o_ r_ (br_ r_ (fun hlen => M_ r_ (T_ (au_ ?_))))))))))))))))))
  refine jc_loopS (ι := Nat) [] (fun k => k ≤ (t.args).length) (fun k => (12, In .i64 (k : Int)) :: [(1, FC F cap), (10, .cell (.list (t.args.map T.row))), (11, In .i64 ((t.args.map T.row).length : Int))]) (fun k => [.blk bo tb [.val (.bool (v && q t && (t.args.take k).all A))]]) (fun k => (t.args).length - k) 0 (Nat.zero_le _) ?_ ?_ ?_
  · rw [show (v && q t && (t.args.take 0).all A) = (v && q t) by simp]
    exact bc_ 0 r_ sub_end
  · (repeat (first | exact True.intro | refine ⟨rfl, ?_⟩))
  rintro k hk
  have eLk : ((t.args).map T.row).length = (t.args).length := List.length_map _
  by_cases hltk : k < (t.args).length
  · have hltk2 : (k : Int) < (((t.args).map T.row).length : Int) := by omega
    have c1 := ih t.args[k] (List.getElem_mem hltk) (v && q t && (t.args.take k).all A)
    refine R_ (o_ r_ (bw_ r_ r_ (T_ (am_ (aq_ r_ u_ (as_ (al_ (B_ (R_ (o_ r_ (cc_ r_ r_ g_ (T.row_eq _) r_ b_ (o_ r_ (cr_ r_ r_ r_ (o_ r_ (bl_ r_ r_ (fun bl => S_ 0 r_ (T_ (an_ (A_ 0 r_ ?_)))))))))))))))))))
    refine M_ r_ (o_ r_ (bi_ [1] r_ r_ c1 (ak_ (ay_ (al_ (an_ (o_ r_ (bj_ r_ r_ g_ (M_ r_ (ak_ (jq_againS (i := k) (k + 1) hltk g_ ?_ ?_)))))))))))
    · rw [show (v && q t && (t.args.take (k + 1)).all A) = (v && q t && (t.args.take k).all A && A t.args[k]) by rw [List.take_succ_eq_append_getElem hltk, List.all_append, List.all_cons, List.all_nil, Bool.and_true, Bool.and_assoc, Bool.and_assoc, Bool.and_assoc]]
      exact bc_ 0 r_ sub_end
    · (repeat (first | exact True.intro | refine ⟨rfl, ?_⟩))
  · have hltk2 : ¬ (k : Int) < (((t.args).map T.row).length : Int) := by omega
    rw [List.take_of_length_le (by omega)]
    have hres : (v && A t) = (v && q t && t.args.all A) := by rw [e0, Bool.and_assoc]
    exact R_ (o_ r_ (bw_ r_ r_ (T_ (am_ (ap_ r_ w_ (av_ (ax_ (ax_ (ba_ (jq_ret0S (.inr rfl) rfl (fun K h => by rw [hres] at h; exact h) (bc_ 0 r_ sub_end)))))))))))
theorem parts1_c (F : FuncId) [FI Tryz.prog F] (cap : List Value) (hcap : cap.all Value.oneCell' = true) (bo : Nat) (tb : TypeId) (h1 : Ch) (q A : T → Bool) (hA : ∀ t, A t = (q t && t.args.all A)) (hF : ∀ (x : T) (v : Bool), Con Tryz.prog F (.row x.row' :: capS cap) [.blk bo tb [.val (.bool (v))], h1] (fun K => K (.tup []) [.blk bo tb [.val (.bool (v && q x))], h1])) :
    ∀ (t : T) (v : Bool), Con Tryz.prog 153 [.row t.row', FC F cap] [.blk bo tb [.val (.bool (v))], h1] (fun K => K (.tup []) [.blk bo tb [.val (.bool (v && A t))], h1]) := by
  refine T.ind (fun t ih v => ?_)
  have e0 := hA t
  have c0 := hF t v
  refine con_intro Tryz.func153 rfl rfl (Nat.le_of_ble_eq_true rfl) (fun c hc => R_ (o_ r_ (ci_ r_ (fun bx => T_ (R_ (M_ r_ (A_ 0 r_ (o_ r_ (ow_callc [1, 1] r_ r_ hcap r_ c0 (T_ (R_ (F_ r_ (L_ 2 r_ (o_ r_ (br_ r_ (fun hlen => M_ r_ (T_ (au_ ?_))))))))))))))))))
  refine jc_loopS (ι := Nat) [] (fun k => k ≤ (t.args).length) (fun k => (12, In .i64 (k : Int)) :: [(1, FC F cap), (10, .cell (.list (t.args.map T.row))), (11, In .i64 ((t.args.map T.row).length : Int))]) (fun k => [.blk bo tb [.val (.bool (v && q t && (t.args.take k).all A))], h1]) (fun k => (t.args).length - k) 0 (Nat.zero_le _) ?_ ?_ ?_
  · rw [show (v && q t && (t.args.take 0).all A) = (v && q t) by simp]
    exact bc_ 0 r_ (bc_ 0 r_ sub_end)
  · (repeat (first | exact True.intro | refine ⟨rfl, ?_⟩))
  rintro k hk
  have eLk : ((t.args).map T.row).length = (t.args).length := List.length_map _
  by_cases hltk : k < (t.args).length
  · have hltk2 : (k : Int) < (((t.args).map T.row).length : Int) := by omega
    have c1 := ih t.args[k] (List.getElem_mem hltk) (v && q t && (t.args.take k).all A)
    refine R_ (o_ r_ (bw_ r_ r_ (T_ (am_ (aq_ r_ u_ (as_ (al_ (B_ (R_ (o_ r_ (cc_ r_ r_ g_ (T.row_eq _) r_ b_ (o_ r_ (cr_ r_ r_ r_ (o_ r_ (bl_ r_ r_ (fun bl => S_ 0 r_ (T_ (an_ (A_ 0 r_ ?_)))))))))))))))))))
    refine M_ r_ (o_ r_ (bi_ [1, 1] r_ r_ c1 (ak_ (ay_ (al_ (an_ (o_ r_ (bj_ r_ r_ g_ (M_ r_ (ak_ (jq_againS (i := k) (k + 1) hltk g_ ?_ ?_)))))))))))
    · rw [show (v && q t && (t.args.take (k + 1)).all A) = (v && q t && (t.args.take k).all A && A t.args[k]) by rw [List.take_succ_eq_append_getElem hltk, List.all_append, List.all_cons, List.all_nil, Bool.and_true, Bool.and_assoc, Bool.and_assoc, Bool.and_assoc]]
      exact bc_ 0 r_ (bc_ 0 r_ sub_end)
    · (repeat (first | exact True.intro | refine ⟨rfl, ?_⟩))
  · have hltk2 : ¬ (k : Int) < (((t.args).map T.row).length : Int) := by omega
    rw [List.take_of_length_le (by omega)]
    have hres : (v && A t) = (v && q t && t.args.all A) := by rw [e0, Bool.and_assoc]
    exact R_ (o_ r_ (bw_ r_ r_ (T_ (am_ (ap_ r_ w_ (av_ (ax_ (ax_ (ba_ (jq_ret0S (.inr rfl) rfl (fun K h => by rw [hres] at h; exact h) (bc_ 0 r_ (bc_ 0 r_ sub_end))))))))))))
theorem parts3_c (F : FuncId) [FI Tryz.prog F] (cap : List Value) (hcap : cap.all Value.oneCell' = true) (bo : Nat) (tb : TypeId) (h1 : Ch) (h2 : Ch) (h3 : Ch) (q A : T → Bool) (hA : ∀ t, A t = (q t && t.args.all A)) (hF : ∀ (x : T) (v : Bool), Con Tryz.prog F (.row x.row' :: capS cap) [.blk bo tb [.val (.bool (v))], h1, h2, h3] (fun K => K (.tup []) [.blk bo tb [.val (.bool (v && q x))], h1, h2, h3])) :
    ∀ (t : T) (v : Bool), Con Tryz.prog 153 [.row t.row', FC F cap] [.blk bo tb [.val (.bool (v))], h1, h2, h3] (fun K => K (.tup []) [.blk bo tb [.val (.bool (v && A t))], h1, h2, h3]) := by
  refine T.ind (fun t ih v => ?_)
  have e0 := hA t
  have c0 := hF t v
  refine con_intro Tryz.func153 rfl rfl (Nat.le_of_ble_eq_true rfl) (fun c hc => R_ (o_ r_ (ci_ r_ (fun bx => T_ (R_ (M_ r_ (A_ 0 r_ (o_ r_ (ow_callc [1, 1, 1, 1] r_ r_ hcap r_ c0 (T_ (R_ (F_ r_ (L_ 4 r_ (o_ r_ (br_ r_ (fun hlen => M_ r_ (T_ (au_ ?_))))))))))))))))))
  refine jc_loopS (ι := Nat) [] (fun k => k ≤ (t.args).length) (fun k => (12, In .i64 (k : Int)) :: [(1, FC F cap), (10, .cell (.list (t.args.map T.row))), (11, In .i64 ((t.args.map T.row).length : Int))]) (fun k => [.blk bo tb [.val (.bool (v && q t && (t.args.take k).all A))], h1, h2, h3]) (fun k => (t.args).length - k) 0 (Nat.zero_le _) ?_ ?_ ?_
  · rw [show (v && q t && (t.args.take 0).all A) = (v && q t) by simp]
    exact bc_ 0 r_ (bc_ 0 r_ (bc_ 0 r_ (bc_ 0 r_ sub_end)))
  · (repeat (first | exact True.intro | refine ⟨rfl, ?_⟩))
  rintro k hk
  have eLk : ((t.args).map T.row).length = (t.args).length := List.length_map _
  by_cases hltk : k < (t.args).length
  · have hltk2 : (k : Int) < (((t.args).map T.row).length : Int) := by omega
    have c1 := ih t.args[k] (List.getElem_mem hltk) (v && q t && (t.args.take k).all A)
    refine R_ (o_ r_ (bw_ r_ r_ (T_ (am_ (aq_ r_ u_ (as_ (al_ (B_ (R_ (o_ r_ (cc_ r_ r_ g_ (T.row_eq _) r_ b_ (o_ r_ (cr_ r_ r_ r_ (o_ r_ (bl_ r_ r_ (fun bl => S_ 0 r_ (T_ (an_ (A_ 0 r_ ?_)))))))))))))))))))
    refine M_ r_ (o_ r_ (bi_ [1, 1, 1, 1] r_ r_ c1 (ak_ (ay_ (al_ (an_ (o_ r_ (bj_ r_ r_ g_ (M_ r_ (ak_ (jq_againS (i := k) (k + 1) hltk g_ ?_ ?_)))))))))))
    · rw [show (v && q t && (t.args.take (k + 1)).all A) = (v && q t && (t.args.take k).all A && A t.args[k]) by rw [List.take_succ_eq_append_getElem hltk, List.all_append, List.all_cons, List.all_nil, Bool.and_true, Bool.and_assoc, Bool.and_assoc, Bool.and_assoc]]
      exact bc_ 0 r_ (bc_ 0 r_ (bc_ 0 r_ (bc_ 0 r_ sub_end)))
    · (repeat (first | exact True.intro | refine ⟨rfl, ?_⟩))
  · have hltk2 : ¬ (k : Int) < (((t.args).map T.row).length : Int) := by omega
    rw [List.take_of_length_le (by omega)]
    have hres : (v && A t) = (v && q t && t.args.all A) := by rw [e0, Bool.and_assoc]
    exact R_ (o_ r_ (bw_ r_ r_ (T_ (am_ (ap_ r_ w_ (av_ (ax_ (ax_ (ba_ (jq_ret0S (.inr rfl) rfl (fun K h => by rw [hres] at h; exact h) (bc_ 0 r_ (bc_ 0 r_ (bc_ 0 r_ (bc_ 0 r_ sub_end))))))))))))))
/-- Each with a closure that counts. -/
theorem eachN_c (F : FuncId) [FI Tryz.prog F] (b : Nat) (hF : ∀ (s : Sm) (n : Nat), n ≤ 1000000000 → Con Tryz.prog F [.row s.row', Ptr b] [.blk b 3 [.val (.int .i64 (n : Int))]] (fun K => K (Bl true) [.blk b 3 [.val (.int .i64 ((n + 1 : Nat) : Int))]])) :
    ∀ l : List Sm, ∀ n : Nat, n + Sm.szs l ≤ 1000000000 → Con Tryz.prog 99 [.cell (.list (l.map Sm.row)), FC F [PV b]] [.blk b 3 [.val (.int .i64 (n : Int))]] (fun K => K (Bl true) [.blk b 3 [.val (.int .i64 ((n + Sm.szs l : Nat) : Int))]]) := by
  refine Sms.ind (fun l ih n hn => con_intro Tryz.func99 rfl rfl (Nat.le_of_ble_eq_true rfl) (fun c hc => R_ (E_ r_ (T_ (am_ (R_ (M_ r_ (o_ r_ (br_ r_ (fun hlen => M_ r_ (T_ (au_ ?_))))))))))))
  refine jc_loopS (ι := Nat) [] (fun k => k ≤ (l).length) (fun k => (9, In .i64 (k : Int)) :: [(1, FC F [PV b]), (7, .cell (.list (l.map Sm.row))), (8, In .i64 ((l.map Sm.row).length : Int))]) (fun k => [.blk b 3 [.val (.int .i64 ((n + Sm.szs (l.take k) : Nat) : Int))]]) (fun k => (l).length - k) 0 (Nat.zero_le _) ?_ ?_ ?_
  · rw [show n + Sm.szs (l.take 0) = n by simp [Sm.szs]]
    exact bc_ 0 r_ sub_end
  · (repeat (first | exact True.intro | refine ⟨rfl, ?_⟩))
  rintro k hk
  have eLk : ((l).map Sm.row).length = (l).length := List.length_map _
  by_cases hltk : k < (l).length
  · have hltk2 : (k : Int) < (((l).map Sm.row).length : Int) := by omega
    obtain ⟨i1, i2⟩ := ih l[k] (List.getElem_mem hltk)
    have q1 := szs_step hltk
    have q2 := szs_step_le hltk
    have c0 := hF l[k] (n + Sm.szs (l.take k)) (by omega)
    have c1 := i1 (n + Sm.szs (l.take k) + 1) (by omega)
    have c2 := i2 (n + Sm.szs (l.take k) + 1 + Sm.szs l[k].thn) (by omega)
    refine R_ (o_ r_ (bw_ r_ r_ (T_ (am_ (aq_ r_ u_ (as_ (al_ (B_ (R_ (o_ r_ (cc_ r_ r_ g_ (Sm.row_eq _) r_ b_ (o_ r_ (cr_ r_ r_ r_ (o_ r_ (bl_ r_ r_ (fun bl => S_ 0 r_ (T_ (R_ (M_ r_ ?_)))))))))))))))))))
    refine A_ 0 r_ (o_ r_ (ow_callc [1] r_ r_ r_ r_ c0 (o_ r_ (cd_ r_ (M_ r_ (ah_ r_ r_ b_ (bf_ r_ r_ r_ b_ (ah_ r_ r_ b_ (bg_ 1 r_ r_ r_ r_ (ah_ r_ r_ b_ (bd_ r_ (ah_ r_ r_ b_ (bi_ [0] r_ r_ c1 (ah_ r_ r_ b_ (cd_ r_ (o_ r_ (bv_ r_ r_ r_ (M_ r_ (ah_ r_ r_ b_ (bf_ r_ r_ r_ b_ (ah_ r_ r_ b_ (bg_ 1 r_ r_ r_ r_ (ah_ r_ r_ b_ (bd_ r_ (ah_ r_ r_ b_ (bi_ [0] r_ r_ c2 (ah_ r_ r_ b_ (cd_ r_ ?_))))))))))))))))))))))))))))
    refine o_ r_ (bv_ r_ r_ r_ (T_ (ap_ r_ r_ (as_ (ay_ (al_ (an_ (o_ r_ (bj_ r_ r_ g_ (M_ r_ (ak_ (jq_againS (i := k) (k + 1) hltk g_ ?_ ?_))))))))))))
    · rw [q1, show n + (Sm.szs (l.take k) + (1 + Sm.szs l[k].thn + Sm.szs l[k].els)) = n + Sm.szs (l.take k) + 1 + Sm.szs l[k].thn + Sm.szs l[k].els by omega]
      exact bc_ 0 r_ sub_end
    · (repeat (first | exact True.intro | refine ⟨rfl, ?_⟩))
  · have hltk2 : ¬ (k : Int) < (((l).map Sm.row).length : Int) := by omega
    rw [List.take_of_length_le (by omega)]
    exact R_ (o_ r_ (bw_ r_ r_ (T_ (am_ (ap_ r_ w_ (av_ (ax_ (ax_ (ba_ (al_ (R_ (E_ r_ (T_ (ar_ (jq_ret1S rfl rfl (fun K h => h) (bc_ 0 r_ sub_end))))))))))))))))
end Go.Proofs.YtalkkcfojplmdaaGreatDoor
end

section
namespace Go.Proofs.YtalkkcfojplmdaaGreatDoor
open Go.Vc
attribute [local irreducible] JL JC JQ OpWp Con ConN HOk
attribute [local irreducible] evJ evF Jb.arr
set_option maxHeartbeats 4000000

abbrev MemH (bv ba : Nat) (va vb : Value) (AM : AMt) (j : Jb) : List Ch := [.mapc bv (mapE (Value.int .i64) j.V), .mapc ba (mapE (fun q => cond q va vb) AM), .own va 3 1 (j.ca.map Irow), .own vb 3 1 (j.cb.map Irow)]
abbrev CntC (vc : Value) (j : Jb) : Ch := .own vc 3 1 (j.cn.map Irow)
theorem small_arr {ma mb N : Nat} {j : Jb} {AM : AMt} (h : j.ok ma mb N) (ha : ma ≤ 1000000) (hb : mb ≤ 1000000) : smallA (j.arr AM) := by
  intro s
  have key : ∀ L : AMt, ((aget (L.map (fun e => (e.1, cond e.2 j.ca j.cb))) s).getD []).length ≤ 1000000 := by
    intro L
    induction L with
    | nil => simp [aget]
    | cons e L ih =>
      rw [List.map_cons, aget]
      split
      · show (cond e.2 j.ca j.cb).length ≤ _
        have := h.ca
        have := h.cb
        cases e.2 <;> simp only [cond] <;> omega
      · exact ih
  unfold Jb.arr
  exact key AM
theorem lend_mem {w : World} {A : Nat → Prop} {bv ba : Nat} {va vb : Value} {AM : AMt} {j : Jb} (hok : ∀ ch ∈ MemH bv ba va vb AM j, ch.ok w A) (hn : ∀ b ∈ hb (MemH bv ba va vb AM j), ¬ A b) :
    Rd1 w A (.map (mapE (Value.int .i64) j.V)) (.map (some bv)) ∧ Rd1 w A (listM Irow (j.arr AM)) (.map (some ba)) := by
  have o1 := hok (.mapc bv (mapE (Value.int .i64) j.V)) (by simp)
  have o2 := hok (.mapc ba (mapE (fun q => cond q va vb) AM)) (by simp)
  have o3 := hok (.own va 3 1 (j.ca.map Irow)) (by simp)
  have o4 := hok (.own vb 3 1 (j.cb.map Irow)) (by simp)
  refine ⟨lend_map o1 (hn bv (by simp [hb, Ch.bs])), ?_⟩
  unfold Jb.arr
  exact lend_two o2 (hn ba (by simp [hb, Ch.bs])) o3 (fun g hg => hn g (by simp [hb, Ch.bs, hg])) o4 (fun g hg => hn g (by simp [hb, Ch.bs, hg]))
section
variable {bj bv ba : Nat} {va vb vc : Value} {AM : AMt} {ma mb N : Nat}
theorem hd0_row {l : List T} (h : (!l.isEmpty) = true) : (l.map T.row)[0]? = some (hd0 l).row' := by
  cases l with
  | nil => cases h
  | cons a l => simp [hd0, T.row_eq]
theorem runL_take_ok {j : Jb} (h : j.ok ma mb N) (l : List Sm) (k : Nat) : (runL AM (l.take k) j).ok ma mb (N + Sm.csts (l.take k)) := runL_ok AM (l.take k) N j h
end
end Go.Proofs.YtalkkcfojplmdaaGreatDoor
end

section
namespace Go.Proofs.YtalkkcfojplmdaaGreatDoor
open Go.Vc
attribute [local irreducible] JL JC JQ OpWp Con ConN HOk
attribute [local irreducible] evJ evF Jb.arr
set_option maxHeartbeats 4000000

abbrev JobCE (bj bv ba : Nat) (vc : Value) (j : Jb) : Ch := .blk bj 115 [.val (.map (some bv)), .val (.map (some ba)), .val vc, .val (.int .i64 j.st)]
abbrev JobHE (bj bv ba : Nat) (va vb vc : Value) (AM : AMt) (j : Jb) : List Ch := [JobCE bj bv ba vc j, CntC vc j, .mapc bv (mapE (Value.int .i64) j.V), .mapc ba (mapE (fun q => cond q va vb) AM), .own va 3 1 (j.ca.map Irow), .own vb 3 1 (j.cb.map Irow)]
section
variable {bj bv ba : Nat} {va vb vc : Value} {AM : AMt} {ma mb N : Nat}
theorem lEExpr_c (j : Jb) (hA : smallA (j.arr AM)) (e : T) : Con Tryz.prog 29 [.row e.row', .cell (.val (.map (some bv))), .cell (.val (.map (some ba)))] (MemH bv ba va vb AM j) (fun K => K (In .i64 (evJ AM j e)) (MemH bv ba va vb AM j)) := by
  have hE := pEExpr_c j.V (j.arr AM) hA e
  unfold evJ
  refine con_lendG hE trivial (fun w A vs hok hn hvs => ?_)
  obtain ⟨v1, r1, rfl, h1, h2⟩ := hvs
  obtain ⟨v2, r2, rfl, h3, h4⟩ := h2
  obtain ⟨v3, r3, rfl, h5, h6⟩ := h4
  obtain ⟨rfl, _⟩ := h3
  obtain ⟨rfl, _⟩ := h5
  obtain ⟨m1, m2⟩ := lend_mem hok hn
  exact ⟨v1, _, rfl, h1, _, _, rfl, m1, _, _, rfl, m2, h6⟩
theorem pcond_c (j : Jb) (hj : j.ok ma mb N) (hN : N ≤ 1000000000) (ha : ma ≤ 1000000) (hb' : mb ≤ 1000000) (s : Sm) (hr0 : (!s.value.isEmpty) = true) : Con Tryz.prog 179 [Ptr bj, .row s.row'] (JobCE bj bv ba vc j :: MemH bv ba va vb AM j) (fun K => K (Bl (decide (evJ AM j.step (hd0 s.value) ≠ 0))) (JobCE bj bv ba vc j.step :: MemH bv ba va vb AM j.step)) := by
  have hE := lEExpr_c (bv := bv) (ba := ba) (va := va) (vb := vb) j.step (small_arr (AM := AM) hj.step ha hb') (hd0 s.value)
  have hrv := hd0_row hr0
  have hst := hj.st
  refine con_intro Tryz.func179 rfl rfl (Nat.le_of_ble_eq_true rfl) (fun c hc => R_ (o_ r_ (ci_ r_ (fun bx => E_ r_ (T_ (R_ (M_ r_ (N_ r_ (F_ r_ (L_ 1 r_ (o_ r_ (bj_ r_ r_ g_ (N_ r_ (F_ r_ (W_ 1 r_ (T_ (am_ ?_)))))))))))))))))
  refine ao_ r_ r_ k_ k_ (yF_ r_ (yL_ 1 r_ (aa_ (fun c => ow_indexAddrN 0 r_ r_ r_ hrv r_ b_ p_) (aa_ (fun c => cr_ r_ r_ r_ p_) (yM_ r_ (yN_ r_ (yF_ r_ (yL_ 0 r_ (yM_ r_ (yN_ r_ (yF_ r_ (yL_ 0 r_ (aa_ (fun c => ow_callA [2, 2, 2, 2] r_ r_ hE) (aa_ (fun c => bx_ r_ r_ p_) (yE_ r_ ?_)))))))))))))))
  exact ae_ (al_ (ar_ (jq_ret1S rfl rfl (fun K h => h) (bc_ 0 r_ (bc_ 1 r_ (bc_ 1 r_ (bc_ 1 r_ (bc_ 1 r_ sub_end))))))))
theorem pstmt_c (ar : ByteArray → Bool) (har : ∀ nm, ar nm = true → ∃ w, aget AM nm = some w ∧ 0 < cond w ma mb) (ha : ma ≤ 1000000) (hb' : mb ≤ 1000000) (hva : va.oneCell' = true) (hvb : vb.oneCell' = true) (s : Sm)
    (i1 : Sm.roks ar s.thn = true → ∀ (N : Nat) (j : Jb), j.ok ma mb N → N + Sm.csts s.thn ≤ 1000000000 → Con Tryz.prog 72 [Ptr bj, .cell (.list (s.thn.map Sm.row))] (JobHE bj bv ba va vb vc AM j) (fun K => K (.tup []) (JobHE bj bv ba va vb vc AM (runL AM s.thn j))))
    (i2 : Sm.roks ar s.els = true → ∀ (N : Nat) (j : Jb), j.ok ma mb N → N + Sm.csts s.els ≤ 1000000000 → Con Tryz.prog 72 [Ptr bj, .cell (.list (s.els.map Sm.row))] (JobHE bj bv ba va vb vc AM j) (fun K => K (.tup []) (JobHE bj bv ba va vb vc AM (runL AM s.els j))))
    (hr : s.rok ar = true) (N : Nat) (j : Jb) (hj : j.ok ma mb N) (hcs : N + s.cst ≤ 1000000000) :
    Con Tryz.prog 127 [Ptr bj, .row s.row'] (JobHE bj bv ba va vb vc AM j) (fun K => K (.tup []) (JobHE bj bv ba va vb vc AM (runS AM s j))) := by
  rw [rok_eq] at hr
  rw [cst_eq] at hcs
  have hstep := runS_eq AM s j
  have hst := hj.st
  refine con_intro Tryz.func127 rfl rfl (Nat.le_of_ble_eq_true rfl) (fun c hc => ?_)
  by_cases hk1 : s.kind = 1
  · rw [if_pos hk1] at hr hcs hstep
    have hrv := hd0_row hr
    have cv := lEExpr_c (bv := bv) (ba := ba) (va := va) (vb := vb) (j) (small_arr (AM := AM) (hj) ha hb') (hd0 s.value)
    refine R_ (o_ r_ (ci_ r_ (fun bx => T_ (R_ (F_ r_ (L_ 0 r_ (o_ r_ (ow_mul r_ r_ (E_ r_ (T_ (R_ (F_ r_ (L_ 0 r_ (T_ (au_ (R_ (o_ r_ (bn_ r_ r_ ?_))))))))))))))))))
    refine E_ r_ (T_ (aq_ r_ u_ (am_ (jc_anyB 19 none rfl k_ k_ (yM_ r_ (yN_ r_ (yF_ r_ (yL_ 1 r_ (yF_ r_ (yL_ 0 r_ (yF_ r_ (yL_ 0 r_ (aa_ (fun c => ow_indexAddrN 0 r_ r_ r_ hrv r_ b_ p_) (aa_ (fun c => cr_ r_ r_ r_ p_) (yM_ r_ ?_)))))))))))))))
    refine yN_ r_ (yF_ r_ (yL_ 1 r_ (yM_ r_ (yN_ r_ (yF_ r_ (yL_ 1 r_ (aa_ (fun c => ow_callA [3, 3, 3, 3] r_ r_ cv) (ae_ (afin_none (ag_ (ow_mapPut (κ := ByteArray) (vv := Value.int .i64) (M := j.V) 3 r_ r_ r_ r_ r_ (T_ (an_ (M_ r_ (N_ r_ (F_ r_ ?_))))))))))))))))
    exact L_ 2 r_ (o_ r_ (bj_ r_ r_ g_ (N_ r_ (F_ r_ (W_ 2 r_ (ak_ (ay_ (jq_ret0S (.inr rfl) rfl (fun K h => by rw [hstep] at h; exact h) (bc_ 0 r_ (bc_ 2 r_ (bc_ 0 r_ (bc_ 1 r_ (bc_ 1 r_ (bc_ 1 r_ sub_end))))))))))))))
  rw [if_neg hk1] at hr hcs hstep
  by_cases hk2 : s.kind = 2
  · rw [if_pos hk2] at hr hcs hstep
    simp only [Bool.and_eq_true] at hr
    obtain ⟨⟨hr0, hr1⟩, hr2⟩ := hr
    have hri := hd0_row hr0
    have hrv := hd0_row hr1
    obtain ⟨w, hw, hpos⟩ := har _ hr2
    cases w with
    | true =>
      have hput : j.put AM s.name (evJ AM j (hd0 s.index)) (evJ AM j (hd0 s.value)) = { j with ca := j.ca.set (evJ AM j (hd0 s.index) % j.ca.length).toNat (evJ AM j (hd0 s.value)) } := by unfold Jb.put; rw [hw]
      rw [hput] at hstep
      have hlc := hj.ca
      have eca : (j.ca.map Irow).length = j.ca.length := List.length_map _
      have cm := pelement_c (evJ AM j (hd0 s.index)) ((j.ca.map Irow).length : Int) (by simp only [cond] at hpos; omega)
      have hb0 := Int.emod_nonneg (evJ AM j (hd0 s.index)) (show ((j.ca.map Irow).length : Int) ≠ 0 by simp only [cond] at hpos; omega)
      have hb1 := Int.emod_lt_of_pos (evJ AM j (hd0 s.index)) (show 0 < ((j.ca.map Irow).length : Int) by simp only [cond] at hpos; omega)
      rw [show (j.ca.length : Int) = ((j.ca.map Irow).length : Int) by omega] at hstep
      have cv := lEExpr_c (bv := bv) (ba := ba) (va := va) (vb := vb) (j) (small_arr (AM := AM) (hj) ha hb') (hd0 s.value)
      have ci := lEExpr_c (bv := bv) (ba := ba) (va := va) (vb := vb) (j) (small_arr (AM := AM) (hj) ha hb') (hd0 s.index)
      generalize evJ AM j (hd0 s.index) % ((j.ca.map Irow).length : Int) = q at cm hb0 hb1 hstep
      refine R_ (o_ r_ (ci_ r_ (fun bx => T_ (R_ (F_ r_ (L_ 0 r_ (o_ r_ (ow_mul r_ r_ (E_ r_ (T_ (R_ (F_ r_ (L_ 0 r_ (T_ (au_ (R_ (o_ r_ (bn_ r_ r_ ?_))))))))))))))))))
      refine E_ r_ (T_ (ap_ r_ w_ (R_ (o_ r_ (bn_ r_ r_ (E_ r_ (T_ (aq_ r_ u_ (am_ (ao_ r_ r_ k_ k_ (yM_ r_ (yN_ r_ (yF_ r_ (yL_ 1 r_ (yF_ r_ (yL_ 0 r_ ?_))))))))))))))))
      refine aa_ (fun c => ow_mapGetOW (κ := ByteArray) (vv := fun q => cond q va vb) (M := AM) (w := true) (u := va) 4 rfl rfl hw rfl hva rfl rfl rfl p_) (yE_ r_ (ae_ (al_ (am_ (ao_ r_ r_ k_ k_ (yF_ r_ (yL_ 0 r_ (aa_ (fun c => ow_indexAddrN 0 r_ r_ r_ hri r_ b_ p_) (aa_ (fun c => cr_ r_ r_ r_ p_) (yM_ r_ (yN_ r_ (yF_ r_ (yL_ 1 r_ (yM_ r_ (yN_ r_ ?_)))))))))))))))
      refine yF_ r_ (yL_ 1 r_ (aa_ (fun c => ow_callA [3, 3, 3, 3] r_ r_ ci) (yM_ r_ (aa_ (fun c => cw_ 5 r_ r_ (fun hlen => p_)) (aa_ (fun c => bm_ r_ (cm) p_) (yE_ r_ (ae_ (al_ (am_ (jc_anyB 16 none rfl k_ k_ (yM_ r_ (yM_ r_ (yF_ r_ (yL_ 0 r_ (aa_ (fun c => ow_indexAddrN 0 r_ r_ r_ hrv r_ b_ p_) ?_)))))))))))))))
      refine aa_ (fun c => cr_ r_ r_ r_ p_) (yM_ r_ (yN_ r_ (yF_ r_ (yL_ 1 r_ (yM_ r_ (yN_ r_ (yF_ r_ (yL_ 1 r_ (aa_ (fun c => ow_callA [3, 3, 3, 3] r_ r_ cv) (aa_ (fun c => ow_indexI 5 r_ r_ r_ g_ r_ p_) (ae_ (afin_none (ag_ (ow_storeI 5 r_ r_ r_ g_ r_ (T_ (an_ ?_))))))))))))))))
      refine M_ r_ (N_ r_ (F_ r_ (L_ 2 r_ (o_ r_ (bj_ r_ r_ g_ (N_ r_ (F_ r_ (W_ 2 r_ (ak_ (ay_ (jq_ret0S (.inr rfl) rfl (fun K h => by rw [hstep] at h; exact h) (bc_ 0 r_ (bc_ 2 r_ (bc_ 2 r_ (bc_ 2 r_ (bc_ 0 r_ ?_))))))))))))))))
      exact bc_ 1 r_ sub_end
    | false =>
      have hput : j.put AM s.name (evJ AM j (hd0 s.index)) (evJ AM j (hd0 s.value)) = { j with cb := j.cb.set (evJ AM j (hd0 s.index) % j.cb.length).toNat (evJ AM j (hd0 s.value)) } := by unfold Jb.put; rw [hw]
      rw [hput] at hstep
      have hlc := hj.cb
      have eca : (j.cb.map Irow).length = j.cb.length := List.length_map _
      have cm := pelement_c (evJ AM j (hd0 s.index)) ((j.cb.map Irow).length : Int) (by simp only [cond] at hpos; omega)
      have hb0 := Int.emod_nonneg (evJ AM j (hd0 s.index)) (show ((j.cb.map Irow).length : Int) ≠ 0 by simp only [cond] at hpos; omega)
      have hb1 := Int.emod_lt_of_pos (evJ AM j (hd0 s.index)) (show 0 < ((j.cb.map Irow).length : Int) by simp only [cond] at hpos; omega)
      rw [show (j.cb.length : Int) = ((j.cb.map Irow).length : Int) by omega] at hstep
      have cv := lEExpr_c (bv := bv) (ba := ba) (va := va) (vb := vb) (j) (small_arr (AM := AM) (hj) ha hb') (hd0 s.value)
      have ci := lEExpr_c (bv := bv) (ba := ba) (va := va) (vb := vb) (j) (small_arr (AM := AM) (hj) ha hb') (hd0 s.index)
      generalize evJ AM j (hd0 s.index) % ((j.cb.map Irow).length : Int) = q at cm hb0 hb1 hstep
      refine R_ (o_ r_ (ci_ r_ (fun bx => T_ (R_ (F_ r_ (L_ 0 r_ (o_ r_ (ow_mul r_ r_ (E_ r_ (T_ (R_ (F_ r_ (L_ 0 r_ (T_ (au_ (R_ (o_ r_ (bn_ r_ r_ ?_))))))))))))))))))
      refine E_ r_ (T_ (ap_ r_ w_ (R_ (o_ r_ (bn_ r_ r_ (E_ r_ (T_ (aq_ r_ u_ (am_ (ao_ r_ r_ k_ k_ (yM_ r_ (yN_ r_ (yF_ r_ (yL_ 1 r_ (yF_ r_ (yL_ 0 r_ ?_))))))))))))))))
      refine aa_ (fun c => ow_mapGetOW (κ := ByteArray) (vv := fun q => cond q va vb) (M := AM) (w := false) (u := vb) 4 rfl rfl hw rfl hvb rfl rfl rfl p_) (yE_ r_ (ae_ (al_ (am_ (ao_ r_ r_ k_ k_ (yF_ r_ (yL_ 0 r_ (aa_ (fun c => ow_indexAddrN 0 r_ r_ r_ hri r_ b_ p_) (aa_ (fun c => cr_ r_ r_ r_ p_) (yM_ r_ (yN_ r_ (yF_ r_ (yL_ 1 r_ (yM_ r_ (yN_ r_ ?_)))))))))))))))
      refine yF_ r_ (yL_ 1 r_ (aa_ (fun c => ow_callA [3, 3, 3, 3] r_ r_ ci) (yM_ r_ (aa_ (fun c => cw_ 6 r_ r_ (fun hlen => p_)) (aa_ (fun c => bm_ r_ (cm) p_) (yE_ r_ (ae_ (al_ (am_ (jc_anyB 16 none rfl k_ k_ (yM_ r_ (yM_ r_ (yF_ r_ (yL_ 0 r_ (aa_ (fun c => ow_indexAddrN 0 r_ r_ r_ hrv r_ b_ p_) ?_)))))))))))))))
      refine aa_ (fun c => cr_ r_ r_ r_ p_) (yM_ r_ (yN_ r_ (yF_ r_ (yL_ 1 r_ (yM_ r_ (yN_ r_ (yF_ r_ (yL_ 1 r_ (aa_ (fun c => ow_callA [3, 3, 3, 3] r_ r_ cv) (aa_ (fun c => ow_indexI 6 r_ r_ r_ g_ r_ p_) (ae_ (afin_none (ag_ (ow_storeI 6 r_ r_ r_ g_ r_ (T_ (an_ ?_))))))))))))))))
      refine M_ r_ (N_ r_ (F_ r_ (L_ 2 r_ (o_ r_ (bj_ r_ r_ g_ (N_ r_ (F_ r_ (W_ 2 r_ (ak_ (ay_ (jq_ret0S (.inr rfl) rfl (fun K h => by rw [hstep] at h; exact h) (bc_ 0 r_ (bc_ 2 r_ (bc_ 2 r_ (bc_ 2 r_ (bc_ 2 r_ ?_))))))))))))))))
      exact bc_ 0 r_ sub_end
  rw [if_neg hk2] at hr hcs hstep
  by_cases hk3 : s.kind = 3
  · rw [if_pos hk3] at hr hcs hstep
    simp only [Bool.and_eq_true, decide_eq_true_eq] at hr
    obtain ⟨⟨⟨⟨hr0, hl0⟩, hl12⟩, hr1⟩, hr2⟩ := hr
    have hg := getD_ok hj (3 * s.label).toNat
    have hln := hj.len
    have hj2 : (j.up (3 * s.label)).step.ok ma mb (N + 1 + 1) := (hj.up _).step
    have hrv := hd0_row hr0
    have cc := pcond_c (bj := bj) (bv := bv) (ba := ba) (va := va) (vb := vb) (vc := vc) (AM := AM) (j.up (3 * s.label)) (hj.up _) (by omega) ha hb' s hr0
    by_cases hz : evJ AM (j.up (3 * s.label)).step (hd0 s.value) = 0
    · have hz2 : ¬ evJ AM (j.up (3 * s.label)).step (hd0 s.value) ≠ 0 := fun h => h hz
      rw [if_neg hz2] at hstep
      rw [decide_eq_false hz2] at cc
      refine R_ (o_ r_ (ci_ r_ (fun bx => T_ (R_ (F_ r_ (L_ 0 r_ (o_ r_ (cz_ r_ r_ g_ (E_ r_ (T_ (R_ (F_ r_ (L_ 0 r_ (T_ (au_ (R_ (o_ r_ (bn_ r_ r_ ?_))))))))))))))))))
      refine E_ r_ (T_ (ap_ r_ w_ (R_ (o_ r_ (bn_ r_ r_ (E_ r_ (T_ (ap_ r_ w_ (R_ (o_ r_ (bn_ r_ r_ (E_ r_ (T_ (aq_ r_ u_ (R_ (M_ r_ (N_ r_ ?_)))))))))))))))))
      refine F_ r_ (L_ 1 r_ (M_ r_ (o_ r_ (ow_indexI 2 r_ r_ r_ g_ r_ (o_ r_ (ow_loadI 2 r_ r_ r_ g_ (o_ r_ (bj_ r_ r_ g_ (o_ r_ (ow_indexI 2 r_ r_ r_ g_ r_ (ag_ (ow_storeI 2 r_ r_ r_ g_ r_ (T_ (R_ (M_ r_ (A_ 1 r_ (o_ r_ (bi_ [2, 2, 2, 2, 2] r_ r_ cc (T_ (ap_ r_ r_ (am_ ?_)))))))))))))))))))))
      clear cc hz
      clear hz2
      refine jc_reset ([(0, Ptr bj), (3, Ptr bx), (4, In .i64 (3 * s.label)), (12, In .i64 s.kind)]) (JobHE bj bv ba va vb vc AM ((j.up (3 * s.label)).step) ++ [.blk bx 66 s.row']) ?_ ?_ ?_
      · (repeat (first | exact True.intro | refine ⟨rfl, ?_⟩))
      · exact bc_ 0 r_ (bc_ 4 r_ (bc_ 0 r_ (bc_ 0 r_ (bc_ 0 r_ (bc_ 0 r_ (bc_ 0 r_ sub_end))))))
      generalize (j.up (3 * s.label)).step = J2 at hj2 hstep ⊢
      have hj3 := hj2.up (3 * s.label + 2)
      have cr := i2 hr2 _ _ hj3 (by omega)
      have hg2 := getD_ok hj2 (3 * s.label + 2).toNat
      have hl2 := hj2.len
      refine an_ (M_ r_ (N_ r_ (F_ r_ (L_ 0 r_ (M_ r_ (o_ r_ (bj_ r_ r_ g_ (o_ r_ (ow_indexI 1 r_ r_ r_ g_ r_ (o_ r_ (ow_loadI 1 r_ r_ r_ g_ (o_ r_ (bj_ r_ r_ g_ (o_ r_ (ow_indexI 1 r_ r_ r_ g_ r_ (ag_ (ow_storeI 1 r_ r_ r_ g_ r_ (T_ (an_ (M_ r_ (F_ r_ ?_)))))))))))))))))))))
      exact L_ 6 r_ (o_ r_ (bi_ [1, 0, 0, 0, 0, 0] r_ r_ cr (ak_ (ay_ (jq_ret0S (.inr rfl) rfl (fun K h => by rw [hstep] at h; exact h) (bc_ 0 r_ (bc_ 0 r_ (bc_ 0 r_ (bc_ 0 r_ (bc_ 0 r_ (bc_ 0 r_ sub_end)))))))))))
    · rw [if_pos hz] at hstep
      rw [decide_eq_true (show evJ AM (j.up (3 * s.label)).step (hd0 s.value) ≠ 0 from hz)] at cc
      have hz2 : True := trivial
      refine R_ (o_ r_ (ci_ r_ (fun bx => T_ (R_ (F_ r_ (L_ 0 r_ (o_ r_ (cz_ r_ r_ g_ (E_ r_ (T_ (R_ (F_ r_ (L_ 0 r_ (T_ (au_ (R_ (o_ r_ (bn_ r_ r_ ?_))))))))))))))))))
      refine E_ r_ (T_ (ap_ r_ w_ (R_ (o_ r_ (bn_ r_ r_ (E_ r_ (T_ (ap_ r_ w_ (R_ (o_ r_ (bn_ r_ r_ (E_ r_ (T_ (aq_ r_ u_ (R_ (M_ r_ (N_ r_ ?_)))))))))))))))))
      refine F_ r_ (L_ 1 r_ (M_ r_ (o_ r_ (ow_indexI 2 r_ r_ r_ g_ r_ (o_ r_ (ow_loadI 2 r_ r_ r_ g_ (o_ r_ (bj_ r_ r_ g_ (o_ r_ (ow_indexI 2 r_ r_ r_ g_ r_ (ag_ (ow_storeI 2 r_ r_ r_ g_ r_ (T_ (R_ (M_ r_ (A_ 1 r_ (o_ r_ (bi_ [2, 2, 2, 2, 2] r_ r_ cc (T_ (aq_ r_ r_ (am_ ?_)))))))))))))))))))))
      clear cc hz
      clear hz2
      refine jc_reset ([(0, Ptr bj), (3, Ptr bx), (4, In .i64 (3 * s.label)), (12, In .i64 s.kind)]) (JobHE bj bv ba va vb vc AM ((j.up (3 * s.label)).step) ++ [.blk bx 66 s.row']) ?_ ?_ ?_
      · (repeat (first | exact True.intro | refine ⟨rfl, ?_⟩))
      · exact bc_ 0 r_ (bc_ 4 r_ (bc_ 0 r_ (bc_ 0 r_ (bc_ 0 r_ (bc_ 0 r_ (bc_ 0 r_ sub_end))))))
      generalize (j.up (3 * s.label)).step = J2 at hj2 hstep ⊢
      have hj3 := hj2.up (3 * s.label + 1)
      have cr := i1 hr1 _ _ hj3 (by omega)
      have hg2 := getD_ok hj2 (3 * s.label + 1).toNat
      have hl2 := hj2.len
      refine an_ (M_ r_ (N_ r_ (F_ r_ (L_ 0 r_ (M_ r_ (o_ r_ (bj_ r_ r_ g_ (o_ r_ (ow_indexI 1 r_ r_ r_ g_ r_ (o_ r_ (ow_loadI 1 r_ r_ r_ g_ (o_ r_ (bj_ r_ r_ g_ (o_ r_ (ow_indexI 1 r_ r_ r_ g_ r_ (ag_ (ow_storeI 1 r_ r_ r_ g_ r_ (T_ (an_ (M_ r_ (F_ r_ ?_)))))))))))))))))))))
      exact L_ 6 r_ (o_ r_ (bi_ [1, 0, 0, 0, 0, 0] r_ r_ cr (ak_ (ay_ (jq_ret0S (.inr rfl) rfl (fun K h => by rw [hstep] at h; exact h) (bc_ 0 r_ (bc_ 0 r_ (bc_ 0 r_ (bc_ 0 r_ (bc_ 0 r_ (bc_ 0 r_ sub_end)))))))))))
  rw [if_neg hk3] at hr hcs hstep
  by_cases hk4 : s.kind = 4
  · rw [if_pos hk4] at hr hcs hstep
    simp only [Bool.and_eq_true, decide_eq_true_eq] at hr
    obtain ⟨⟨⟨hr0, hl0⟩, hl12⟩, hr1⟩ := hr
    have hrv := hd0_row hr0
    have hg := getD_ok hj (3 * s.label).toNat
    have hln := hj.len
    have hj2 : (j.up (3 * s.label)).ok ma mb (N + 1) := hj.up _
    have hF := whI_ok (AM := AM) (c := hd0 s.value) (lb := s.label) (body := runL AM s.thn) (B := Sm.csts s.thn) (fun N j h => runL_ok AM s.thn N j h) s.max.toNat _ _ hj2
    generalize hFe : whI AM (hd0 s.value) s.label (runL AM s.thn) s.max.toNat (j.up (3 * s.label)) = F at hF hstep
    refine R_ (o_ r_ (ci_ r_ (fun bx => T_ (R_ (F_ r_ (L_ 0 r_ (o_ r_ (cz_ r_ r_ g_ (E_ r_ (T_ (R_ (F_ r_ (L_ 0 r_ (T_ (au_ (R_ (o_ r_ (bn_ r_ r_ ?_))))))))))))))))))
    refine E_ r_ (T_ (ap_ r_ w_ (R_ (o_ r_ (bn_ r_ r_ (E_ r_ (T_ (ap_ r_ w_ (R_ (o_ r_ (bn_ r_ r_ (E_ r_ (T_ (ap_ r_ w_ (R_ (o_ r_ (bn_ r_ r_ (E_ r_ ?_))))))))))))))))))
    refine T_ (aq_ r_ u_ (R_ (M_ r_ (N_ r_ (F_ r_ (L_ 1 r_ (M_ r_ (o_ r_ (ow_indexI 2 r_ r_ r_ g_ r_ (o_ r_ (ow_loadI 2 r_ r_ r_ g_ (o_ r_ (bj_ r_ r_ g_ (o_ r_ (ow_indexI 2 r_ r_ r_ g_ r_ (ag_ (ow_storeI 2 r_ r_ r_ g_ r_ (T_ (am_ (R_ ?_))))))))))))))))))))
    refine E_ r_ (T_ (jc_cut (ι := Unit) [] (fun _ => True) (fun _ => [(0, Ptr bj), (3, Ptr bx), (4, In .i64 (3 * s.label)), (12, In .i64 s.kind)]) (fun _ => JobHE bj bv ba va vb vc AM F ++ [.blk bx 66 s.row']) ?_ ?_))
    · refine au_ ?_
      refine jc_loopS (ι := Nat × Jb) [] (fun i => i.1 ≤ s.max.toNat ∧ whI AM (hd0 s.value) s.label (runL AM s.thn) (s.max.toNat - i.1) i.2 = F ∧ i.2.ok ma mb (N + 1 + i.1 * (2 + Sm.csts s.thn))) (fun i => (7, In .i64 (i.1 : Int)) :: [(0, Ptr bj), (3, Ptr bx), (4, In .i64 (3 * s.label)), (12, In .i64 s.kind)]) (fun i => JobHE bj bv ba va vb vc AM i.2 ++ [.blk bx 66 s.row']) (fun i => s.max.toNat - i.1) (0, j.up (3 * s.label)) ⟨Nat.zero_le _, hFe, by rw [Nat.zero_mul]; exact hj2⟩ ?_ ?_ ?_
      · exact bc_ 2 r_ (bc_ 0 r_ (bc_ 1 r_ (bc_ 1 r_ (bc_ 1 r_ (bc_ 1 r_ (bc_ 0 r_ sub_end))))))
      · (repeat (first | exact True.intro | refine ⟨rfl, ?_⟩))
      rintro ⟨n, G⟩ hz
      dsimp only at hz ⊢
      obtain ⟨hn, hG, hok⟩ := hz
      by_cases hlt : (n : Int) < s.max
      · have hb2 : n * (2 + Sm.csts s.thn) + (2 + Sm.csts s.thn) ≤ s.max.toNat * (2 + Sm.csts s.thn) := by
          rw [← Nat.succ_mul]
          exact Nat.mul_le_mul_right _ g_
        have hnn : n ≤ n * (2 + Sm.csts s.thn) := Nat.le_mul_of_pos_right _ (by omega)
        have hok2 := hok.step
        have cc := pcond_c (bj := bj) (bv := bv) (ba := ba) (va := va) (vb := vb) (vc := vc) (AM := AM) G hok (by omega) ha hb' s hr0
        rw [show s.max.toNat - n = (s.max.toNat - (n + 1)) + 1 by omega, whI] at hG
        by_cases hz0 : evJ AM G.step (hd0 s.value) = 0
        · rw [if_pos hz0] at hG
          rw [decide_eq_false (show ¬ evJ AM G.step (hd0 s.value) ≠ 0 from fun h => h hz0)] at cc
          refine am_ (R_ (M_ r_ (F_ r_ (L_ 6 r_ (o_ r_ (bw_ r_ r_ (M_ r_ (ah_ r_ u_ b_ (bd_ r_ (ah_ r_ u_ b_ (bs_ 6 r_ r_ r_ r_ (ah_ r_ u_ b_ (bi_ [0, 1, 1, 1, 1] r_ r_ cc (o_ r_ (bp_ r_ u_ r_ (T_ (ap_ r_ r_ (av_ (ax_ (ax_ ?_))))))))))))))))))))
          refine ba_ (jq_cutS () trivial ?_ ?_)
          · rw [← hG]
            exact bc_ 0 r_ (bc_ 4 r_ (bc_ 0 r_ (bc_ 0 r_ (bc_ 0 r_ (bc_ 0 r_ (bc_ 0 r_ sub_end))))))
          · (repeat (first | exact True.intro | refine ⟨rfl, ?_⟩))
        · rw [if_neg hz0] at hG
          rw [decide_eq_true (show evJ AM G.step (hd0 s.value) ≠ 0 from hz0)] at cc
          refine am_ (R_ (M_ r_ (F_ r_ (L_ 6 r_ (o_ r_ (bw_ r_ r_ (M_ r_ (ah_ r_ u_ b_ (bd_ r_ (ah_ r_ u_ b_ (bs_ 6 r_ r_ r_ r_ (ah_ r_ u_ b_ (bi_ [0, 1, 1, 1, 1] r_ r_ cc (o_ r_ (bp_ r_ u_ r_ (T_ (aq_ r_ r_ (as_ (al_ (B_ ?_))))))))))))))))))))
          refine am_ ?_
          clear cc hz0
          refine jc_reset ((7, In .i64 (n : Int)) :: [(0, Ptr bj), (3, Ptr bx), (4, In .i64 (3 * s.label)), (12, In .i64 s.kind)]) (JobHE bj bv ba va vb vc AM (G.step) ++ [.blk bx 66 s.row']) ?_ ?_ ?_
          · (repeat (first | exact True.intro | refine ⟨rfl, ?_⟩))
          · exact bc_ 0 r_ (bc_ 4 r_ (bc_ 0 r_ (bc_ 0 r_ (bc_ 0 r_ (bc_ 0 r_ (bc_ 0 r_ sub_end))))))
          generalize G.step = G2 at hok2 hG ⊢
          have cr := i1 hr1 _ _ (hok2.up (3 * s.label + 1)) (by omega)
          have hok3 := runL_ok AM s.thn _ _ (hok2.up (3 * s.label + 1))
          have hl2 := hok2.len
          have hg2 := getD_ok hok2 (3 * s.label + 1).toNat
          refine an_ (M_ r_ (N_ r_ (F_ r_ (L_ 0 r_ (M_ r_ (o_ r_ (bj_ r_ r_ g_ (o_ r_ (ow_indexI 1 r_ r_ r_ g_ r_ (o_ r_ (ow_loadI 1 r_ r_ r_ g_ (o_ r_ (bj_ r_ r_ g_ (o_ r_ (ow_indexI 1 r_ r_ r_ g_ r_ (ag_ (ow_storeI 1 r_ r_ r_ g_ r_ (T_ (an_ (M_ r_ (F_ r_ ?_)))))))))))))))))))))
          refine L_ 6 r_ (o_ r_ (bi_ [1, 0, 0, 0, 0, 0] r_ r_ cr (ak_ (ay_ (al_ (an_ (M_ r_ (o_ r_ (bj_ r_ r_ g_ (E_ r_ (ak_ (jq_againS (i := (n, G)) (n + 1, runL AM s.thn (G2.up (3 * s.label + 1))) ⟨by omega, hG, hok3.mono (by rw [Nat.succ_mul]; omega)⟩ (by dsimp only; omega) ?_ ?_))))))))))))
          · exact bc_ 0 r_ (bc_ 0 r_ (bc_ 0 r_ (bc_ 0 r_ (bc_ 0 r_ (bc_ 0 r_ (bc_ 0 r_ sub_end))))))
          · (repeat (first | exact True.intro | refine ⟨rfl, ?_⟩))
      · rw [show s.max.toNat - n = 0 by omega, whI] at hG
        refine am_ (R_ (M_ r_ (F_ r_ (L_ 6 r_ (o_ r_ (bw_ r_ r_ (M_ r_ (ai_ r_ w_ b_ (ai_ r_ w_ b_ (ai_ r_ w_ b_ (o_ r_ (bv_ r_ w_ r_ (T_ (ap_ r_ r_ (av_ (ax_ (ax_ ?_)))))))))))))))))
        refine ba_ (jq_cutS () trivial ?_ ?_)
        · rw [← hG]
          exact bc_ 0 r_ (bc_ 0 r_ (bc_ 0 r_ (bc_ 0 r_ (bc_ 0 r_ (bc_ 0 r_ (bc_ 0 r_ sub_end))))))
        · (repeat (first | exact True.intro | refine ⟨rfl, ?_⟩))
    · intro _ _
      have hgF := getD_ok hF (3 * s.label + 2).toNat
      have hlF := hF.len
      refine an_ (M_ r_ (N_ r_ (F_ r_ (L_ 0 r_ (M_ r_ (o_ r_ (bj_ r_ r_ g_ (o_ r_ (ow_indexI 1 r_ r_ r_ g_ r_ (o_ r_ (ow_loadI 1 r_ r_ r_ g_ (o_ r_ (bj_ r_ r_ g_ (o_ r_ (ow_indexI 1 r_ r_ r_ g_ r_ (ag_ (ow_storeI 1 r_ r_ r_ g_ r_ (ak_ (ay_ (jq_ret0S (.inr rfl) rfl (fun K h => by rw [hstep] at h; exact h) (bc_ 1 r_ ?_)))))))))))))))))))))
      exact bc_ 0 r_ (bc_ 0 r_ (bc_ 0 r_ (bc_ 0 r_ (bc_ 0 r_ sub_end))))
  rw [if_neg hk4] at hr hcs hstep
  by_cases hk5 : s.kind = 5
  · rw [if_pos hk5] at hr hcs hstep
    have cr := i1 hr _ _ hj (by omega)
    refine R_ (o_ r_ (ci_ r_ (fun bx => T_ (R_ (F_ r_ (L_ 0 r_ (o_ r_ (ow_mul r_ r_ (E_ r_ (T_ (R_ (F_ r_ (L_ 0 r_ (T_ (au_ (R_ (o_ r_ (bn_ r_ r_ ?_))))))))))))))))))
    refine E_ r_ (T_ (ap_ r_ w_ (R_ (o_ r_ (bn_ r_ r_ (E_ r_ (T_ (ap_ r_ w_ (R_ (o_ r_ (bn_ r_ r_ (E_ r_ (T_ (ap_ r_ w_ (R_ (o_ r_ (bn_ r_ r_ (E_ r_ ?_))))))))))))))))))
    refine T_ (ap_ r_ w_ (R_ (o_ r_ (bn_ r_ r_ (E_ r_ (T_ (aq_ r_ u_ (an_ (M_ r_ (F_ r_ (L_ 0 r_ (o_ r_ (bi_ [1, 1, 1, 1, 1, 1] r_ r_ cr (ak_ (ay_ (jq_ret0S (.inr rfl) rfl (fun K h => by rw [hstep] at h; exact h) (bc_ 0 r_ ?_)))))))))))))))))
    exact bc_ 0 r_ (bc_ 0 r_ (bc_ 0 r_ (bc_ 0 r_ (bc_ 0 r_ sub_end))))
  rw [if_neg hk5] at hcs hstep
  refine R_ (o_ r_ (ci_ r_ (fun bx => T_ (R_ (F_ r_ (L_ 0 r_ (o_ r_ (ow_mul r_ r_ (E_ r_ (T_ (R_ (F_ r_ (L_ 0 r_ (T_ (au_ (R_ (o_ r_ (bn_ r_ r_ ?_))))))))))))))))))
  refine E_ r_ (T_ (ap_ r_ w_ (R_ (o_ r_ (bn_ r_ r_ (E_ r_ (T_ (ap_ r_ w_ (R_ (o_ r_ (bn_ r_ r_ (E_ r_ (T_ (ap_ r_ w_ (R_ (o_ r_ (bn_ r_ r_ (E_ r_ ?_))))))))))))))))))
  exact T_ (ap_ r_ w_ (R_ (o_ r_ (bn_ r_ r_ (E_ r_ (T_ (ap_ r_ w_ (as_ (ay_ (jq_ret0S (.inr rfl) rfl (fun K h => by rw [hstep] at h; exact h) (bc_ 1 r_ (bc_ 1 r_ (bc_ 1 r_ (bc_ 1 r_ (bc_ 1 r_ (bc_ 1 r_ sub_end))))))))))))))))
theorem pstmts_c (ar : ByteArray → Bool) (har : ∀ nm, ar nm = true → ∃ w, aget AM nm = some w ∧ 0 < cond w ma mb) (ha : ma ≤ 1000000) (hb' : mb ≤ 1000000) (hva : va.oneCell' = true) (hvb : vb.oneCell' = true) : ∀ l : List Sm, Sm.roks ar l = true → ∀ (N : Nat) (j : Jb), j.ok ma mb N → N + Sm.csts l ≤ 1000000000 →
    Con Tryz.prog 72 [Ptr bj, .cell (.list (l.map Sm.row))] (JobHE bj bv ba va vb vc AM j) (fun K => K (.tup []) (JobHE bj bv ba va vb vc AM (runL AM l j))) := by
  refine Sms.ind (fun l ih hl N j hj hN => con_intro Tryz.func72 rfl rfl (Nat.le_of_ble_eq_true rfl) (fun c hc => R_ (M_ r_ (o_ r_ (br_ r_ (fun hlen => M_ r_ (T_ (au_ ?_))))))))
  refine jc_loopS (ι := Nat) [] (fun k => k ≤ (l).length) (fun k => (8, In .i64 (k : Int)) :: [(0, Ptr bj), (6, .cell (.list (l.map Sm.row))), (7, In .i64 ((l.map Sm.row).length : Int))]) (fun k => JobHE bj bv ba va vb vc AM (runL AM (l.take k) j)) (fun k => (l).length - k) 0 (Nat.zero_le _) ?_ ?_ ?_
  · exact bc_ 0 r_ (bc_ 0 r_ (bc_ 0 r_ (bc_ 0 r_ (bc_ 0 r_ (bc_ 0 r_ sub_end)))))
  · (repeat (first | exact True.intro | refine ⟨rfl, ?_⟩))
  rintro k hk
  have eLk : ((l).map Sm.row).length = (l).length := List.length_map _
  by_cases hltk : k < (l).length
  · have hltk2 : (k : Int) < (((l).map Sm.row).length : Int) := by omega
    obtain ⟨i1, i2⟩ := ih l[k] (List.getElem_mem hltk)
    have hr := roks_mem hl l[k] (List.getElem_mem hltk)
    have hcs := csts_take hltk
    have hj1 := runL_take_ok (AM := AM) hj l k
    have cS := pstmt_c (bj := bj) (bv := bv) (ba := ba) (va := va) (vb := vb) (vc := vc) (AM := AM) ar har ha hb' hva hvb l[k] i1 i2 hr _ _ hj1 (by omega)
    refine R_ (o_ r_ (bw_ r_ r_ (T_ (am_ (aq_ r_ u_ (as_ (al_ (B_ (R_ (o_ r_ (cc_ r_ r_ g_ (Sm.row_eq _) r_ b_ (o_ r_ (cr_ r_ r_ r_ (o_ r_ (bl_ r_ r_ (fun bl => S_ 0 r_ (T_ (an_ (M_ r_ ?_)))))))))))))))))))
    refine A_ 0 r_ (o_ r_ (bi_ [1, 1, 1, 1, 1, 1] r_ r_ cS (ak_ (ay_ (al_ (an_ (o_ r_ (bj_ r_ r_ g_ (M_ r_ (ak_ (jq_againS (i := k) (k + 1) hltk g_ ?_ ?_)))))))))))
    · rw [runL_step hltk]
      exact bc_ 0 r_ (bc_ 0 r_ (bc_ 0 r_ (bc_ 0 r_ (bc_ 0 r_ (bc_ 0 r_ sub_end)))))
    · (repeat (first | exact True.intro | refine ⟨rfl, ?_⟩))
  · have hltk2 : ¬ (k : Int) < (((l).map Sm.row).length : Int) := by omega
    rw [List.take_of_length_le (by omega)]
    exact R_ (o_ r_ (bw_ r_ r_ (T_ (am_ (ap_ r_ w_ (av_ (ax_ (ax_ (ba_ (jq_ret0S (.inr rfl) rfl (fun K h => h) (bc_ 0 r_ (bc_ 0 r_ (bc_ 0 r_ (bc_ 0 r_ (bc_ 0 r_ (bc_ 0 r_ sub_end))))))))))))))))
end
end Go.Proofs.YtalkkcfojplmdaaGreatDoor
end

section
namespace Go.Proofs.YtalkkcfojplmdaaGreatDoor
open Go.Vc
attribute [local irreducible] JL JC JQ OpWp Con ConN
attribute [local irreducible] byteAt runLen isL isD isName hasW
set_option maxHeartbeats 4000000

theorem namedB_c (s : ByteArray) : Con Tryz.prog 133 [Str s] [] (fun K => K (Bl (nameB s)) []) := by
  refine con_intro Tryz.func133 rfl rfl (Nat.le_of_ble_eq_true rfl) (fun c hc => R_ (E_ r_ (T_ (R_ (M_ r_ (o_ r_ (bm_ r_ (Name_c _) (M_ r_ (jl_and 3 2 rfl rfl rfl rfl (nb rfl) ?_)))))))))
  apply Exists.intro
  refine ⟨fun hb1 => ?_, ?_⟩
  exact ah_ r_ h_ b_ (bd_ r_ (ah_ r_ h_ b_ (bm_ r_ (Keyword_c _) (ah_ r_ h_ b_ (cd_ r_ (ak_ (jq_seg 3 rfl rfl rfl (List.Perm.refl _))))))))
  refine E_ r_ (T_ (ar_ (jq_ret1 rfl rfl [] rfl (fun K h => h))))
theorem plainL_c (l : List Int) : Con Tryz.prog 134 [.cell (.list (l.map Irow))] [] (fun K => K (Bl (l.all plainB)) []) := by
  have eL : (l.map Irow).length = l.length := List.length_map _
  refine con_intro Tryz.func134 rfl rfl (Nat.le_of_ble_eq_true rfl) (fun c hc => R_ (E_ r_ (T_ (am_ (R_ (M_ r_ (o_ r_ (br_ r_ (fun hlen => M_ r_ (T_ (au_ (jc_loopS (ι := Nat) [] (fun k => k ≤ l.length ∧ (l.take k).all plainB = true) (fun k => [(5, .cell (.list (l.map Irow))), (6, In .i64 ((l.map Irow).length : Int)), (7, In .i64 (k : Int))]) (fun _ => []) (fun k => l.length - k) 0 ⟨Nat.zero_le _, rfl⟩ ?_ ?_ ?_))))))))))))
  · exact sub_end
  · (repeat (first | exact True.intro | refine ⟨rfl, ?_⟩))
  rintro k ⟨hk, hall⟩
  by_cases hlt : k < l.length
  · have hlt2 : (k : Int) < ((l.map Irow).length : Int) := by omega
    refine R_ (o_ r_ (bw_ r_ r_ (T_ (am_ (aq_ r_ u_ (as_ (al_ (B_ (R_ (o_ r_ (cc_ r_ r_ g_ r_ r_ b_ (o_ r_ (cb_ r_ r_ (E_ r_ (T_ (R_ (M_ r_ (o_ r_ (bw_ r_ r_ ?_)))))))))))))))))))
    refine M_ r_ (jl_or 2 2 rfl rfl rfl rfl (nb rfl) ?_)
    apply Exists.intro
    refine ⟨fun hb1 => ?_, ?_⟩
    exact ah_ r_ h_ b_ (bd_ r_ (ah_ r_ h_ b_ (bz_ r_ r_ (ak_ (jq_seg 2 rfl rfl rfl (List.Perm.refl _))))))
    refine T_ (jc_cond rfl (fun hn => ?_) (fun hy => ?_))
    · have hp : plainB l[k] = false := by
        unfold plainB
        simp only [Bool.or_eq_true, decide_eq_true_eq] at hn
        simp only [Bool.and_eq_false_iff, decide_eq_false_iff_not]
        omega
      have hno := all_no hlt hp
      refine R_ (E_ r_ (T_ (ar_ (az_ (aw_ (aw_ (az_ (aw_ (jq_ret1 rfl rfl [] rfl (fun K h => by rw [hno] at h; exact h))))))))))
    · have hp : plainB l[k] = true := by
        unfold plainB
        simp only [Bool.or_eq_false_iff, decide_eq_false_iff_not] at hy
        simp only [Bool.and_eq_true, decide_eq_true_eq]
        omega
      refine as_ (ay_ (al_ (an_ (o_ r_ (bj_ r_ r_ g_ (M_ r_ (ak_ (jq_againS (k + 1) ⟨hlt, all_snoc hlt hall hp⟩ g_ ?_ ?_))))))))
      · exact sub_end
      · (repeat (first | exact True.intro | refine ⟨rfl, ?_⟩))
  · have hlt2 : ¬ (k : Int) < ((l.map Irow).length : Int) := by omega
    rw [List.take_of_length_le (by omega)] at hall
    refine R_ (o_ r_ (bw_ r_ r_ (T_ (am_ (ap_ r_ w_ (av_ (ax_ (ax_ (ba_ (al_ (R_ (E_ r_ (T_ (ar_ (jq_ret1 rfl rfl [] rfl (fun K h => by rw [hall] at h; exact h))))))))))))))))
theorem signedL_c (l : List Int) : Con Tryz.prog 184 [.cell (.list (l.map Irow))] [] (fun K => K (Bl (l.all smallB)) []) := by
  have eL : (l.map Irow).length = l.length := List.length_map _
  refine con_intro Tryz.func184 rfl rfl (Nat.le_of_ble_eq_true rfl) (fun c hc => R_ (E_ r_ (T_ (am_ (R_ (M_ r_ (o_ r_ (br_ r_ (fun hlen => M_ r_ (T_ (au_ (jc_loopS (ι := Nat) [] (fun k => k ≤ l.length ∧ (l.take k).all smallB = true) (fun k => [(5, .cell (.list (l.map Irow))), (6, In .i64 ((l.map Irow).length : Int)), (7, In .i64 (k : Int))]) (fun _ => []) (fun k => l.length - k) 0 ⟨Nat.zero_le _, rfl⟩ ?_ ?_ ?_))))))))))))
  · exact sub_end
  · (repeat (first | exact True.intro | refine ⟨rfl, ?_⟩))
  rintro k ⟨hk, hall⟩
  by_cases hlt : k < l.length
  · have hlt2 : (k : Int) < ((l.map Irow).length : Int) := by omega
    refine R_ (o_ r_ (bw_ r_ r_ (T_ (am_ (aq_ r_ u_ (as_ (al_ (B_ (R_ (o_ r_ (cc_ r_ r_ g_ r_ r_ b_ (o_ r_ (cb_ r_ r_ (E_ r_ (T_ (R_ (M_ r_ (o_ r_ (bw_ r_ r_ ?_)))))))))))))))))))
    refine M_ r_ (jl_or 2 2 rfl rfl rfl rfl (nb rfl) ?_)
    apply Exists.intro
    refine ⟨fun hb1 => ?_, ?_⟩
    exact ah_ r_ h_ b_ (bd_ r_ (ah_ r_ h_ b_ (bz_ r_ r_ (ak_ (jq_seg 2 rfl rfl rfl (List.Perm.refl _))))))
    refine T_ (jc_cond rfl (fun hn => ?_) (fun hy => ?_))
    · have hp : smallB l[k] = false := by
        unfold smallB
        simp only [Bool.or_eq_true, decide_eq_true_eq] at hn
        simp only [Bool.and_eq_false_iff, decide_eq_false_iff_not]
        omega
      have hno := all_no hlt hp
      refine R_ (E_ r_ (T_ (ar_ (az_ (aw_ (aw_ (az_ (aw_ (jq_ret1 rfl rfl [] rfl (fun K h => by rw [hno] at h; exact h))))))))))
    · have hp : smallB l[k] = true := by
        unfold smallB
        simp only [Bool.or_eq_false_iff, decide_eq_false_iff_not] at hy
        simp only [Bool.and_eq_true, decide_eq_true_eq]
        omega
      refine as_ (ay_ (al_ (an_ (o_ r_ (bj_ r_ r_ g_ (M_ r_ (ak_ (jq_againS (k + 1) ⟨hlt, all_snoc hlt hall hp⟩ g_ ?_ ?_))))))))
      · exact sub_end
      · (repeat (first | exact True.intro | refine ⟨rfl, ?_⟩))
  · have hlt2 : ¬ (k : Int) < ((l.map Irow).length : Int) := by omega
    rw [List.take_of_length_le (by omega)] at hall
    refine R_ (o_ r_ (bw_ r_ r_ (T_ (am_ (ap_ r_ w_ (av_ (ax_ (ax_ (ba_ (al_ (R_ (E_ r_ (T_ (ar_ (jq_ret1 rfl rfl [] rfl (fun K h => by rw [hall] at h; exact h))))))))))))))))
/-- The sign of an operator, or none. -/
def signA (o : Int) : ByteArray := if 1 ≤ o ∧ o ≤ 14 then signT o else ⟨#[]⟩
theorem signA_c (o : Int) : Con Tryz.prog 227 [In .i64 o] [] (fun K => K (Str (signA o)) []) := by
  by_cases h : 1 ≤ o ∧ o ≤ 14
  · have := Sign_c o h
    unfold signA
    rw [if_pos h]
    exact this
  · have e : signA o = ⟨#[]⟩ := by unfold signA; rw [if_neg h]
    refine con_intro Tryz.func227 rfl rfl (Nat.le_of_ble_eq_true rfl) (fun c hc => ?_)
    by_cases h1 : o < 1
    · refine R_ (E_ r_ (T_ (am_ (R_ (M_ r_ (o_ r_ (bw_ r_ r_ (M_ r_ (ai_ r_ u_ b_ (ai_ r_ u_ b_ (o_ r_ (bp_ r_ u_ r_ (T_ (aq_ r_ r_ (R_ (E_ r_ (T_ ?_)))))))))))))))))
      refine ar_ (aw_ (jq_ret1 rfl rfl [] rfl (fun K h => by rw [e] at h; exact h)))
    · have h2 : o > 14 := by omega
      refine R_ (E_ r_ (T_ (am_ (R_ (M_ r_ (o_ r_ (bw_ r_ r_ (M_ r_ (ah_ r_ w_ b_ (bd_ r_ (ah_ r_ w_ b_ (bz_ r_ r_ (o_ r_ (bv_ r_ w_ r_ (T_ (aq_ r_ u_ (R_ (E_ r_ (T_ ?_)))))))))))))))))))
      refine ar_ (aw_ (jq_ret1 rfl rfl [] rfl (fun K h => by rw [e] at h; exact h)))
theorem signA_ne (o : Int) : (!decide (signA o = ⟨#[]⟩)) = (decide (1 ≤ o) && decide (o ≤ 14)) := by
  by_cases h : 1 ≤ o ∧ o ≤ 14
  · have := str_ne h
    unfold signA
    rw [if_pos h, decide_eq_false this, decide_eq_true h.1, decide_eq_true h.2]
    rfl
  · unfold signA
    rw [if_neg h, decide_eq_true rfl]
    symm
    rw [Bool.not_true, Bool.and_eq_false_iff, decide_eq_false_iff_not, decide_eq_false_iff_not]
    omega
/-- An expression's own shape, without its parts. -/
def shHd : T → Bool
  | .nu n => smallB n
  | .nm s => nameB s
  | .ix s _ => nameB s
  | .bn o _ _ => decide (1 ≤ o) && decide (o ≤ 14)
theorem shp_hd (F : Nat) (t : T) : shpF (F + 1) t = (shHd t && t.args.all (shpF F)) := by
  cases t <;> simp [shpF, shHd, T.args, Bool.and_assoc]
theorem shapedB_c : ∀ (F : Nat) (t : T), F ≤ 20 → Con Tryz.prog 186 [.row t.row', In .i64 (21 - (F : Int))] [] (fun K => K (Bl (shpF F t)) []) := by
  intro F
  induction F with
  | zero =>
    intro t _
    refine con_intro Tryz.func186 rfl rfl (Nat.le_of_ble_eq_true rfl) (fun c hc => R_ (o_ r_ (ci_ r_ (fun bx => E_ r_ (T_ (am_ (R_ (M_ r_ (o_ r_ (bz_ r_ r_ (T_ (aq_ r_ r_ (R_ (E_ r_ (T_ (ar_ (aw_ ?_)))))))))))))))))
    refine jq_ret1 rfl rfl [] rfl (fun K h => h)
  | succ F ih =>
    intro t hF
    have eA : (t.args.map T.row).length = t.args.length := List.length_map _
    have hF1 : (21 - ((F + 1 : Nat) : Int) + 1) = 21 - (F : Int) := by omega
    have hF2 : ¬ 20 < (21 - ((F + 1 : Nat) : Int)) := by omega
    have hF3 : 0 ≤ (21 - ((F + 1 : Nat) : Int)) ∧ (21 - ((F + 1 : Nat) : Int)) ≤ 20 := by omega
    have ih := fun x => ih x (by omega)
    rw [← hF1] at ih
    have hsh := shp_hd F t
    generalize (21 - ((F + 1 : Nat) : Int)) = d at hF1 hF2 hF3 ih ⊢
    refine con_intro Tryz.func186 rfl rfl (Nat.le_of_ble_eq_true rfl) (fun c hc => R_ (o_ r_ (ci_ r_ (fun bx => E_ r_ (T_ (am_ (R_ (M_ r_ (o_ r_ (bz_ r_ r_ (T_ (ap_ r_ w_ (as_ (al_ (R_ (F_ r_ (L_ 0 r_ ?_)))))))))))))))))
    refine o_ r_ (bn_ r_ r_ (M_ r_ (jl_and 3 3 rfl rfl rfl rfl (nb rfl) ?_)))
    apply Exists.intro
    refine ⟨fun hb1 => ?_, ?_⟩
    exact ah_ r_ h_ b_ (bf_ r_ r_ r_ b_ (ah_ r_ h_ b_ (bg_ 0 r_ r_ r_ r_ (ah_ r_ h_ b_ (bn_ r_ r_ (ak_ (jq_seg 3 rfl rfl rfl (List.Perm.refl _))))))))
    refine E_ r_ (T_ (R_ (E_ r_ (T_ (am_ (R_ (F_ r_ (L_ 0 r_ (T_ (jc_cut (ι := Unit) [] (fun _ => True) (fun _ => [(1, In .i64 d), (2, .cell (.val (.pointer (some ⟨bx, 0, none⟩)))), (6, Bl (shHd t))]) (fun _ => [.blk bx 69 t.row']) ?_ ?_))))))))))
    · clear ih eA hsh
      cases t with
      | nu n =>
        refine au_ (R_ (o_ r_ (bn_ r_ r_ (E_ r_ (T_ (aq_ r_ x_ (an_ (F_ r_ (L_ 0 r_ (o_ r_ (bq_ r_ r_ b_ r_ r_ b_ (o_ r_ (bm_ r_ (signedL_c [n]) (M_ r_ (jl_and 3 4 rfl rfl rfl rfl (nb rfl) ?_)))))))))))))))
        apply Exists.intro
        refine ⟨fun hb1 => ?_, ?_⟩
        exact ah_ r_ h_ b_ (bf_ r_ r_ r_ b_ (ah_ r_ h_ b_ (bg_ 0 r_ r_ r_ r_ (ah_ r_ h_ b_ (cs_ r_ r_ (ak_ (jq_seg 3 rfl rfl rfl (List.Perm.refl _))))))))
        refine M_ r_ (jl_and 3 9 rfl rfl rfl rfl (nb rfl) ?_)
        apply Exists.intro
        refine ⟨fun hb1 => ?_, ?_⟩
        exact ah_ r_ h_ b_ (bf_ r_ r_ r_ b_ (ah_ r_ h_ b_ (bg_ 0 r_ r_ r_ r_ (ah_ r_ h_ b_ (bn_ r_ r_ (ak_ (jq_seg 3 rfl rfl rfl (List.Perm.refl _))))))))
        refine M_ r_ (jl_and 4 14 rfl rfl rfl rfl (nb rfl) ?_)
        apply Exists.intro
        refine ⟨fun hb1 => ?_, ?_⟩
        exact ah_ r_ h_ b_ (bf_ r_ r_ r_ b_ (ah_ r_ h_ b_ (bg_ 0 r_ r_ r_ r_ (ah_ r_ h_ b_ (br_ r_ (fun hlen => ah_ r_ h_ b_ (bn_ r_ r_ (ak_ (jq_seg 4 rfl rfl rfl (List.Perm.refl _))))))))))
        refine E_ r_ (ak_ (ay_ (jq_bl 6 rfl (b' := shHd (.nu n)) (by simp [shHd, T.num, T.name, T.op, T.args]) (jq_cutS () trivial ?_ ?_))))
        · exact bc_ 0 r_ sub_end
        · (repeat (first | exact True.intro | refine ⟨rfl, ?_⟩))
      | nm s =>
        refine au_ (R_ (o_ r_ (bn_ r_ r_ (E_ r_ (T_ (ap_ r_ r_ (R_ (o_ r_ (bn_ r_ r_ (E_ r_ (T_ (aq_ r_ x_ (an_ (F_ r_ (L_ 0 r_ (o_ r_ (bm_ r_ (namedB_c _) (M_ r_ ?_))))))))))))))))))
        refine jl_and 1 3 rfl rfl rfl rfl (nb rfl) ?_
        apply Exists.intro
        refine ⟨fun hb1 => ?_, ?_⟩
        exact ah_ r_ h_ b_ (bd_ r_ (ak_ (jq_seg 1 rfl rfl rfl (List.Perm.refl _))))
        refine M_ r_ (jl_and 4 6 rfl rfl rfl rfl (nb rfl) ?_)
        apply Exists.intro
        refine ⟨fun hb1 => ?_, ?_⟩
        exact ah_ r_ h_ b_ (bf_ r_ r_ r_ b_ (ah_ r_ h_ b_ (bg_ 0 r_ r_ r_ r_ (ah_ r_ h_ b_ (br_ r_ (fun hlen => ah_ r_ h_ b_ (bn_ r_ r_ (ak_ (jq_seg 4 rfl rfl rfl (List.Perm.refl _))))))))))
        refine E_ r_ (ak_ (ay_ (jq_bl 6 rfl (b' := shHd (.nm s)) (by simp [shHd, T.num, T.name, T.op, T.args]) (jq_cutS () trivial ?_ ?_))))
        · exact bc_ 0 r_ sub_end
        · (repeat (first | exact True.intro | refine ⟨rfl, ?_⟩))
      | ix s t =>
        refine au_ (R_ (o_ r_ (bn_ r_ r_ (E_ r_ (T_ (ap_ r_ r_ (R_ (o_ r_ (bn_ r_ r_ (E_ r_ (T_ (ap_ r_ r_ (R_ (o_ r_ (bn_ r_ r_ (E_ r_ (T_ (aq_ r_ x_ ?_))))))))))))))))))
        refine an_ (F_ r_ (L_ 0 r_ (o_ r_ (bm_ r_ (namedB_c _) (M_ r_ (jl_and 1 3 rfl rfl rfl rfl (nb rfl) ?_))))))
        apply Exists.intro
        refine ⟨fun hb1 => ?_, ?_⟩
        exact ah_ r_ h_ b_ (bd_ r_ (ak_ (jq_seg 1 rfl rfl rfl (List.Perm.refl _))))
        refine M_ r_ (jl_and 4 6 rfl rfl rfl rfl (nb rfl) ?_)
        apply Exists.intro
        refine ⟨fun hb1 => ?_, ?_⟩
        exact ah_ r_ h_ b_ (bf_ r_ r_ r_ b_ (ah_ r_ h_ b_ (bg_ 0 r_ r_ r_ r_ (ah_ r_ h_ b_ (br_ r_ (fun hlen => ah_ r_ h_ b_ (bn_ r_ r_ (ak_ (jq_seg 4 rfl rfl rfl (List.Perm.refl _))))))))))
        refine E_ r_ (ak_ (ay_ (jq_bl 6 rfl (b' := shHd (.ix s t)) (by simp [shHd, T.num, T.name, T.op, T.args]) (jq_cutS () trivial ?_ ?_))))
        · exact bc_ 0 r_ sub_end
        · (repeat (first | exact True.intro | refine ⟨rfl, ?_⟩))
      | bn o a b =>
        have hne : decide (¬ signA o = ⟨#[]⟩) = (decide (1 ≤ o) && decide (o ≤ 14)) := by rw [← signA_ne, decide_not]
        refine au_ (R_ (o_ r_ (bn_ r_ r_ (E_ r_ (T_ (ap_ r_ r_ (R_ (o_ r_ (bn_ r_ r_ (E_ r_ (T_ (ap_ r_ r_ (R_ (o_ r_ (bn_ r_ r_ (E_ r_ (T_ (ap_ r_ r_ ?_))))))))))))))))))
        refine R_ (o_ r_ (bn_ r_ r_ (E_ r_ (T_ (aq_ r_ x_ (an_ (F_ r_ (L_ 0 r_ (o_ r_ (bm_ r_ (signA_c _) (o_ r_ (ct_ r_ r_ (M_ r_ (jl_and 3 4 rfl rfl rfl rfl (nb rfl) ?_))))))))))))))
        apply Exists.intro
        refine ⟨fun hb1 => ?_, ?_⟩
        exact ah_ r_ h_ b_ (bf_ r_ r_ r_ b_ (ah_ r_ h_ b_ (bg_ 0 r_ r_ r_ r_ (ah_ r_ h_ b_ (bn_ r_ r_ (ak_ (jq_seg 3 rfl rfl rfl (List.Perm.refl _))))))))
        refine M_ r_ (jl_and 3 9 rfl rfl rfl rfl (nb rfl) ?_)
        apply Exists.intro
        refine ⟨fun hb1 => ?_, ?_⟩
        exact ah_ r_ h_ b_ (bf_ r_ r_ r_ b_ (ah_ r_ h_ b_ (bg_ 0 r_ r_ r_ r_ (ah_ r_ h_ b_ (cs_ r_ r_ (ak_ (jq_seg 3 rfl rfl rfl (List.Perm.refl _))))))))
        refine M_ r_ (jl_and 4 14 rfl rfl rfl rfl (nb rfl) ?_)
        apply Exists.intro
        refine ⟨fun hb1 => ?_, ?_⟩
        exact ah_ r_ h_ b_ (bf_ r_ r_ r_ b_ (ah_ r_ h_ b_ (bg_ 0 r_ r_ r_ r_ (ah_ r_ h_ b_ (br_ r_ (fun hlen => ah_ r_ h_ b_ (bn_ r_ r_ (ak_ (jq_seg 4 rfl rfl rfl (List.Perm.refl _))))))))))
        refine E_ r_ (ak_ (ay_ (jq_bl 6 rfl (b' := shHd (.bn o a b)) (by rw [shHd, ← hne]; by_cases hz : signA o = ⟨#[]⟩ <;> simp [T.num, T.name, T.op, T.args, hz]) (jq_cutS () trivial ?_ ?_))))
        · exact bc_ 0 r_ sub_end
        · (repeat (first | exact True.intro | refine ⟨rfl, ?_⟩))
    · intro _ _
      refine am_ (R_ (F_ r_ (L_ 0 r_ (o_ r_ (br_ r_ (fun hlen => M_ r_ (T_ (au_ (jc_loopS (ι := Nat) [] (fun k => k ≤ t.args.length) (fun k => [(1, In .i64 d), (6, Bl (shHd t && (t.args.take k).all (shpF F))), (94, .cell (.list (t.args.map T.row))), (95, In .i64 ((t.args.map T.row).length : Int)), (96, In .i64 (k : Int))]) (fun _ => []) (fun k => t.args.length - k) 0 (Nat.zero_le _) ?_ ?_ ?_)))))))))
      · exact sub_end
      · rw [show (shHd t && (t.args.take 0).all (shpF F)) = shHd t by simp]
        (repeat (first | exact True.intro | refine ⟨rfl, ?_⟩))
      intro k hk
      by_cases hlt : k < t.args.length
      · have hlt2 : (k : Int) < ((t.args.map T.row).length : Int) := by omega
        have ih1 := ih t.args[k]
        have e1 : (shHd t && (t.args.take (k + 1)).all (shpF F)) = ((shHd t && (t.args.take k).all (shpF F)) && shpF F t.args[k]) := by
          rw [List.take_succ_eq_append_getElem hlt, List.all_append, Bool.and_assoc]
          simp
        generalize (shHd t && (t.args.take k).all (shpF F)) = z at e1 ⊢
        refine R_ (o_ r_ (bw_ r_ r_ (T_ (am_ (aq_ r_ u_ (as_ (al_ (B_ (R_ (o_ r_ (cc_ r_ r_ g_ (T.row_eq _) r_ b_ (o_ r_ (cr_ r_ r_ r_ (o_ r_ (bl_ r_ r_ (fun bl => S_ 0 r_ (T_ (an_ (M_ r_ ?_)))))))))))))))))))
        refine M_ r_ (jl_and 4 1 rfl rfl rfl rfl (nb rfl) ?_)
        apply Exists.intro
        refine ⟨fun hb1 => ?_, ?_⟩
        exact ah_ r_ h_ b_ (bs_ 0 r_ r_ r_ r_ (ah_ r_ h_ b_ (bd_ r_ (ah_ r_ h_ b_ (bj_ r_ r_ g_ (ah_ r_ h_ b_ (bm_ r_ (ih1) (ak_ (jq_seg 4 rfl rfl rfl (List.Perm.refl _))))))))))
        refine E_ r_ (ak_ (ay_ (al_ (an_ (o_ r_ (bj_ r_ r_ g_ (M_ r_ (ak_ (jq_againS (k + 1) hlt g_ ?_ ?_)))))))))
        · exact sub_end
        · rw [e1]
          (repeat (first | exact True.intro | refine ⟨rfl, ?_⟩))
      · have hlt2 : ¬ (k : Int) < ((t.args.map T.row).length : Int) := by omega
        rw [List.take_of_length_le (show t.args.length ≤ k by omega), ← hsh]
        refine R_ (o_ r_ (bw_ r_ r_ (T_ (am_ (ap_ r_ w_ (av_ (ax_ (ax_ (ba_ (al_ (R_ (M_ r_ (E_ r_ (T_ (ar_ (jq_ret1 rfl rfl [] rfl (fun K h => h)))))))))))))))))
end Go.Proofs.YtalkkcfojplmdaaGreatDoor
end

section
namespace Go.Proofs.YtalkkcfojplmdaaGreatDoor
open Go.Vc
attribute [local irreducible] JL JC JQ OpWp Con ConN
attribute [local irreducible] byteAt runLen isL isD isName hasW
set_option maxHeartbeats 4000000

def rightB (s : Sm) : Bool :=
  if s.kind = 1 then nameB s.name && decide (s.index.length = 0) && decide (s.value.length = 1) && (decide (s.max = 0) && decide (s.label = 0)) && decide (s.thn.length + s.els.length = 0)
  else if s.kind = 2 then nameB s.name && decide (s.index.length = 1) && decide (s.value.length = 1) && (decide (s.max = 0) && decide (s.label = 0)) && decide (s.thn.length + s.els.length = 0)
  else if s.kind = 3 then decide (s.name = ⟨#[]⟩) && decide (s.index.length = 0) && decide (s.value.length = 1) && decide (s.max = 0) && plainB s.label
  else if s.kind = 4 then decide (s.name = ⟨#[]⟩) && decide (s.index.length = 0) && decide (s.value.length = 1) && (plainB s.max && plainB s.label) && decide (s.els.length = 0)
  else if s.kind = 5 then nameB s.name && decide (s.index.length = 0) && decide (s.value.length = 0) && (decide (s.max = 0) && decide (s.label = 0)) && decide (s.els.length = 0)
  else false
theorem wrap0 (a b : Nat) (ha : a ≤ 9223372036854775807) (hb : b ≤ 9223372036854775807) : decide (IntKind.i64.wrap ((a : Int) + (b : Int)) = 0) = decide (a + b = 0) := by
  rw [decide_eq_decide]
  simp only [IntKind.wrap, IntKind.bits, IntKind.signed]
  simp
  omega
theorem right_c (s : Sm) : Con Tryz.prog 185 [.row s.row'] [] (fun K => K (Bl (rightB s)) []) := by
  have eI : (s.index.map T.row).length = s.index.length := List.length_map _
  have eV : (s.value.map T.row).length = s.value.length := List.length_map _
  have eT : (s.thn.map Sm.row).length = s.thn.length := List.length_map _
  have eE : (s.els.map Sm.row).length = s.els.length := List.length_map _
  have d0 : ∀ n : Nat, decide ((n : Int) = 0) = decide (n = 0) := fun n => by rw [decide_eq_decide]; omega
  have d1 : ∀ n : Nat, decide ((n : Int) = 1) = decide (n = 1) := fun n => by rw [decide_eq_decide]; omega
  refine con_intro Tryz.func185 rfl rfl (Nat.le_of_ble_eq_true rfl) (fun c hc => ?_)
  have hk : s.kind = 1 ∨ s.kind = 2 ∨ s.kind = 3 ∨ s.kind = 4 ∨ s.kind = 5 ∨ ¬ (s.kind = 1 ∨ s.kind = 2 ∨ s.kind = 3 ∨ s.kind = 4 ∨ s.kind = 5) := by omega
  rcases hk with hk | hk | hk | hk | hk | hk
  · have e : rightB s = _ := if_pos hk
    refine R_ (o_ r_ (ci_ r_ (fun bx => E_ r_ (T_ (R_ (F_ r_ (L_ 0 r_ (o_ r_ (br_ r_ (fun hlen => F_ r_ (L_ 0 r_ (o_ r_ (br_ r_ (fun hlen => o_ r_ (ow_add r_ r_ (o_ r_ (bn_ r_ r_ (E_ r_ (T_ (R_ ?_))))))))))))))))))))
    refine F_ r_ (L_ 0 r_ (o_ r_ (bn_ r_ r_ (M_ r_ (jl_and 3 3 rfl rfl rfl rfl (nb rfl) ?_)))))
    apply Exists.intro
    refine ⟨fun hb1 => ?_, ?_⟩
    exact ah_ r_ h_ b_ (bf_ r_ r_ r_ b_ (ah_ r_ h_ b_ (bg_ 0 r_ r_ r_ r_ (ah_ r_ h_ b_ (bn_ r_ r_ (ak_ (jq_seg 3 rfl rfl rfl (List.Perm.refl _))))))))
    refine E_ r_ (T_ (am_ (R_ (F_ r_ (L_ 0 r_ (T_ (au_ (R_ (o_ r_ (bn_ r_ r_ (E_ r_ (T_ (aq_ r_ u_ (R_ (F_ r_ (L_ 0 r_ ?_))))))))))))))))
    refine o_ r_ (bm_ r_ (namedB_c _) (M_ r_ (jl_and 4 3 rfl rfl rfl rfl (nb rfl) ?_)))
    apply Exists.intro
    refine ⟨fun hb1 => ?_, ?_⟩
    exact ah_ r_ h_ b_ (bf_ r_ r_ r_ b_ (ah_ r_ h_ b_ (bg_ 0 r_ r_ r_ r_ (ah_ r_ h_ b_ (br_ r_ (fun hlen => ah_ r_ h_ b_ (bn_ r_ r_ (ak_ (jq_seg 4 rfl rfl rfl (List.Perm.refl _))))))))))
    refine M_ r_ (jl_and 4 9 rfl rfl rfl rfl (nb rfl) ?_)
    apply Exists.intro
    refine ⟨fun hb1 => ?_, ?_⟩
    exact ah_ r_ h_ b_ (bf_ r_ r_ r_ b_ (ah_ r_ h_ b_ (bg_ 0 r_ r_ r_ r_ (ah_ r_ h_ b_ (br_ r_ (fun hlen => ah_ r_ h_ b_ (bn_ r_ r_ (ak_ (jq_seg 4 rfl rfl rfl (List.Perm.refl _))))))))))
    refine M_ r_ (jl_and 1 15 rfl rfl rfl rfl (nb rfl) ?_)
    apply Exists.intro
    refine ⟨fun hb1 => ?_, ?_⟩
    exact ah_ r_ h_ b_ (bd_ r_ (ak_ (jq_seg 1 rfl rfl rfl (List.Perm.refl _))))
    refine M_ r_ (jl_and 1 18 rfl rfl rfl rfl (nb rfl) ?_)
    apply Exists.intro
    refine ⟨fun hb1 => ?_, ?_⟩
    exact ah_ r_ h_ b_ (bd_ r_ (ak_ (jq_seg 1 rfl rfl rfl (List.Perm.refl _))))
    refine E_ r_ (T_ (ar_ (az_ (aw_ (jq_bl 2 rfl (b' := rightB s) ?_ ?_)))))
    · rw [e, wrap0 (s.thn.map Sm.row).length (s.els.map Sm.row).length (by assumption) (by assumption), d0, d1, eI, eV, eT, eE]
    refine jq_ret1 rfl rfl [] rfl (fun K h => h)
  · have e : rightB s = _ := (if_neg (by omega)).trans (if_pos hk)
    refine R_ (o_ r_ (ci_ r_ (fun bx => E_ r_ (T_ (R_ (F_ r_ (L_ 0 r_ (o_ r_ (br_ r_ (fun hlen => F_ r_ (L_ 0 r_ (o_ r_ (br_ r_ (fun hlen => o_ r_ (ow_add r_ r_ (o_ r_ (bn_ r_ r_ (E_ r_ (T_ (R_ ?_))))))))))))))))))))
    refine F_ r_ (L_ 0 r_ (o_ r_ (bn_ r_ r_ (M_ r_ (jl_and 3 3 rfl rfl rfl rfl (nb rfl) ?_)))))
    apply Exists.intro
    refine ⟨fun hb1 => ?_, ?_⟩
    exact ah_ r_ h_ b_ (bf_ r_ r_ r_ b_ (ah_ r_ h_ b_ (bg_ 0 r_ r_ r_ r_ (ah_ r_ h_ b_ (bn_ r_ r_ (ak_ (jq_seg 3 rfl rfl rfl (List.Perm.refl _))))))))
    refine E_ r_ (T_ (am_ (R_ (F_ r_ (L_ 0 r_ (T_ (au_ (R_ (o_ r_ (bn_ r_ r_ (E_ r_ (T_ (ap_ r_ v_ (R_ (o_ r_ (bn_ r_ r_ (E_ r_ ?_)))))))))))))))))
    refine T_ (aq_ r_ u_ (R_ (F_ r_ (L_ 0 r_ (o_ r_ (bm_ r_ (namedB_c _) (M_ r_ (jl_and 4 3 rfl rfl rfl rfl (nb rfl) ?_))))))))
    apply Exists.intro
    refine ⟨fun hb1 => ?_, ?_⟩
    exact ah_ r_ h_ b_ (bf_ r_ r_ r_ b_ (ah_ r_ h_ b_ (bg_ 0 r_ r_ r_ r_ (ah_ r_ h_ b_ (br_ r_ (fun hlen => ah_ r_ h_ b_ (bn_ r_ r_ (ak_ (jq_seg 4 rfl rfl rfl (List.Perm.refl _))))))))))
    refine M_ r_ (jl_and 4 9 rfl rfl rfl rfl (nb rfl) ?_)
    apply Exists.intro
    refine ⟨fun hb1 => ?_, ?_⟩
    exact ah_ r_ h_ b_ (bf_ r_ r_ r_ b_ (ah_ r_ h_ b_ (bg_ 0 r_ r_ r_ r_ (ah_ r_ h_ b_ (br_ r_ (fun hlen => ah_ r_ h_ b_ (bn_ r_ r_ (ak_ (jq_seg 4 rfl rfl rfl (List.Perm.refl _))))))))))
    refine M_ r_ (jl_and 1 15 rfl rfl rfl rfl (nb rfl) ?_)
    apply Exists.intro
    refine ⟨fun hb1 => ?_, ?_⟩
    exact ah_ r_ h_ b_ (bd_ r_ (ak_ (jq_seg 1 rfl rfl rfl (List.Perm.refl _))))
    refine M_ r_ (jl_and 1 18 rfl rfl rfl rfl (nb rfl) ?_)
    apply Exists.intro
    refine ⟨fun hb1 => ?_, ?_⟩
    exact ah_ r_ h_ b_ (bd_ r_ (ak_ (jq_seg 1 rfl rfl rfl (List.Perm.refl _))))
    refine E_ r_ (T_ (ar_ (az_ (aw_ (jq_bl 2 rfl (b' := rightB s) ?_ ?_)))))
    · rw [e, wrap0 (s.thn.map Sm.row).length (s.els.map Sm.row).length (by assumption) (by assumption), d1, d1, eI, eV, eT, eE]
    refine jq_ret1 rfl rfl [] rfl (fun K h => h)
  · have e : rightB s = _ := (if_neg (by omega)).trans ((if_neg (by omega)).trans (if_pos hk))
    refine R_ (o_ r_ (ci_ r_ (fun bx => E_ r_ (T_ (R_ (F_ r_ (L_ 0 r_ (o_ r_ (br_ r_ (fun hlen => F_ r_ (L_ 0 r_ (o_ r_ (br_ r_ (fun hlen => o_ r_ (ow_add r_ r_ (o_ r_ (bn_ r_ r_ (E_ r_ (T_ (R_ ?_))))))))))))))))))))
    refine F_ r_ (L_ 0 r_ (o_ r_ (bn_ r_ r_ (M_ r_ (jl_and 3 3 rfl rfl rfl rfl (nb rfl) ?_)))))
    apply Exists.intro
    refine ⟨fun hb1 => ?_, ?_⟩
    exact ah_ r_ h_ b_ (bf_ r_ r_ r_ b_ (ah_ r_ h_ b_ (bg_ 0 r_ r_ r_ r_ (ah_ r_ h_ b_ (bn_ r_ r_ (ak_ (jq_seg 3 rfl rfl rfl (List.Perm.refl _))))))))
    refine E_ r_ (T_ (am_ (R_ (F_ r_ (L_ 0 r_ (T_ (au_ (R_ (o_ r_ (bn_ r_ r_ (E_ r_ (T_ (ap_ r_ v_ (R_ (o_ r_ (bn_ r_ r_ (E_ r_ ?_)))))))))))))))))
    refine T_ (ap_ r_ v_ (R_ (o_ r_ (bn_ r_ r_ (E_ r_ (T_ (aq_ r_ u_ (R_ (F_ r_ (L_ 0 r_ (o_ r_ (cs_ r_ r_ (M_ r_ (jl_and 4 3 rfl rfl rfl rfl (nb rfl) ?_))))))))))))))
    apply Exists.intro
    refine ⟨fun hb1 => ?_, ?_⟩
    exact ah_ r_ h_ b_ (bf_ r_ r_ r_ b_ (ah_ r_ h_ b_ (bg_ 0 r_ r_ r_ r_ (ah_ r_ h_ b_ (br_ r_ (fun hlen => ah_ r_ h_ b_ (bn_ r_ r_ (ak_ (jq_seg 4 rfl rfl rfl (List.Perm.refl _))))))))))
    refine M_ r_ (jl_and 4 9 rfl rfl rfl rfl (nb rfl) ?_)
    apply Exists.intro
    refine ⟨fun hb1 => ?_, ?_⟩
    exact ah_ r_ h_ b_ (bf_ r_ r_ r_ b_ (ah_ r_ h_ b_ (bg_ 0 r_ r_ r_ r_ (ah_ r_ h_ b_ (br_ r_ (fun hlen => ah_ r_ h_ b_ (bn_ r_ r_ (ak_ (jq_seg 4 rfl rfl rfl (List.Perm.refl _))))))))))
    refine M_ r_ (jl_and 3 15 rfl rfl rfl rfl (nb rfl) ?_)
    apply Exists.intro
    refine ⟨fun hb1 => ?_, ?_⟩
    exact ah_ r_ h_ b_ (bf_ r_ r_ r_ b_ (ah_ r_ h_ b_ (bg_ 0 r_ r_ r_ r_ (ah_ r_ h_ b_ (bn_ r_ r_ (ak_ (jq_seg 3 rfl rfl rfl (List.Perm.refl _))))))))
    refine M_ r_ (jl_and 4 20 rfl rfl rfl rfl (nb rfl) ?_)
    apply Exists.intro
    refine ⟨fun hb1 => ?_, ?_⟩
    exact ah_ r_ h_ b_ (bf_ r_ r_ r_ b_ (ah_ r_ h_ b_ (bg_ 0 r_ r_ r_ r_ (ah_ r_ h_ b_ (bq_ r_ r_ b_ r_ r_ b_ (ah_ r_ h_ b_ (bm_ r_ (plainL_c [s.label]) (ak_ (jq_seg 4 rfl rfl rfl (List.Perm.refl _))))))))))
    refine E_ r_ (T_ (ar_ (az_ (aw_ (jq_bl 2 rfl (b' := rightB s) ?_ ?_)))))
    · rw [e, d0, d1, eI, eV]
      simp [Bool.and_assoc]
    refine jq_ret1 rfl rfl [] rfl (fun K h => h)
  · have e : rightB s = _ := (if_neg (by omega)).trans ((if_neg (by omega)).trans ((if_neg (by omega)).trans (if_pos hk)))
    refine R_ (o_ r_ (ci_ r_ (fun bx => E_ r_ (T_ (R_ (F_ r_ (L_ 0 r_ (o_ r_ (br_ r_ (fun hlen => F_ r_ (L_ 0 r_ (o_ r_ (br_ r_ (fun hlen => o_ r_ (ow_add r_ r_ (o_ r_ (bn_ r_ r_ (E_ r_ (T_ (R_ ?_))))))))))))))))))))
    refine F_ r_ (L_ 0 r_ (o_ r_ (bn_ r_ r_ (M_ r_ (jl_and 3 3 rfl rfl rfl rfl (nb rfl) ?_)))))
    apply Exists.intro
    refine ⟨fun hb1 => ?_, ?_⟩
    exact ah_ r_ h_ b_ (bf_ r_ r_ r_ b_ (ah_ r_ h_ b_ (bg_ 0 r_ r_ r_ r_ (ah_ r_ h_ b_ (bn_ r_ r_ (ak_ (jq_seg 3 rfl rfl rfl (List.Perm.refl _))))))))
    refine E_ r_ (T_ (am_ (R_ (F_ r_ (L_ 0 r_ (T_ (au_ (R_ (o_ r_ (bn_ r_ r_ (E_ r_ (T_ (ap_ r_ v_ (R_ (o_ r_ (bn_ r_ r_ (E_ r_ ?_)))))))))))))))))
    refine T_ (ap_ r_ v_ (R_ (o_ r_ (bn_ r_ r_ (E_ r_ (T_ (ap_ r_ v_ (R_ (o_ r_ (bn_ r_ r_ (E_ r_ (T_ (aq_ r_ u_ (R_ (F_ r_ (L_ 0 r_ (o_ r_ (cs_ r_ r_ ?_))))))))))))))))))
    refine M_ r_ (jl_and 4 3 rfl rfl rfl rfl (nb rfl) ?_)
    apply Exists.intro
    refine ⟨fun hb1 => ?_, ?_⟩
    exact ah_ r_ h_ b_ (bf_ r_ r_ r_ b_ (ah_ r_ h_ b_ (bg_ 0 r_ r_ r_ r_ (ah_ r_ h_ b_ (br_ r_ (fun hlen => ah_ r_ h_ b_ (bn_ r_ r_ (ak_ (jq_seg 4 rfl rfl rfl (List.Perm.refl _))))))))))
    refine M_ r_ (jl_and 4 9 rfl rfl rfl rfl (nb rfl) ?_)
    apply Exists.intro
    refine ⟨fun hb1 => ?_, ?_⟩
    exact ah_ r_ h_ b_ (bf_ r_ r_ r_ b_ (ah_ r_ h_ b_ (bg_ 0 r_ r_ r_ r_ (ah_ r_ h_ b_ (br_ r_ (fun hlen => ah_ r_ h_ b_ (bn_ r_ r_ (ak_ (jq_seg 4 rfl rfl rfl (List.Perm.refl _))))))))))
    refine M_ r_ (jl_and 6 15 rfl rfl rfl rfl (nb rfl) ?_)
    apply Exists.intro
    refine ⟨fun hb1 => ?_, ?_⟩
    exact ah_ r_ h_ b_ (bf_ r_ r_ r_ b_ (ah_ r_ h_ b_ (bg_ 0 r_ r_ r_ r_ (ah_ r_ h_ b_ (bf_ r_ r_ r_ b_ (ah_ r_ h_ b_ (bg_ 0 r_ r_ r_ r_ (ah_ r_ h_ b_ (bq_ r_ r_ b_ r_ r_ b_ (ah_ r_ h_ b_ (bm_ r_ (plainL_c [s.max, s.label]) (ak_ (jq_seg 6 rfl rfl rfl (List.Perm.refl _))))))))))))))
    refine M_ r_ (jl_and 4 23 rfl rfl rfl rfl (nb rfl) ?_)
    apply Exists.intro
    refine ⟨fun hb1 => ?_, ?_⟩
    exact ah_ r_ h_ b_ (bf_ r_ r_ r_ b_ (ah_ r_ h_ b_ (bg_ 0 r_ r_ r_ r_ (ah_ r_ h_ b_ (br_ r_ (fun hlen => ah_ r_ h_ b_ (bn_ r_ r_ (ak_ (jq_seg 4 rfl rfl rfl (List.Perm.refl _))))))))))
    refine E_ r_ (T_ (ar_ (az_ (aw_ (jq_bl 2 rfl (b' := rightB s) ?_ ?_)))))
    · rw [e, d0, d1, d0, eI, eV, eE]
      simp [Bool.and_assoc]
    refine jq_ret1 rfl rfl [] rfl (fun K h => h)
  · have e : rightB s = _ := (if_neg (by omega)).trans ((if_neg (by omega)).trans ((if_neg (by omega)).trans ((if_neg (by omega)).trans (if_pos hk))))
    refine R_ (o_ r_ (ci_ r_ (fun bx => E_ r_ (T_ (R_ (F_ r_ (L_ 0 r_ (o_ r_ (br_ r_ (fun hlen => F_ r_ (L_ 0 r_ (o_ r_ (br_ r_ (fun hlen => o_ r_ (ow_add r_ r_ (o_ r_ (bn_ r_ r_ (E_ r_ (T_ (R_ ?_))))))))))))))))))))
    refine F_ r_ (L_ 0 r_ (o_ r_ (bn_ r_ r_ (M_ r_ (jl_and 3 3 rfl rfl rfl rfl (nb rfl) ?_)))))
    apply Exists.intro
    refine ⟨fun hb1 => ?_, ?_⟩
    exact ah_ r_ h_ b_ (bf_ r_ r_ r_ b_ (ah_ r_ h_ b_ (bg_ 0 r_ r_ r_ r_ (ah_ r_ h_ b_ (bn_ r_ r_ (ak_ (jq_seg 3 rfl rfl rfl (List.Perm.refl _))))))))
    refine E_ r_ (T_ (am_ (R_ (F_ r_ (L_ 0 r_ (T_ (au_ (R_ (o_ r_ (bn_ r_ r_ (E_ r_ (T_ (ap_ r_ v_ (R_ (o_ r_ (bn_ r_ r_ (E_ r_ ?_)))))))))))))))))
    refine T_ (ap_ r_ v_ (R_ (o_ r_ (bn_ r_ r_ (E_ r_ (T_ (ap_ r_ v_ (R_ (o_ r_ (bn_ r_ r_ (E_ r_ (T_ (ap_ r_ v_ (R_ (o_ r_ (bn_ r_ r_ (E_ r_ (T_ ?_))))))))))))))))))
    refine aq_ r_ u_ (R_ (F_ r_ (L_ 0 r_ (o_ r_ (bm_ r_ (namedB_c _) (M_ r_ (jl_and 4 3 rfl rfl rfl rfl (nb rfl) ?_)))))))
    apply Exists.intro
    refine ⟨fun hb1 => ?_, ?_⟩
    exact ah_ r_ h_ b_ (bf_ r_ r_ r_ b_ (ah_ r_ h_ b_ (bg_ 0 r_ r_ r_ r_ (ah_ r_ h_ b_ (br_ r_ (fun hlen => ah_ r_ h_ b_ (bn_ r_ r_ (ak_ (jq_seg 4 rfl rfl rfl (List.Perm.refl _))))))))))
    refine M_ r_ (jl_and 4 9 rfl rfl rfl rfl (nb rfl) ?_)
    apply Exists.intro
    refine ⟨fun hb1 => ?_, ?_⟩
    exact ah_ r_ h_ b_ (bf_ r_ r_ r_ b_ (ah_ r_ h_ b_ (bg_ 0 r_ r_ r_ r_ (ah_ r_ h_ b_ (br_ r_ (fun hlen => ah_ r_ h_ b_ (bn_ r_ r_ (ak_ (jq_seg 4 rfl rfl rfl (List.Perm.refl _))))))))))
    refine M_ r_ (jl_and 1 15 rfl rfl rfl rfl (nb rfl) ?_)
    apply Exists.intro
    refine ⟨fun hb1 => ?_, ?_⟩
    exact ah_ r_ h_ b_ (bd_ r_ (ak_ (jq_seg 1 rfl rfl rfl (List.Perm.refl _))))
    refine M_ r_ (jl_and 4 18 rfl rfl rfl rfl (nb rfl) ?_)
    apply Exists.intro
    refine ⟨fun hb1 => ?_, ?_⟩
    exact ah_ r_ h_ b_ (bf_ r_ r_ r_ b_ (ah_ r_ h_ b_ (bg_ 0 r_ r_ r_ r_ (ah_ r_ h_ b_ (br_ r_ (fun hlen => ah_ r_ h_ b_ (bn_ r_ r_ (ak_ (jq_seg 4 rfl rfl rfl (List.Perm.refl _))))))))))
    refine E_ r_ (T_ (ar_ (az_ (aw_ (jq_bl 2 rfl (b' := rightB s) ?_ ?_)))))
    · rw [e, d0, d0, d0, eI, eV, eE]
    refine jq_ret1 rfl rfl [] rfl (fun K h => h)
  · have e : rightB s = false := (if_neg (by omega)).trans ((if_neg (by omega)).trans ((if_neg (by omega)).trans ((if_neg (by omega)).trans (if_neg (by omega)))))
    refine R_ (o_ r_ (ci_ r_ (fun bx => E_ r_ (T_ (R_ (F_ r_ (L_ 0 r_ (o_ r_ (br_ r_ (fun hlen => F_ r_ (L_ 0 r_ (o_ r_ (br_ r_ (fun hlen => o_ r_ (ow_add r_ r_ (o_ r_ (bn_ r_ r_ (E_ r_ (T_ (R_ ?_))))))))))))))))))))
    refine F_ r_ (L_ 0 r_ (o_ r_ (bn_ r_ r_ (M_ r_ (jl_and 3 3 rfl rfl rfl rfl (nb rfl) ?_)))))
    apply Exists.intro
    refine ⟨fun hb1 => ?_, ?_⟩
    exact ah_ r_ h_ b_ (bf_ r_ r_ r_ b_ (ah_ r_ h_ b_ (bg_ 0 r_ r_ r_ r_ (ah_ r_ h_ b_ (bn_ r_ r_ (ak_ (jq_seg 3 rfl rfl rfl (List.Perm.refl _))))))))
    refine E_ r_ (T_ (am_ (R_ (F_ r_ (L_ 0 r_ (T_ (au_ (R_ (o_ r_ (bn_ r_ r_ (E_ r_ (T_ (ap_ r_ v_ (R_ (o_ r_ (bn_ r_ r_ (E_ r_ ?_)))))))))))))))))
    refine T_ (ap_ r_ v_ (R_ (o_ r_ (bn_ r_ r_ (E_ r_ (T_ (ap_ r_ v_ (R_ (o_ r_ (bn_ r_ r_ (E_ r_ (T_ (ap_ r_ v_ (R_ (o_ r_ (bn_ r_ r_ (E_ r_ (T_ ?_))))))))))))))))))
    refine ap_ r_ v_ (as_ (ay_ (al_ (R_ (E_ r_ (T_ (ar_ (jq_ret1 rfl rfl [] rfl (fun K h => by rw [e] at h; exact h)))))))))
end Go.Proofs.YtalkkcfojplmdaaGreatDoor
end

section
namespace Go.Proofs.YtalkkcfojplmdaaGreatDoor
open Go.Vc
attribute [local irreducible] JL JC JQ OpWp Con ConN
set_option maxHeartbeats 4000000

abbrev NilV : Value := .slice none 0 0
theorem growE_c (n : Nat) (hn : n ≤ 1000000) : Con Tryz.prog 228 [.cell (.val NilV), In .i64 (n : Int)] [] (fun K => ∀ v : Value, True → K (.cell (.val v)) [.own v 69 5 []]) := by
  refine con_intro Tryz.func228 rfl rfl (Nat.le_of_ble_eq_true rfl) (fun c hc => ?_)
  by_cases h0 : 0 < n
  · refine R_ (E_ r_ (T_ (am_ (R_ (M_ r_ (o_ r_ (bw_ r_ r_ (T_ (ap_ r_ r_ (as_ (al_ (am_ (R_ (M_ r_ (M_ r_ (o_ r_ (ow_capNil r_ ?_)))))))))))))))))
    refine M_ r_ (o_ r_ (ow_lenNil r_ (o_ r_ (cg_ r_ r_ g_ (o_ r_ (cg_ r_ r_ g_ (E_ r_ (T_ (R_ (M_ r_ (o_ r_ (bz_ r_ r_ (T_ (aq_ r_ t_ (an_ (M_ r_ (M_ r_ (o_ r_ (ow_capNil r_ (o_ r_ (ow_trimNil r_ r_ ?_)))))))))))))))))))))
    refine M_ r_ (o_ r_ (ow_growNil n rfl rfl rfl rfl (by decide) rfl rfl g_ h0 (by show n * 64 ≤ _; omega) g_ (fun v _ _ => M_ r_ (o_ r_ (ow_lenNil r_ (o_ r_ (ow_trim 0 r_ r_ r_ g_ g_ (jl_trim 0 0 rfl (Nat.zero_le _) (E_ r_ (T_ (R_ (M_ r_ (E_ r_ (T_ (ar_ (jq_ret1 rfl rfl [0] rfl (fun K h => h _ trivial)))))))))))))))))
  · obtain rfl : n = 0 := by omega
    refine R_ (E_ r_ (T_ (am_ (R_ (M_ r_ (o_ r_ (bw_ r_ r_ (T_ (ap_ r_ r_ (as_ (al_ (am_ (R_ (M_ r_ (M_ r_ (o_ r_ (ow_capNil r_ ?_)))))))))))))))))
    refine M_ r_ (o_ r_ (ow_lenNil r_ (o_ r_ (cg_ r_ r_ g_ (o_ r_ (cg_ r_ r_ g_ (E_ r_ (T_ (R_ (M_ r_ (o_ r_ (bz_ r_ r_ (T_ (ap_ r_ r_ (as_ (al_ (R_ (M_ r_ (E_ r_ ?_)))))))))))))))))))
    refine T_ (ar_ (jq_ownNil 69 5 g_ (jq_ret1 rfl rfl [0] rfl (fun K h => h _ trivial))))
end Go.Proofs.YtalkkcfojplmdaaGreatDoor
end

section
namespace Go.Proofs.YtalkkcfojplmdaaGreatDoor
open Go.Vc
attribute [local irreducible] JL JC JQ OpWp Con ConN
set_option maxHeartbeats 4000000

theorem concatE_c (A B : List T) (hA : A.length ≤ 1000) (hB : B.length ≤ 1000) : Con Tryz.prog 187 [.cell (.list [[.list (A.map T.row)], [.list (B.map T.row)]])] [] (fun K => K (.cell (.list ((A ++ B).map T.row))) []) := by
  have eA : (A.map T.row).length = A.length := List.length_map _
  have eB : (B.map T.row).length = B.length := List.length_map _
  refine con_intro Tryz.func187 rfl rfl (Nat.le_of_ble_eq_true rfl) (fun c hc => R_ (E_ r_ (T_ (R_ (E_ r_ (T_ (am_ (R_ (M_ r_ (o_ r_ (br_ r_ (fun hlen => M_ r_ (T_ (jc_cut (ι := Unit) [] (fun _ => True) (fun _ => [(0, .cell (.list [[.list (A.map T.row)], [.list (B.map T.row)]])), (3, In .i64 ((A.length + B.length : Nat) : Int))]) (fun _ => []) ?_ ?_))))))))))))))
  · refine au_ (jc_loopS (ι := Nat × Nat) [] (fun i => (i.1 = 0 ∧ i.2 = 0) ∨ (i.1 = 1 ∧ i.2 = A.length) ∨ (i.1 = 2 ∧ i.2 = A.length + B.length)) (fun i => [(0, .cell (.list [[.list (A.map T.row)], [.list (B.map T.row)]])), (9, .cell (.list [[.list (A.map T.row)], [.list (B.map T.row)]])), (10, In .i64 2), (11, In .i64 (i.1 : Int)), (3, In .i64 (i.2 : Int))]) (fun _ => []) (fun i => 2 - i.1) (0, 0) (.inl ⟨rfl, rfl⟩) ?_ ?_ ?_)
    · exact sub_end
    · (repeat (first | exact True.intro | refine ⟨rfl, ?_⟩))
    rintro ⟨k, q⟩ hi
    dsimp only at hi ⊢
    rcases hi with ⟨rfl, rfl⟩ | ⟨rfl, rfl⟩ | ⟨rfl, rfl⟩
    · refine R_ (o_ r_ (bw_ r_ r_ (T_ (am_ (aq_ r_ r_ (as_ (al_ (B_ (R_ (o_ r_ (ow_indexAddr r_ r_ g_ r_ r_ b_ (o_ r_ (cb_ r_ r_ (E_ r_ (T_ (R_ (M_ r_ (M_ r_ ?_))))))))))))))))))
      refine o_ r_ (br_ r_ (fun hlen => o_ r_ (bj_ r_ r_ g_ (E_ r_ (T_ (R_ (M_ r_ (o_ r_ (bw_ r_ r_ (T_ (ap_ r_ r_ (as_ (ay_ (al_ (an_ (o_ r_ (bj_ r_ r_ g_ (M_ r_ (ak_ ?_)))))))))))))))))))
      rw [show ((0 : Nat) : Int) + ((A.map T.row).length : Int) = ((A.length : Nat) : Int) by omega]
      refine jq_againS (i := (0, 0)) (1, A.length) (.inr (.inl ⟨rfl, rfl⟩)) (by dsimp only; omega) ?_ ?_
      · exact sub_end
      · (repeat (first | exact True.intro | refine ⟨rfl, ?_⟩))
    · refine R_ (o_ r_ (bw_ r_ r_ (T_ (am_ (aq_ r_ r_ (as_ (al_ (B_ (R_ (o_ r_ (ow_indexAddr r_ r_ g_ r_ r_ b_ (o_ r_ (cb_ r_ r_ (E_ r_ (T_ (R_ (M_ r_ (M_ r_ ?_))))))))))))))))))
      refine o_ r_ (br_ r_ (fun hlen => o_ r_ (bj_ r_ r_ g_ (E_ r_ (T_ (R_ (M_ r_ (o_ r_ (bw_ r_ r_ (T_ (ap_ r_ r_ (as_ (ay_ (al_ (an_ (o_ r_ (bj_ r_ r_ g_ (M_ r_ (ak_ ?_)))))))))))))))))))
      rw [show ((A.length : Nat) : Int) + ((B.map T.row).length : Int) = ((A.length + B.length : Nat) : Int) by omega]
      refine jq_againS (i := (1, A.length)) (2, A.length + B.length) (.inr (.inr ⟨rfl, rfl⟩)) (by dsimp only; omega) ?_ ?_
      · exact sub_end
      · (repeat (first | exact True.intro | refine ⟨rfl, ?_⟩))
    · refine R_ (o_ r_ (bw_ r_ r_ (T_ (am_ (ap_ r_ r_ (av_ (ax_ (ax_ (ba_ (jq_cutS () trivial ?_ ?_))))))))))
      · exact sub_end
      · (repeat (first | exact True.intro | refine ⟨rfl, ?_⟩))
  · intro _ _
    refine R_ (M_ r_ (o_ r_ (bt_ [] rfl rfl (growE_c _ g_) (fun pp hpp => E_ r_ (T_ (am_ (R_ (M_ r_ (o_ r_ (br_ r_ (fun hlen => M_ r_ (T_ (au_ ?_)))))))))))))
    refine jc_loopS (ι := Nat × Value × List T) [] (fun i => (i.1 = 0 ∧ i.2.2 = []) ∨ (i.1 = 1 ∧ i.2.2 = A) ∨ (i.1 = 2 ∧ i.2.2 = A ++ B)) (fun i => [(25, .cell (.list [[.list (A.map T.row)], [.list (B.map T.row)]])), (26, In .i64 2), (27, In .i64 (i.1 : Int)), (6, .cell (.val i.2.1))]) (fun i => [.own i.2.1 69 5 (i.2.2.map T.row)]) (fun i => 2 - i.1) (0, pp, []) (.inl ⟨rfl, rfl⟩) ?_ ?_ ?_
    · exact bc_ 0 r_ sub_end
    · (repeat (first | exact True.intro | refine ⟨rfl, ?_⟩))
    rintro ⟨k, v, l⟩ hi
    dsimp only at hi ⊢
    rcases hi with ⟨rfl, hl⟩ | ⟨rfl, hl⟩ | ⟨rfl, hl⟩ <;> rw [hl] <;> clear hl
    · refine R_ (o_ r_ (bw_ r_ r_ (T_ (am_ (aq_ r_ r_ (as_ (al_ (B_ (R_ (o_ r_ (ow_indexAddr r_ r_ g_ r_ r_ b_ (o_ r_ (cb_ r_ r_ (E_ r_ (T_ (an_ (M_ r_ (M_ r_ ?_))))))))))))))))))
      refine o_ r_ (ow_appendM 0 (l1 := []) (l2 := A) rfl rfl rfl rfl rfl rfl rfl (fun x => by rw [T.row_eq] ; rfl) (by show (0 + _) * 64 ≤ _ ; omega) (by show 0 + _ ≤ _ ; omega) (fun v1 _ => E_ r_ (ak_ (ay_ (al_ (an_ (o_ r_ (bj_ r_ r_ g_ (M_ r_ (ak_ (jq_againS (i := (0, v, [])) (1, v1, A) (.inr (.inl ⟨rfl, rfl⟩)) (by dsimp only; omega) ?_ ?_)))))))))))
      · exact bc_ 0 r_ sub_end
      · (repeat (first | exact True.intro | refine ⟨rfl, ?_⟩))
    · refine R_ (o_ r_ (bw_ r_ r_ (T_ (am_ (aq_ r_ r_ (as_ (al_ (B_ (R_ (o_ r_ (ow_indexAddr r_ r_ g_ r_ r_ b_ (o_ r_ (cb_ r_ r_ (E_ r_ (T_ (an_ (M_ r_ (M_ r_ ?_))))))))))))))))))
      refine o_ r_ (ow_appendM 0 (l1 := A) (l2 := B) rfl rfl rfl rfl rfl rfl rfl (fun x => by rw [T.row_eq] ; rfl) (by show (_ + _) * 64 ≤ _ ; omega) g_ (fun v1 _ => E_ r_ (ak_ (ay_ (al_ (an_ (o_ r_ (bj_ r_ r_ g_ (M_ r_ (ak_ (jq_againS (i := (1, v, A)) (2, v1, A ++ B) (.inr (.inr ⟨rfl, rfl⟩)) (by dsimp only; omega) ?_ ?_)))))))))))
      · exact bc_ 0 r_ sub_end
      · (repeat (first | exact True.intro | refine ⟨rfl, ?_⟩))
    · refine R_ (o_ r_ (bw_ r_ r_ (T_ (am_ (ap_ r_ r_ (av_ (ax_ (ax_ (ba_ (al_ (R_ (M_ r_ (E_ r_ (T_ (ar_ (jq_freeze 2 0 rfl rfl (by rw [hc]; simp [hb]) ?_))))))))))))))))
      refine jq_ret1 rfl rfl [] rfl (fun K h => h)
theorem exprs_c (s : Sm) (hI : s.index.length ≤ 1000) (hV : s.value.length ≤ 1000) : Con Tryz.prog 139 [.row s.row'] [] (fun K => K (.cell (.list ((s.index ++ s.value).map T.row))) []) := by
  have hC := concatE_c s.index s.value hI hV
  refine con_intro Tryz.func139 rfl rfl (Nat.le_of_ble_eq_true rfl) (fun c hc => R_ (o_ r_ (ci_ r_ (fun bx => E_ r_ (T_ (R_ (F_ r_ (L_ 0 r_ (F_ r_ (L_ 0 r_ (o_ r_ (bq_ r_ r_ b_ r_ r_ b_ (o_ r_ (bm_ r_ (hC) (E_ r_ (T_ (ar_ (jq_ret1 rfl rfl [] rfl (fun K h => h)))))))))))))))))))
end Go.Proofs.YtalkkcfojplmdaaGreatDoor
end

section
namespace Go.Proofs.YtalkkcfojplmdaaGreatDoor
open Go.Vc
attribute [local irreducible] JL JC JQ OpWp Con ConN HOk
set_option maxHeartbeats 4000000

def fillF {α : Type} (M l : List (ByteArray × α)) : List (ByteArray × α) := l.foldl (fun M e => aset M e.1 e.2) M
theorem fill_snoc {α : Type} (M l : List (ByteArray × α)) (e : ByteArray × α) : fillF M (l ++ [e]) = aset (fillF M l) e.1 e.2 := by simp [fillF]
theorem fill_app {α : Type} (M l m : List (ByteArray × α)) : fillF M (l ++ m) = fillF (fillF M l) m := by simp [fillF]
theorem fill_has {α : Type} (k : ByteArray) : ∀ l M : List (ByteArray × α), (aget (fillF M l) k).isSome = ((aget M k).isSome || hasB (l.map (·.1)) k)
  | [], M => by simp [fillF, hasB]
  | e :: l, M => by
    show (aget (fillF (aset M e.1 e.2) l) k).isSome = _
    rw [fill_has k l, aget_aset, List.map_cons]
    have : hasB (e.1 :: l.map (·.1)) k = (decide (e.1 = k) || hasB (l.map (·.1)) k) := rfl
    rw [this]
    by_cases h : e.1 = k
    · rw [if_pos h, decide_eq_true h]; simp
    · rw [if_neg h, decide_eq_false h]; simp
theorem fill_new {α : Type} {l : List (ByteArray × α)} : ∀ k, k ≤ l.length → dupB ((l.take k).map (·.1)) = false → fillF [] (l.take k) = l.take k
  | 0, _, _ => rfl
  | k + 1, hk, h => by
    rw [List.take_succ_eq_append_getElem (by omega)] at h ⊢
    rw [List.map_append, List.map_cons, List.map_nil, dupB_snoc, Bool.or_eq_false_iff] at h
    rw [fill_snoc, fill_new k (by omega) h.1, aset_new]
    have := fill_has (α := α) l[k].1 (l.take k) []
    rw [fill_new k (by omega) h.1, h.2] at this
    simpa [aget] using this
theorem fill_len {α : Type} {l : List (ByteArray × α)} : ∀ k, k ≤ l.length → (fillF [] (l.take k)).length ≤ k ∧ ((fillF [] (l.take k)).length = k ↔ dupB ((l.take k).map (·.1)) = false)
  | 0, _ => ⟨Nat.le_refl _, fun _ => rfl, fun _ => rfl⟩
  | k + 1, hk => by
    obtain ⟨h1, h2⟩ := fill_len (l := l) k (by omega)
    rw [List.take_succ_eq_append_getElem (by omega), fill_snoc, aset_length, List.map_append, List.map_cons, List.map_nil, dupB_snoc, fill_has]
    simp only [aget, Option.isSome_none, Bool.false_or]
    cases hb : hasB ((l.take k).map (·.1)) l[k].1 with
    | true =>
      rw [if_pos rfl]
      refine ⟨by omega, fun h => by omega, fun h => ?_⟩
      rw [Bool.or_true] at h; cases h
    | false =>
      rw [if_neg (by decide), Bool.or_false]
      exact ⟨by omega, fun h => h2.1 g_, fun h => by rw [h2.2 h]⟩
theorem fill_dup {α : Type} (l : List (ByteArray × α)) : decide (((fillF [] l).length : Int) = (l.length : Int)) = !dupB (l.map (·.1)) := by
  have h := (fill_len (l := l) l.length (Nat.le_refl _)).2
  rw [List.take_of_length_le (Nat.le_refl _)] at h
  cases hd : dupB (l.map (·.1)) with
  | false => exact decide_eq_true (by rw [h.2 hd])
  | true =>
    refine decide_eq_false (fun h2 => ?_)
    rw [h.1 (by omega)] at hd; cases hd
theorem fill_id {α : Type} {l : List (ByteArray × α)} (h : dupB (l.map (·.1)) = false) : fillF [] l = l := by
  have := fill_new (l := l) l.length (Nat.le_refl _)
  rw [List.take_of_length_le (Nat.le_refl _)] at this
  exact this h
theorem aget_app {α : Type} (k : ByteArray) : ∀ l m : List (ByteArray × α), aget (l ++ m) k = if hasB (l.map (·.1)) k = true then aget l k else aget m k
  | [], m => rfl
  | e :: l, m => by
    rw [List.cons_append, aget, aget, aget_app k l m, List.map_cons]
    have : hasB (e.1 :: l.map (·.1)) k = (decide (e.1 = k) || hasB (l.map (·.1)) k) := rfl
    rw [this]
    by_cases h : e.1 = k
    · rw [if_pos h, if_pos h, decide_eq_true h]; rfl
    · rw [if_neg h, if_neg h, decide_eq_false h]; rfl
theorem aget_const {α : Type} (k : ByteArray) (v : α) : ∀ l : List ByteArray, aget (l.map (fun s => (s, v))) k = if hasB l k = true then some v else none
  | [] => rfl
  | e :: l => by
    rw [List.map_cons, aget, aget_const k v l]
    have : hasB (e :: l) k = (decide (e = k) || hasB l k) := rfl
    rw [this]
    by_cases h : e = k
    · rw [if_pos h, decide_eq_true h]; rfl
    · rw [if_neg h, decide_eq_false h]; rfl
/-- The names of a task, each with its kind. -/
def declL (sh : List Shd) (t : Tk) : List (ByteArray × Int) := (scaL t).map (fun s => (s, 1)) ++ (arrL sh t).map (fun s => (s, 2))
theorem decl_names (sh : List Shd) (t : Tk) : (declL sh t).map (·.1) = scaL t ++ arrL sh t := by simp [declL, List.map_map, Function.comp_def]
theorem decl_get {sh : List Shd} {t : Tk} (h : dupB (scaL t ++ arrL sh t) = false) (k : ByteArray) : decide ((aget (fillF [] (declL sh t)) k).getD 0 = 1) = hasB (scaL t) k ∧ decide ((aget (fillF [] (declL sh t)) k).getD 0 = 2) = hasB (arrL sh t) k := by
  rw [fill_id (by rw [decl_names]; exact h)]
  unfold declL
  rw [aget_app, aget_const, aget_const, List.map_map]
  have e1 : (scaL t).map ((fun x : ByteArray × Int => x.1) ∘ fun s => (s, 1)) = scaL t := by simp [Function.comp_def]
  rw [e1]
  cases h1 : hasB (scaL t) k with
  | true =>
    refine ⟨rfl, ?_⟩
    cases h2 : hasB (arrL sh t) k with
    | false => rfl
    | true =>
      have := dupB_nodup.1 h
      rw [List.nodup_append] at this
      exact absurd rfl (this.2.2 k (hasB_iff.1 h1) k (hasB_iff.1 h2))
  | false => cases h2 : hasB (arrL sh t) k <;> exact ⟨rfl, rfl⟩
mutual
/-- A statement, and those of its blocks. -/
def Sm.allq (q : Sm → Bool) : Sm → Bool
  | .mk k n i v m l t e => q (.mk k n i v m l t e) && Sm.alls q t && Sm.alls q e
def Sm.alls (q : Sm → Bool) : List Sm → Bool
  | [] => true
  | s :: l => s.allq q && Sm.alls q l
end
theorem Sm.alls_all (q : Sm → Bool) : ∀ l : List Sm, Sm.alls q l = l.all (fun s => q s && Sm.alls q s.thn && Sm.alls q s.els)
  | [] => rfl
  | s :: l => by
    rw [Sm.alls, Sm.alls_all q l, List.all_cons]
    cases s
    rfl
theorem all_cong {α : Type} {p q : α → Bool} : ∀ {l : List α}, (∀ x ∈ l, p x = q x) → l.all p = l.all q
  | [], _ => rfl
  | x :: l, h => by rw [List.all_cons, List.all_cons, h x (List.mem_cons_self ..), all_cong (fun y hy => h y (List.mem_cons_of_mem _ hy))]
theorem alls_eq {q : Sm → Bool} {A : List Sm → Bool} (hA : ∀ l, A l = l.all (fun s => q s && A s.thn && A s.els)) : ∀ l, A l = Sm.alls q l := by
  refine Sms.ind (fun l ih => ?_)
  rw [hA, Sm.alls_all]
  refine all_cong (fun s hs => ?_)
  obtain ⟨h1, h2⟩ := ih s hs
  rw [h1, h2]
theorem nmss_alls (vs ar rs : List ByteArray) (l : List Sm) : Sm.nmss vs ar rs l = Sm.alls (fun s => nmOne vs ar rs s && (s.index ++ s.value).all (useB vs ar)) l :=
  alls_eq (fun l => by rw [Sm.nmss_all]; exact all_cong (fun s _ => by rw [nms_eq])) l
theorem wdss_alls (l : List Sm) : Sm.wdss l = Sm.alls (fun s => decide (0 ≤ s.max) && decide (s.max ≤ 32) && (s.index ++ s.value).all wdT) l :=
  alls_eq (fun l => by rw [Sm.wdss_all]; exact all_cong (fun s _ => by rw [wds_eq])) l
/-- The names of an expression are as a map says. -/
def qM (M : List (ByteArray × Int)) (t : T) : Bool := (!decide (t.kind = 2) || decide ((aget M t.name).getD 0 = 1)) && (!decide (t.kind = 3) || decide ((aget M t.name).getD 0 = 2))
def useM (M : List (ByteArray × Int)) : T → Bool
  | .nu _ => true
  | .nm s => decide ((aget M s).getD 0 = 1)
  | .ix s t => decide ((aget M s).getD 0 = 2) && useM M t
  | .bn _ a b => useM M a && useM M b
theorem useM_eq (M : List (ByteArray × Int)) (t : T) : useM M t = (qM M t && t.args.all (useM M)) := by cases t <;> simp [useM, qM, T.kind, T.name, T.args] <;> rfl
theorem useM_B {M : List (ByteArray × Int)} {vs ar : List ByteArray} (h : ∀ s, decide ((aget M s).getD 0 = 1) = hasB vs s ∧ decide ((aget M s).getD 0 = 2) = hasB ar s) : ∀ t, useM M t = useB vs ar t
  | .nu _ => rfl
  | .nm s => (h s).1
  | .ix s t => by rw [useM, useB, (h s).2, useM_B h t]
  | .bn _ a b => by rw [useM, useB, useM_B h a, useM_B h b]
def nmM (M : List (ByteArray × Int)) (rs : List ByteArray) (s : Sm) : Bool := (if s.kind = 1 then decide ((aget M s.name).getD 0 = 1) else if s.kind = 2 then decide ((aget M s.name).getD 0 = 2) else if s.kind = 5 then hasB rs s.name else true) && (s.index ++ s.value).all (useM M)
theorem nmM_B {M : List (ByteArray × Int)} {vs ar rs : List ByteArray} (h : ∀ s, decide ((aget M s).getD 0 = 1) = hasB vs s ∧ decide ((aget M s).getD 0 = 2) = hasB ar s) (s : Sm) : nmM M rs s = (nmOne vs ar rs s && (s.index ++ s.value).all (useB vs ar)) := by
  unfold nmM nmOne
  rw [(h s.name).1, (h s.name).2, show useM M = useB vs ar from funext (useM_B h)]
theorem ctwice_c (l : List ByteArray) : Con Tryz.prog 93 [.cell (.list (l.map Wrow))] [] (fun K => K (Bl (dupB l)) []) := by
  refine con_intro Tryz.func93 rfl rfl (Nat.le_of_ble_eq_true rfl) (fun c hc => R_ (E_ r_ (T_ (R_ (o_ r_ (ow_makeMapE ByteArray Bool Value.bool (fun bm hbm => E_ r_ (T_ (am_ (R_ (M_ r_ (o_ r_ (br_ r_ (fun hlen => M_ r_ (T_ (au_ ?_))))))))))))))))
  refine jc_loopS (ι := Nat) [] (fun k => k ≤ (l).length ∧ dupB (l.take k) = false) (fun k => (9, In .i64 (k : Int)) :: [(3, .cell (.val (.map (some bm)))), (7, .cell (.list (l.map Wrow))), (8, In .i64 ((l.map Wrow).length : Int))]) (fun k => [.mapc bm (mapE Value.bool (fillF [] ((l.take k).map (fun s => (s, true)))))]) (fun k => (l).length - k) 0 ⟨Nat.zero_le _, rfl⟩ ?_ ?_ ?_
  · exact bc_ 0 r_ sub_end
  · (repeat (first | exact True.intro | refine ⟨rfl, ?_⟩))
  rintro k ⟨hk, hI⟩
  have eLk : ((l).map Wrow).length = (l).length := List.length_map _
  by_cases hltk : k < (l).length
  · have hltk2 : (k : Int) < (((l).map Wrow).length : Int) := by omega
    have hg : (aget (fillF [] ((l.take k).map (fun s => (s, true)))) l[k]).getD false = hasB (l.take k) l[k] := by
      have e1 : ((l.take k).map (fun s => (s, true))).map (·.1) = l.take k := by simp [List.map_map, Function.comp_def]
      rw [fill_id (by rw [e1]; exact hI), aget_const]
      cases hasB (l.take k) l[k] <;> rfl
    cases hh : hasB (l.take k) l[k] with
    | true =>
      rw [hh] at hg
      have hres : dupB l = true := dupB_yes hltk hh
      refine R_ (o_ r_ (bw_ r_ r_ (T_ (am_ (aq_ r_ u_ (as_ (al_ (B_ (R_ (o_ r_ (cc_ r_ r_ g_ r_ r_ b_ (o_ r_ (cb_ r_ r_ (E_ r_ (T_ (am_ (R_ (M_ r_ ?_))))))))))))))))))
      refine M_ r_ (o_ r_ (ow_mapGetOB (κ := ByteArray) (M := fillF [] ((l.take k).map (fun s => (s, true)))) 0 rfl rfl rfl rfl rfl (T_ (aq_ r_ h_ (R_ (E_ r_ (T_ (ar_ (aw_ (az_ (aw_ (aw_ (az_ (aw_ (jq_ret1 rfl rfl [] rfl (fun K h => by rw [hres] at h; exact h))))))))))))))))
    | false =>
      rw [hh] at hg
      have hI2 : dupB (l.take (k + 1)) = false := by rw [List.take_succ_eq_append_getElem hltk, dupB_snoc, hI, hh]; rfl
      refine R_ (o_ r_ (bw_ r_ r_ (T_ (am_ (aq_ r_ u_ (as_ (al_ (B_ (R_ (o_ r_ (cc_ r_ r_ g_ r_ r_ b_ (o_ r_ (cb_ r_ r_ (E_ r_ (T_ (am_ (R_ (M_ r_ ?_))))))))))))))))))
      refine M_ r_ (o_ r_ (ow_mapGetOB (κ := ByteArray) (M := fillF [] ((l.take k).map (fun s => (s, true)))) 0 rfl rfl rfl rfl rfl (T_ (ap_ r_ h_ (as_ (al_ (an_ (M_ r_ (M_ r_ (ag_ (ow_mapPut (κ := ByteArray) (vv := Value.bool) (M := fillF [] ((l.take k).map (fun s => (s, true)))) 0 rfl rfl rfl rfl rfl (ak_ (ay_ (al_ (an_ (o_ r_ (bj_ r_ r_ g_ (M_ r_ ?_))))))))))))))))))
      refine ak_ (jq_againS (i := k) (k + 1) ⟨hltk, hI2⟩ g_ ?_ ?_)
      · rw [List.take_succ_eq_append_getElem hltk, List.map_append, List.map_cons, List.map_nil, fill_snoc]
        exact bc_ 0 r_ sub_end
      · (repeat (first | exact True.intro | refine ⟨rfl, ?_⟩))
  · have hltk2 : ¬ (k : Int) < (((l).map Wrow).length : Int) := by omega
    rw [List.take_of_length_le (by omega)] at hI
    refine R_ (o_ r_ (bw_ r_ r_ (T_ (am_ (ap_ r_ w_ (av_ (ax_ (ax_ (ba_ (al_ (R_ (E_ r_ (T_ (ar_ (jq_ret1 rfl rfl [] rfl (fun K h => by rw [hI] at h; exact h))))))))))))))))
theorem declare1_c (bo bn bm : Nat) (M : List (ByteArray × Int)) (s : ByteArray) (k n : Int) (hn : 0 ≤ n ∧ n ≤ 1000000) : Con Tryz.prog 149 [Str s, In .i64 k, Ptr bo, Ptr bn] [.blk bo 143 [.val (.map (some bm))], .blk bn 3 [.val (.int .i64 (n))], .mapc bm (mapE (Value.int .i64) (M))] (fun K => K (.tup []) [.blk bo 143 [.val (.map (some bm))], .blk bn 3 [.val (.int .i64 (n + 1))], .mapc bm (mapE (Value.int .i64) (aset M s k))]) := by
  exact con_intro Tryz.func149 rfl rfl (Nat.le_of_ble_eq_true rfl) (fun c hc => R_ (L_ 0 r_ (M_ r_ (M_ r_ (ag_ (ow_mapPut (κ := ByteArray) (vv := Value.int .i64) (M := M) 2 r_ r_ r_ r_ r_ (T_ (an_ (L_ 2 r_ (o_ r_ (bj_ r_ r_ g_ (W_ 2 r_ (ak_ (jq_ret0S (.inr rfl) rfl (fun K h => h) (bc_ 2 r_ (bc_ 0 r_ (bc_ 0 r_ sub_end)))))))))))))))))
theorem decl_lists (p : Pg) (t : Tk) : (((([] ++ t.inputs.map (fun x => ((fun x : Inp => x.1) x, (1 : Int)))) ++ t.vars.map (fun x => ((fun x : ByteArray => x) x, (1 : Int)))) ++ t.arrays.map (fun x => ((fun x : Arr => x.1) x, (2 : Int)))) ++ p.shared.map (fun x => ((fun x : Shd => x.1) x, (2 : Int)))) = declL p.shared t := by
  simp [declL, scaL, arrL, List.map_map, Function.comp_def]
theorem declare_c (p : Pg) (t : Tk) (ht : TkSz t) (hsh : p.shared.length ≤ 1000) : Con Tryz.prog 97 [.row p.row, .row t.row] [] (fun K => K (.tup [.cell (.map (mapE (Value.int .i64) (fillF [] (declL p.shared t)))), Bl (!dupB (scaL t ++ arrL p.shared t))]) []) := by
  have e4 := decl_lists p t
  have z1 := ht.inputs
  have z2 := ht.vars
  have z3 := ht.arrays
  refine con_intro Tryz.func97 rfl rfl (Nat.le_of_ble_eq_true rfl) (fun c hc => R_ (o_ r_ (ci_ r_ (fun bx => o_ r_ (ci_ r_ (fun bx => E_ r_ (E_ r_ (T_ (R_ (o_ r_ (ow_makeMapE ByteArray Int (Value.int .i64) (fun bm hbm => o_ r_ (bl_ r_ r_ (fun bl => W_ 0 r_ (T_ (R_ (o_ r_ (bl_ r_ r_ (fun bl => W_ 0 r_ (T_ ?_))))))))))))))))))))
  refine R_ (o_ r_ (ow_makeFunc r_ (E_ r_ (T_ (am_ (R_ (F_ r_ (L_ 3 r_ (o_ r_ (br_ r_ (fun hlen => M_ r_ (T_ (au_ ?_)))))))))))))
  rename_i bp bo
  refine jc_loopS (ι := Nat × List (ByteArray × Int)) [] (fun i => i.1 ≤ (t.inputs).length ∧ i.2 = [] ++ ((t.inputs).take i.1).map (fun x => ((fun x : Inp => x.1) x, (1 : Int)))) (fun i => (22, In .i64 (i.1 : Int)) :: [(2, .cell (.val (.pointer (some ⟨bp, 0, none⟩)))), (3, .cell (.val (.pointer (some ⟨bx, 0, none⟩)))), (6, .cell (.val (.pointer (some ⟨bo, 0, none⟩)))), (7, .cell (.val (.pointer (some ⟨bl, 0, none⟩)))), (8, FC 149 [PV bo, PV bl]), (20, .cell (.list ((t.inputs).map InRow))), (21, In .i64 (((t.inputs).map InRow).length : Int))]) (fun i => [.blk bo 143 [.val (.map (some bm))], .blk bl 3 [.val (.int .i64 ((i.2).length : Int))], .mapc bm (mapE (Value.int .i64) (fillF [] (i.2))), .blk bp 31 p.row, .blk bx 39 t.row]) (fun i => (t.inputs).length - i.1) (0, []) ⟨Nat.zero_le _, by simp⟩ ?_ ?_ ?_
  · exact bc_ 1 r_ (bc_ 0 r_ (bc_ 0 r_ (bc_ 1 r_ (bc_ 0 r_ sub_end))))
  · (repeat (first | exact True.intro | refine ⟨rfl, ?_⟩))
  rintro ⟨k, D⟩ hz
  dsimp only at hz ⊢
  obtain ⟨hk, hD⟩ := hz
  have eLk : ((t.inputs).map InRow).length = (t.inputs).length := List.length_map _
  by_cases hltk : k < (t.inputs).length
  · have hltk2 : (k : Int) < (((t.inputs).map InRow).length : Int) := by omega
    have hDl := congrArg List.length hD
    simp only [List.length_append, List.length_map, List.length_take, List.length_nil] at hDl
    have c0 := declare1_c bo bl bm (fillF [] D) ((fun x : Inp => x.1) (t.inputs)[k]) 1 (D.length : Int) (by omega)
    refine R_ (o_ r_ (bw_ r_ r_ (T_ (am_ (aq_ r_ u_ (as_ (al_ (B_ (R_ (o_ r_ (cc_ r_ r_ g_ r_ r_ b_ (o_ r_ (cr_ r_ r_ r_ (o_ r_ (bl_ r_ r_ (fun bl => S_ 0 r_ (T_ (an_ (M_ r_ ?_)))))))))))))))))))
    refine F_ r_ (L_ 0 r_ (o_ r_ (ow_callc [1, 1, 1] r_ r_ r_ r_ c0 (ak_ (ay_ (al_ (an_ (o_ r_ (bj_ r_ r_ g_ (M_ r_ (ak_ (jq_againS (i := (k, D)) (k + 1, D ++ [(((fun x : Inp => x.1) (t.inputs)[k]), (1 : Int))]) ⟨hltk, by dsimp only; rw [hD, List.take_succ_eq_append_getElem hltk, List.map_append, List.append_assoc]; rfl⟩ (by dsimp only; omega) ?_ ?_))))))))))))
    · rw [fill_snoc, List.length_append, List.length_singleton, Int.natCast_add, Int.natCast_one]
      exact bc_ 0 r_ (bc_ 0 r_ (bc_ 0 r_ (bc_ 1 r_ (bc_ 1 r_ sub_end))))
    · (repeat (first | exact True.intro | refine ⟨rfl, ?_⟩))
  · have hltk2 : ¬ (k : Int) < (((t.inputs).map InRow).length : Int) := by omega
    rw [List.take_of_length_le (by omega)] at hD
    subst hD
    refine R_ (o_ r_ (bw_ r_ r_ (T_ (am_ (ap_ r_ w_ (av_ (ax_ (ax_ (ba_ (al_ (am_ (R_ (F_ r_ (L_ 4 r_ (o_ r_ (br_ r_ (fun hlen => M_ r_ ?_)))))))))))))))))
    refine T_ (au_ ?_)
    refine jc_loopS (ι := Nat × List (ByteArray × Int)) [] (fun i => i.1 ≤ (t.vars).length ∧ i.2 = ([] ++ t.inputs.map (fun x => ((fun x : Inp => x.1) x, (1 : Int)))) ++ ((t.vars).take i.1).map (fun x => ((fun x : ByteArray => x) x, (1 : Int)))) (fun i => (34, In .i64 (i.1 : Int)) :: [(2, .cell (.val (.pointer (some ⟨bp, 0, none⟩)))), (3, .cell (.val (.pointer (some ⟨bx, 0, none⟩)))), (6, .cell (.val (.pointer (some ⟨bo, 0, none⟩)))), (7, .cell (.val (.pointer (some ⟨bl, 0, none⟩)))), (8, FC 149 [PV bo, PV bl]), (32, .cell (.list ((t.vars).map Wrow))), (33, In .i64 (((t.vars).map Wrow).length : Int))]) (fun i => [.blk bo 143 [.val (.map (some bm))], .blk bl 3 [.val (.int .i64 ((i.2).length : Int))], .mapc bm (mapE (Value.int .i64) (fillF [] (i.2))), .blk bp 31 p.row, .blk bx 39 t.row]) (fun i => (t.vars).length - i.1) (0, ([] ++ t.inputs.map (fun x => ((fun x : Inp => x.1) x, (1 : Int))))) ⟨Nat.zero_le _, by simp⟩ ?_ ?_ ?_
    · exact bc_ 0 r_ (bc_ 0 r_ (bc_ 0 r_ (bc_ 0 r_ (bc_ 0 r_ sub_end))))
    · (repeat (first | exact True.intro | refine ⟨rfl, ?_⟩))
    rintro ⟨j, D⟩ hz
    dsimp only at hz ⊢
    obtain ⟨hj, hD⟩ := hz
    have eLj : ((t.vars).map Wrow).length = (t.vars).length := List.length_map _
    by_cases hltj : j < (t.vars).length
    · have hltj2 : (j : Int) < (((t.vars).map Wrow).length : Int) := by omega
      have hDl := congrArg List.length hD
      simp only [List.length_append, List.length_map, List.length_take, List.length_nil] at hDl
      have c0 := declare1_c bo bl bm (fillF [] D) ((fun x : ByteArray => x) (t.vars)[j]) 1 (D.length : Int) (by omega)
      refine R_ (o_ r_ (bw_ r_ r_ (T_ (am_ (aq_ r_ u_ (as_ (al_ (B_ (R_ (o_ r_ (cc_ r_ r_ g_ r_ r_ b_ (o_ r_ (cb_ r_ r_ (E_ r_ (T_ (an_ (M_ r_ (M_ r_ ?_))))))))))))))))))
      refine o_ r_ (ow_callc [0, 0, 0] r_ r_ r_ r_ c0 (ak_ (ay_ (al_ (an_ (o_ r_ (bj_ r_ r_ g_ (M_ r_ (ak_ (jq_againS (i := (j, D)) (j + 1, D ++ [(((fun x : ByteArray => x) (t.vars)[j]), (1 : Int))]) ⟨hltj, by dsimp only; rw [hD, List.take_succ_eq_append_getElem hltj, List.map_append, List.append_assoc]; rfl⟩ (by dsimp only; omega) ?_ ?_))))))))))
      · rw [fill_snoc, List.length_append, List.length_singleton, Int.natCast_add, Int.natCast_one]
        exact bc_ 0 r_ (bc_ 0 r_ (bc_ 0 r_ (bc_ 0 r_ (bc_ 0 r_ sub_end))))
      · (repeat (first | exact True.intro | refine ⟨rfl, ?_⟩))
    · have hltj2 : ¬ (j : Int) < (((t.vars).map Wrow).length : Int) := by omega
      rw [List.take_of_length_le (by omega)] at hD
      subst hD
      refine R_ (o_ r_ (bw_ r_ r_ (T_ (am_ (ap_ r_ w_ (av_ (ax_ (ax_ (ba_ (al_ (am_ (R_ (F_ r_ (L_ 4 r_ (o_ r_ (br_ r_ (fun hlen => M_ r_ ?_)))))))))))))))))
      refine T_ (au_ ?_)
      refine jc_loopS (ι := Nat × List (ByteArray × Int)) [] (fun i => i.1 ≤ (t.arrays).length ∧ i.2 = (([] ++ t.inputs.map (fun x => ((fun x : Inp => x.1) x, (1 : Int)))) ++ t.vars.map (fun x => ((fun x : ByteArray => x) x, (1 : Int)))) ++ ((t.arrays).take i.1).map (fun x => ((fun x : Arr => x.1) x, (2 : Int)))) (fun i => (45, In .i64 (i.1 : Int)) :: [(2, .cell (.val (.pointer (some ⟨bp, 0, none⟩)))), (3, .cell (.val (.pointer (some ⟨bx, 0, none⟩)))), (6, .cell (.val (.pointer (some ⟨bo, 0, none⟩)))), (7, .cell (.val (.pointer (some ⟨bl, 0, none⟩)))), (8, FC 149 [PV bo, PV bl]), (43, .cell (.list ((t.arrays).map ArRow))), (44, In .i64 (((t.arrays).map ArRow).length : Int))]) (fun i => [.blk bo 143 [.val (.map (some bm))], .blk bl 3 [.val (.int .i64 ((i.2).length : Int))], .mapc bm (mapE (Value.int .i64) (fillF [] (i.2))), .blk bp 31 p.row, .blk bx 39 t.row]) (fun i => (t.arrays).length - i.1) (0, (([] ++ t.inputs.map (fun x => ((fun x : Inp => x.1) x, (1 : Int)))) ++ t.vars.map (fun x => ((fun x : ByteArray => x) x, (1 : Int))))) ⟨Nat.zero_le _, by simp⟩ ?_ ?_ ?_
      · exact bc_ 0 r_ (bc_ 0 r_ (bc_ 0 r_ (bc_ 0 r_ (bc_ 0 r_ sub_end))))
      · (repeat (first | exact True.intro | refine ⟨rfl, ?_⟩))
      rintro ⟨l, D⟩ hz
      dsimp only at hz ⊢
      obtain ⟨hl, hD⟩ := hz
      have eLl : ((t.arrays).map ArRow).length = (t.arrays).length := List.length_map _
      by_cases hltl : l < (t.arrays).length
      · have hltl2 : (l : Int) < (((t.arrays).map ArRow).length : Int) := by omega
        have hDl := congrArg List.length hD
        simp only [List.length_append, List.length_map, List.length_take, List.length_nil] at hDl
        have c0 := declare1_c bo bl bm (fillF [] D) ((fun x : Arr => x.1) (t.arrays)[l]) 2 (D.length : Int) (by omega)
        refine R_ (o_ r_ (bw_ r_ r_ (T_ (am_ (aq_ r_ u_ (as_ (al_ (B_ (R_ (o_ r_ (cc_ r_ r_ g_ r_ r_ b_ (o_ r_ (cr_ r_ r_ r_ (o_ r_ (bl_ r_ r_ (fun bl => S_ 0 r_ (T_ (an_ (M_ r_ ?_)))))))))))))))))))
        refine F_ r_ (L_ 0 r_ (o_ r_ (ow_callc [1, 1, 1] r_ r_ r_ r_ c0 (ak_ (ay_ (al_ (an_ (o_ r_ (bj_ r_ r_ g_ (M_ r_ (ak_ (jq_againS (i := (l, D)) (l + 1, D ++ [(((fun x : Arr => x.1) (t.arrays)[l]), (2 : Int))]) ⟨hltl, by dsimp only; rw [hD, List.take_succ_eq_append_getElem hltl, List.map_append, List.append_assoc]; rfl⟩ (by dsimp only; omega) ?_ ?_))))))))))))
        · rw [fill_snoc, List.length_append, List.length_singleton, Int.natCast_add, Int.natCast_one]
          exact bc_ 0 r_ (bc_ 0 r_ (bc_ 0 r_ (bc_ 1 r_ (bc_ 1 r_ sub_end))))
        · (repeat (first | exact True.intro | refine ⟨rfl, ?_⟩))
      · have hltl2 : ¬ (l : Int) < (((t.arrays).map ArRow).length : Int) := by omega
        rw [List.take_of_length_le (by omega)] at hD
        subst hD
        refine R_ (o_ r_ (bw_ r_ r_ (T_ (am_ (ap_ r_ w_ (av_ (ax_ (ax_ (ba_ (al_ (am_ (R_ (F_ r_ (L_ 3 r_ (o_ r_ (br_ r_ (fun hlen => M_ r_ ?_)))))))))))))))))
        refine T_ (au_ ?_)
        refine jc_loopS (ι := Nat × List (ByteArray × Int)) [] (fun i => i.1 ≤ (p.shared).length ∧ i.2 = ((([] ++ t.inputs.map (fun x => ((fun x : Inp => x.1) x, (1 : Int)))) ++ t.vars.map (fun x => ((fun x : ByteArray => x) x, (1 : Int)))) ++ t.arrays.map (fun x => ((fun x : Arr => x.1) x, (2 : Int)))) ++ ((p.shared).take i.1).map (fun x => ((fun x : Shd => x.1) x, (2 : Int)))) (fun i => (57, In .i64 (i.1 : Int)) :: [(2, .cell (.val (.pointer (some ⟨bp, 0, none⟩)))), (3, .cell (.val (.pointer (some ⟨bx, 0, none⟩)))), (6, .cell (.val (.pointer (some ⟨bo, 0, none⟩)))), (7, .cell (.val (.pointer (some ⟨bl, 0, none⟩)))), (8, FC 149 [PV bo, PV bl]), (55, .cell (.list ((p.shared).map ShRow))), (56, In .i64 (((p.shared).map ShRow).length : Int))]) (fun i => [.blk bo 143 [.val (.map (some bm))], .blk bl 3 [.val (.int .i64 ((i.2).length : Int))], .mapc bm (mapE (Value.int .i64) (fillF [] (i.2))), .blk bp 31 p.row, .blk bx 39 t.row]) (fun i => (p.shared).length - i.1) (0, ((([] ++ t.inputs.map (fun x => ((fun x : Inp => x.1) x, (1 : Int)))) ++ t.vars.map (fun x => ((fun x : ByteArray => x) x, (1 : Int)))) ++ t.arrays.map (fun x => ((fun x : Arr => x.1) x, (2 : Int))))) ⟨Nat.zero_le _, by simp⟩ ?_ ?_ ?_
        · exact bc_ 0 r_ (bc_ 0 r_ (bc_ 0 r_ (bc_ 0 r_ (bc_ 0 r_ sub_end))))
        · (repeat (first | exact True.intro | refine ⟨rfl, ?_⟩))
        rintro ⟨m, D⟩ hz
        dsimp only at hz ⊢
        obtain ⟨hm, hD⟩ := hz
        have eLm : ((p.shared).map ShRow).length = (p.shared).length := List.length_map _
        by_cases hltm : m < (p.shared).length
        · have hltm2 : (m : Int) < (((p.shared).map ShRow).length : Int) := by omega
          have hDl := congrArg List.length hD
          simp only [List.length_append, List.length_map, List.length_take, List.length_nil] at hDl
          have c0 := declare1_c bo bl bm (fillF [] D) ((fun x : Shd => x.1) (p.shared)[m]) 2 (D.length : Int) (by omega)
          refine R_ (o_ r_ (bw_ r_ r_ (T_ (am_ (aq_ r_ u_ (as_ (al_ (B_ (R_ (o_ r_ (cc_ r_ r_ g_ r_ r_ b_ (o_ r_ (cr_ r_ r_ r_ (o_ r_ (bl_ r_ r_ (fun bl => S_ 0 r_ (T_ (an_ (M_ r_ ?_)))))))))))))))))))
          refine F_ r_ (F_ r_ (L_ 0 r_ (o_ r_ (ow_callc [1, 1, 1] r_ r_ r_ r_ c0 (ak_ (ay_ (al_ (an_ (o_ r_ (bj_ r_ r_ g_ (M_ r_ (ak_ (jq_againS (i := (m, D)) (m + 1, D ++ [(((fun x : Shd => x.1) (p.shared)[m]), (2 : Int))]) ⟨hltm, by dsimp only; rw [hD, List.take_succ_eq_append_getElem hltm, List.map_append, List.append_assoc]; rfl⟩ (by dsimp only; omega) ?_ ?_)))))))))))))
          · rw [fill_snoc, List.length_append, List.length_singleton, Int.natCast_add, Int.natCast_one]
            exact bc_ 0 r_ (bc_ 0 r_ (bc_ 0 r_ (bc_ 1 r_ (bc_ 1 r_ sub_end))))
          · (repeat (first | exact True.intro | refine ⟨rfl, ?_⟩))
        · have hltm2 : ¬ (m : Int) < (((p.shared).map ShRow).length : Int) := by omega
          rw [List.take_of_length_le (by omega)] at hD
          subst hD
          refine R_ (o_ r_ (bw_ r_ r_ (T_ (am_ (ap_ r_ w_ (av_ (ax_ (ax_ (ba_ (al_ (am_ (ao_ r_ r_ k_ k_ (yL_ 0 r_ (yL_ 0 r_ ?_))))))))))))))
          refine aa_ (fun c => ow_lenMapO (M := fillF [] ((((([] ++ t.inputs.map (fun x => ((fun x : Inp => x.1) x, (1 : Int)))) ++ t.vars.map (fun x => ((fun x : ByteArray => x) x, (1 : Int)))) ++ t.arrays.map (fun x => ((fun x : Arr => x.1) x, (2 : Int)))) ++ p.shared.map (fun x => ((fun x : Shd => x.1) x, (2 : Int)))))) 2 rfl rfl p_) (yL_ 1 r_ (aa_ (fun c => bn_ r_ r_ p_) (yE_ r_ (yE_ r_ (ae_ (al_ (ar_ ?_)))))))
          refine jq_freezeM 4 2 rfl rfl hbm ?_
          rw [e4]
          have hd := fill_dup (declL p.shared t)
          rw [decl_names] at hd
          exact jq_ret2S rfl rfl rfl (fun K h => by rw [← hd] at h; exact h) sub_end
end Go.Proofs.YtalkkcfojplmdaaGreatDoor
end

section
namespace Go.Proofs.YtalkkcfojplmdaaGreatDoor
open Go.Vc
attribute [local irreducible] JL JC JQ OpWp Con ConN HOk
set_option maxHeartbeats 4000000

abbrev OkC (b : Nat) (v : Bool) : Ch := .blk b 4 [.val (.bool v)]
abbrev NmC (b : Nat) (M : List (ByteArray × Int)) : Ch := .blk b 143 [.map (mapE (Value.int .i64) M)]
theorem uses1_c (bo bn : Nat) (M : List (ByteArray × Int)) (x : T) (v : Bool) : Con Tryz.prog 195 [.row x.row', Ptr bo, Ptr bn] [OkC bo v, NmC bn M] (fun K => K (.tup []) [OkC bo (v && qM M x), NmC bn M]) := by
  refine con_intro Tryz.func195 rfl rfl (Nat.le_of_ble_eq_true rfl) (fun c hc => ?_)
  by_cases hk2 : x.kind = 2
  · have hk3 : ¬ x.kind = 3 := by omega
    have hres : (v && qM M x) = (v && decide ((aget M x.name).getD 0 = 1)) := by unfold qM; rw [decide_eq_true hk2, decide_eq_false hk3]; cases v <;> simp
    cases v with
    | false =>
      refine R_ (o_ r_ (ci_ r_ (fun bx => T_ (R_ (F_ r_ (L_ 0 r_ (T_ (au_ (R_ (o_ r_ (bn_ r_ r_ (E_ r_ (T_ (aq_ r_ u_ (an_ (L_ 1 r_ (M_ r_ ?_)))))))))))))))))
      exact ai_ r_ r_ b_ (ai_ r_ r_ b_ (ai_ r_ r_ b_ (ai_ r_ r_ b_ (ai_ r_ r_ b_ (o_ r_ (bv_ r_ h_ r_ (W_ 1 r_ (ak_ (ay_ (jq_ret0S (.inr rfl) rfl (fun K h => by rw [hres] at h; exact h) (bc_ 0 r_ (bc_ 1 r_ sub_end))))))))))))
    | true =>
      refine R_ (o_ r_ (ci_ r_ (fun bx => T_ (R_ (F_ r_ (L_ 0 r_ (T_ (au_ (R_ (o_ r_ (bn_ r_ r_ (E_ r_ (T_ (aq_ r_ u_ (an_ (L_ 1 r_ (M_ r_ ?_)))))))))))))))))
      exact ah_ r_ r_ b_ (bg_ 2 r_ r_ r_ r_ (ah_ r_ r_ b_ (bf_ r_ r_ r_ b_ (ah_ r_ r_ b_ (bg_ 0 r_ r_ r_ r_ (ah_ r_ r_ b_ (ow_mapGetI (κ := ByteArray) (M := M) r_ r_ r_ r_ (ah_ r_ r_ b_ (bn_ r_ r_ (o_ r_ (bp_ r_ r_ r_ (W_ 1 r_ (ak_ (ay_ (jq_ret0S (.inr rfl) rfl (fun K h => by rw [hres] at h; exact h) (bc_ 0 r_ (bc_ 1 r_ sub_end)))))))))))))))))
  by_cases hk3 : x.kind = 3
  · have hres : (v && qM M x) = (v && decide ((aget M x.name).getD 0 = 2)) := by unfold qM; rw [decide_eq_true hk3, decide_eq_false hk2]; cases v <;> simp
    cases v with
    | false =>
      refine R_ (o_ r_ (ci_ r_ (fun bx => T_ (R_ (F_ r_ (L_ 0 r_ (T_ (au_ (R_ (o_ r_ (bn_ r_ r_ (E_ r_ (T_ (ap_ r_ w_ (R_ (o_ r_ (bn_ r_ r_ (E_ r_ ?_))))))))))))))))))
      refine T_ (aq_ r_ u_ (an_ (L_ 1 r_ (M_ r_ (ai_ r_ r_ b_ (ai_ r_ r_ b_ (ai_ r_ r_ b_ (ai_ r_ r_ b_ (ai_ r_ r_ b_ (o_ r_ (bv_ r_ h_ r_ (W_ 1 r_ (ak_ (ay_ (jq_ret0S (.inr rfl) rfl (fun K h => by rw [hres] at h; exact h) (bc_ 0 r_ ?_))))))))))))))))
      exact bc_ 1 r_ sub_end
    | true =>
      refine R_ (o_ r_ (ci_ r_ (fun bx => T_ (R_ (F_ r_ (L_ 0 r_ (T_ (au_ (R_ (o_ r_ (bn_ r_ r_ (E_ r_ (T_ (ap_ r_ w_ (R_ (o_ r_ (bn_ r_ r_ (E_ r_ ?_))))))))))))))))))
      refine T_ (aq_ r_ u_ (an_ (L_ 1 r_ (M_ r_ (ah_ r_ r_ b_ (bg_ 2 r_ r_ r_ r_ (ah_ r_ r_ b_ (bf_ r_ r_ r_ b_ (ah_ r_ r_ b_ (bg_ 0 r_ r_ r_ r_ (ah_ r_ r_ b_ (ow_mapGetI (κ := ByteArray) (M := M) r_ r_ r_ r_ (ah_ r_ r_ b_ (bn_ r_ r_ (o_ r_ (bp_ r_ r_ r_ (W_ 1 r_ (ak_ (ay_ (jq_ret0S (.inr rfl) rfl (fun K h => by rw [hres] at h; exact h) (bc_ 0 r_ ?_)))))))))))))))))))))
      exact bc_ 1 r_ sub_end
  · have hres : (v && qM M x) = (v && true) := by unfold qM; rw [decide_eq_false hk2, decide_eq_false hk3]; rfl
    cases v with
    | false =>
      refine R_ (o_ r_ (ci_ r_ (fun bx => T_ (R_ (F_ r_ (L_ 0 r_ (T_ (au_ (R_ (o_ r_ (bn_ r_ r_ (E_ r_ (T_ (ap_ r_ w_ (R_ (o_ r_ (bn_ r_ r_ (E_ r_ ?_))))))))))))))))))
      exact T_ (ap_ r_ w_ (as_ (ay_ (jq_ret0S (.inr rfl) rfl (fun K h => by rw [hres] at h; exact h) (bc_ 1 r_ (bc_ 1 r_ sub_end))))))
    | true =>
      refine R_ (o_ r_ (ci_ r_ (fun bx => T_ (R_ (F_ r_ (L_ 0 r_ (T_ (au_ (R_ (o_ r_ (bn_ r_ r_ (E_ r_ (T_ (ap_ r_ w_ (R_ (o_ r_ (bn_ r_ r_ (E_ r_ ?_))))))))))))))))))
      exact T_ (ap_ r_ w_ (as_ (ay_ (jq_ret0S (.inr rfl) rfl (fun K h => by rw [hres] at h; exact h) (bc_ 1 r_ (bc_ 1 r_ sub_end))))))
theorem uses_c (M : List (ByteArray × Int)) (t : T) : Con Tryz.prog 152 [.cell (.map (mapE (Value.int .i64) M)), .row t.row'] [] (fun K => K (Bl (useM M t)) []) := by
  refine con_intro Tryz.func152 rfl rfl (Nat.le_of_ble_eq_true rfl) (fun c hc => R_ (o_ r_ (cj_ r_ (fun bx => o_ r_ (ci_ r_ (fun bx => E_ r_ (T_ (R_ (o_ r_ (bl_ r_ r_ (fun bl => W_ 0 r_ (T_ (R_ (A_ 1 r_ (o_ r_ (ow_makeFunc r_ (o_ r_ (bi_ [0, 1] rfl rfl (parts1_c 195 [PV _, PV _] rfl _ _ _ (qM M) (useM M) (useM_eq M) (fun x v => uses1_c _ _ M x v) t true) (T_ (R_ ?_))))))))))))))))))))
  exact L_ 0 r_ (E_ r_ (T_ (ar_ (jq_ret1S rfl rfl (fun K h => h) sub_end))))
theorem statement1_c (bn : Nat) (M : List (ByteArray × Int)) (t : T) : Con Tryz.prog 151 [.row t.row', Ptr bn] [NmC bn M] (fun K => K (Bl (!useM M t)) [NmC bn M]) := by
  have hU := uses_c M t
  exact con_intro Tryz.func151 rfl rfl (Nat.le_of_ble_eq_true rfl) (fun c hc => R_ (o_ r_ (ci_ r_ (fun bx => E_ r_ (T_ (R_ (L_ 1 r_ (A_ 0 r_ (o_ r_ (bm_ r_ (hU) (o_ r_ (cd_ r_ (E_ r_ (T_ (ar_ (jq_ret1S rfl rfl (fun K h => h) (bc_ 1 r_ sub_end)))))))))))))))))
theorem not_any_not {α : Type} (p : α → Bool) : ∀ l : List α, (!l.any (fun x => !p x)) = l.all p
  | [] => rfl
  | x :: l => by rw [List.any_cons, List.all_cons, Bool.not_or, Bool.not_not, not_any_not p l]
theorem statement_c (M : List (ByteArray × Int)) (p : Pg) (s : Sm) (hI : s.index.length ≤ 1000) (hV : s.value.length ≤ 1000) : Con Tryz.prog 101 [.cell (.map (mapE (Value.int .i64) M)), .row p.row, .row s.row'] [] (fun K => K (Bl (nmM M p.res s)) []) := by
  have hE := exprs_c s hI hV
  have e0 : nmM M p.res s = ((if s.kind = 1 then decide ((aget M s.name).getD 0 = 1) else if s.kind = 2 then decide ((aget M s.name).getD 0 = 2) else if s.kind = 5 then hasB p.res s.name else true) && (s.index ++ s.value).all (useM M)) := rfl
  generalize s.index ++ s.value = A at hE e0
  have hT := not_any_not (useM M) A
  have hX := fun bn => hasEx1_c 151 [PV bn] rfl (NmC bn M) (fun x => !useM M x) A (fun x _ => statement1_c bn M x)
  refine con_intro Tryz.func101 rfl rfl (Nat.le_of_ble_eq_true rfl) (fun c hc => ?_)
  by_cases hk1 : s.kind = 1
  · have hk2 : ¬ s.kind = 2 := by omega
    have hk5 : ¬ s.kind = 5 := by omega
    rw [if_pos hk1] at e0
    by_cases hg : (aget M s.name).getD 0 = 1
    · have hg2 : ¬ (aget M s.name).getD 0 ≠ 1 := fun h => h hg
      rw [decide_eq_true hg, Bool.true_and] at e0
      refine R_ (o_ r_ (cj_ r_ (fun bx => o_ r_ (ci_ r_ (fun bx => o_ r_ (ci_ r_ (fun bx => E_ r_ (T_ (am_ (R_ (F_ r_ (L_ 0 r_ (T_ (au_ (R_ (o_ r_ (bn_ r_ r_ (E_ r_ (T_ ?_)))))))))))))))))))
      refine aq_ r_ u_ (R_ (L_ 2 r_ (F_ r_ (L_ 0 r_ (o_ r_ (ow_mapGetI (κ := ByteArray) (M := M) r_ r_ r_ r_ (o_ r_ (bx_ r_ r_ (T_ (ap_ r_ w_ (as_ (ay_ (al_ (R_ (A_ 0 r_ (o_ r_ (bm_ r_ (hE) (o_ r_ (ow_makeFunc r_ ?_)))))))))))))))))))
      exact o_ r_ (bi_ [2] r_ r_ (hX _) (o_ r_ (cd_ r_ (E_ r_ (T_ (ar_ (jq_ret1S rfl rfl (fun K h => by rw [e0, ← hT] at h; exact h) sub_end)))))))
    · rw [decide_eq_false hg, Bool.false_and] at e0
      refine R_ (o_ r_ (cj_ r_ (fun bx => o_ r_ (ci_ r_ (fun bx => o_ r_ (ci_ r_ (fun bx => E_ r_ (T_ (am_ (R_ (F_ r_ (L_ 0 r_ (T_ (au_ (R_ (o_ r_ (bn_ r_ r_ (E_ r_ (T_ ?_)))))))))))))))))))
      refine aq_ r_ u_ (R_ (L_ 2 r_ (F_ r_ (L_ 0 r_ (o_ r_ (ow_mapGetI (κ := ByteArray) (M := M) r_ r_ r_ r_ (o_ r_ (bx_ r_ r_ (T_ (aq_ r_ u_ (R_ (E_ r_ (T_ (ar_ (az_ (aw_ (jq_ret1 rfl rfl [] rfl (fun K h => by rw [e0] at h; exact h))))))))))))))))))
  by_cases hk2 : s.kind = 2
  · have hk5 : ¬ s.kind = 5 := by omega
    rw [if_neg hk1, if_pos hk2] at e0
    by_cases hg : (aget M s.name).getD 0 = 2
    · have hg2 : ¬ (aget M s.name).getD 0 ≠ 2 := fun h => h hg
      rw [decide_eq_true hg, Bool.true_and] at e0
      refine R_ (o_ r_ (cj_ r_ (fun bx => o_ r_ (ci_ r_ (fun bx => o_ r_ (ci_ r_ (fun bx => E_ r_ (T_ (am_ (R_ (F_ r_ (L_ 0 r_ (T_ (au_ (R_ (o_ r_ (bn_ r_ r_ (E_ r_ (T_ ?_)))))))))))))))))))
      refine ap_ r_ w_ (R_ (o_ r_ (bn_ r_ r_ (E_ r_ (T_ (aq_ r_ u_ (R_ (L_ 2 r_ (F_ r_ (L_ 0 r_ (o_ r_ (ow_mapGetI (κ := ByteArray) (M := M) r_ r_ r_ r_ (o_ r_ (bx_ r_ r_ (T_ (ap_ r_ w_ (as_ (ay_ ?_))))))))))))))))))
      exact al_ (R_ (A_ 0 r_ (o_ r_ (bm_ r_ (hE) (o_ r_ (ow_makeFunc r_ (o_ r_ (bi_ [2] r_ r_ (hX _) (o_ r_ (cd_ r_ (E_ r_ (T_ (ar_ (jq_ret1S rfl rfl (fun K h => by rw [e0, ← hT] at h; exact h) sub_end))))))))))))))
    · rw [decide_eq_false hg, Bool.false_and] at e0
      refine R_ (o_ r_ (cj_ r_ (fun bx => o_ r_ (ci_ r_ (fun bx => o_ r_ (ci_ r_ (fun bx => E_ r_ (T_ (am_ (R_ (F_ r_ (L_ 0 r_ (T_ (au_ (R_ (o_ r_ (bn_ r_ r_ (E_ r_ (T_ ?_)))))))))))))))))))
      refine ap_ r_ w_ (R_ (o_ r_ (bn_ r_ r_ (E_ r_ (T_ (aq_ r_ u_ (R_ (L_ 2 r_ (F_ r_ (L_ 0 r_ (o_ r_ (ow_mapGetI (κ := ByteArray) (M := M) r_ r_ r_ r_ (o_ r_ (bx_ r_ r_ (T_ (aq_ r_ u_ (R_ (E_ r_ ?_))))))))))))))))))
      refine T_ (ar_ (az_ (aw_ (jq_ret1 rfl rfl [] rfl (fun K h => by rw [e0] at h; exact h)))))
  by_cases hk5 : s.kind = 5
  · rw [if_neg hk1, if_neg hk2, if_pos hk5] at e0
    have hC : Con Tryz.prog 96 [.cell (.list (p.res.map Wrow)), Str s.name] [] (fun K => K (Bl (hasB p.res s.name)) []) := Contains_c p.res s.name
    cases hg : hasB p.res s.name with
    | true =>
      rw [hg] at hC
      rw [hg, Bool.true_and] at e0
      refine R_ (o_ r_ (cj_ r_ (fun bx => o_ r_ (ci_ r_ (fun bx => o_ r_ (ci_ r_ (fun bx => E_ r_ (T_ (am_ (R_ (F_ r_ (L_ 0 r_ (T_ (au_ (R_ (o_ r_ (bn_ r_ r_ (E_ r_ (T_ ?_)))))))))))))))))))
      refine ap_ r_ w_ (R_ (o_ r_ (bn_ r_ r_ (E_ r_ (T_ (ap_ r_ w_ (R_ (o_ r_ (bn_ r_ r_ (E_ r_ (T_ (aq_ r_ u_ (R_ (F_ r_ (L_ 1 r_ (F_ r_ (L_ 0 r_ ?_)))))))))))))))))
      refine o_ r_ (bm_ r_ (hC) (o_ r_ (cd_ r_ (T_ (ap_ r_ r_ (as_ (ay_ (al_ (R_ (A_ 0 r_ (o_ r_ (bm_ r_ (hE) (o_ r_ (ow_makeFunc r_ (o_ r_ (bi_ [2] r_ r_ (hX _) (o_ r_ (cd_ r_ (E_ r_ (T_ (ar_ ?_)))))))))))))))))))))
      exact jq_ret1S rfl rfl (fun K h => by rw [e0, ← hT] at h; exact h) sub_end
    | false =>
      rw [hg] at hC
      rw [hg, Bool.false_and] at e0
      refine R_ (o_ r_ (cj_ r_ (fun bx => o_ r_ (ci_ r_ (fun bx => o_ r_ (ci_ r_ (fun bx => E_ r_ (T_ (am_ (R_ (F_ r_ (L_ 0 r_ (T_ (au_ (R_ (o_ r_ (bn_ r_ r_ (E_ r_ (T_ ?_)))))))))))))))))))
      refine ap_ r_ w_ (R_ (o_ r_ (bn_ r_ r_ (E_ r_ (T_ (ap_ r_ w_ (R_ (o_ r_ (bn_ r_ r_ (E_ r_ (T_ (aq_ r_ u_ (R_ (F_ r_ (L_ 1 r_ (F_ r_ (L_ 0 r_ ?_)))))))))))))))))
      refine o_ r_ (bm_ r_ (hC) (o_ r_ (cd_ r_ (T_ (aq_ r_ r_ (R_ (E_ r_ (T_ (ar_ (az_ (aw_ (jq_ret1 rfl rfl [] rfl (fun K h => by rw [e0] at h; exact h)))))))))))))
  rw [if_neg hk1, if_neg hk2, if_neg hk5, Bool.true_and] at e0
  refine R_ (o_ r_ (cj_ r_ (fun bx => o_ r_ (ci_ r_ (fun bx => o_ r_ (ci_ r_ (fun bx => E_ r_ (T_ (am_ (R_ (F_ r_ (L_ 0 r_ (T_ (au_ (R_ (o_ r_ (bn_ r_ r_ (E_ r_ (T_ ?_)))))))))))))))))))
  refine ap_ r_ w_ (R_ (o_ r_ (bn_ r_ r_ (E_ r_ (T_ (ap_ r_ w_ (R_ (o_ r_ (bn_ r_ r_ (E_ r_ (T_ (ap_ r_ w_ (as_ (ay_ (al_ (R_ (A_ 0 r_ ?_)))))))))))))))))
  exact o_ r_ (bm_ r_ (hE) (o_ r_ (ow_makeFunc r_ (o_ r_ (bi_ [2] r_ r_ (hX _) (o_ r_ (cd_ r_ (E_ r_ (T_ (ar_ (jq_ret1S rfl rfl (fun K h => by rw [e0, ← hT] at h; exact h) sub_end)))))))))))
theorem called1_c (p : Pg) (bp : Nat) (x : Shd) : Con Tryz.prog 95 [.row (ShRow x), Ptr bp] [.blk bp 31 p.row] (fun K => K (Bl (!hasB p.res x.2.2)) [.blk bp 31 p.row]) := by
  have hC : Con Tryz.prog 96 [.cell (.list (p.res.map Wrow)), Str x.2.2] [] (fun K => K (Bl (hasB p.res x.2.2)) []) := Contains_c p.res x.2.2
  refine con_intro Tryz.func95 rfl rfl (Nat.le_of_ble_eq_true rfl) (fun c hc => R_ (o_ r_ (ci_ r_ (fun bx => E_ r_ (T_ (R_ (F_ r_ (L_ 1 r_ (F_ r_ (L_ 0 r_ (o_ r_ (bm_ r_ (hC) (o_ r_ (cd_ r_ (E_ r_ (T_ (ar_ (jq_ret1S rfl rfl (fun K h => h) ?_))))))))))))))))))
  exact bc_ 1 r_ sub_end
theorem called2_c (p : Pg) (bn bp : Nat) (M : List (ByteArray × Int)) (s : Sm) (hI : s.index.length ≤ 1000) (hV : s.value.length ≤ 1000) : Con Tryz.prog 100 [.row s.row', Ptr bn, Ptr bp] [NmC bn M, .blk bp 31 p.row] (fun K => K (Bl (nmM M p.res s)) [NmC bn M, .blk bp 31 p.row]) := by
  have hS := statement_c M p s hI hV
  exact con_intro Tryz.func100 rfl rfl (Nat.le_of_ble_eq_true rfl) (fun c hc => R_ (o_ r_ (ci_ r_ (fun bx => E_ r_ (T_ (R_ (L_ 1 r_ (A_ 2 r_ (A_ 0 r_ (o_ r_ (bm_ r_ (hS) (E_ r_ (T_ (ar_ (jq_ret1S rfl rfl (fun K h => h) (bc_ 1 r_ (bc_ 1 r_ sub_end)))))))))))))))))
/-- The input of a name; one of no name if there is none. -/
def inpF (l : List Inp) (nm : ByteArray) : Inp := (l.find? (fun x => decide (x.1 = nm))).getD (⟨#[]⟩, 0, 0)
theorem inp_yes {l : List Inp} {nm : ByteArray} {k : Nat} (h : k < l.length) (h0 : hasB ((l.take k).map (·.1)) nm = false) (h1 : l[k].1 = nm) : inpF l nm = l[k] ∧ hasB (l.map (·.1)) nm = true := by
  constructor
  · unfold inpF
    have hf : l.find? (fun x => decide (x.1 = nm)) = some l[k] := List.find?_eq_some_iff_getElem.2 ⟨decide_eq_true h1, k, h, rfl, fun j hj => by
      have := List.any_eq_false.1 h0 l[j].1 (List.mem_map_of_mem (by rw [List.mem_take_iff_getElem]; exact ⟨j, by omega, rfl⟩))
      simpa using this⟩
    rw [hf]; rfl
  · rw [hasB_iff, ← h1]
    exact List.mem_map_of_mem (List.getElem_mem h)
theorem inp_no {l : List Inp} {nm : ByteArray} (h0 : hasB (l.map (·.1)) nm = false) : inpF l nm = (⟨#[]⟩, 0, 0) := by
  unfold inpF
  have hf : l.find? (fun x => decide (x.1 = nm)) = none := List.find?_eq_none.2 (fun x hx => List.any_eq_false.1 h0 x.1 (List.mem_map_of_mem hx))
  rw [hf]; rfl
theorem input_c (t : Tk) (nm : ByteArray) : Con Tryz.prog 98 [.row t.row, Str nm] [] (fun K => K (.tup [.row (InRow (inpF t.inputs nm)), Bl (hasB (t.inputs.map (·.1)) nm)]) []) := by
  refine con_intro Tryz.func98 rfl rfl (Nat.le_of_ble_eq_true rfl) (fun c hc => R_ (o_ r_ (ci_ r_ (fun bx => o_ r_ (bl_ r_ r_ (fun bl => E_ r_ (T_ (am_ (R_ (F_ r_ (L_ 1 r_ (o_ r_ (br_ r_ (fun hlen => M_ r_ (T_ (au_ ?_))))))))))))))))
  refine jc_loopS (ι := Nat) [] (fun k => k ≤ (t.inputs).length ∧ hasB ((t.inputs.take k).map (·.1)) nm = false) (fun k => (11, In .i64 (k : Int)) :: [(1, Str nm), (4, .cell (.val (.pointer (some ⟨bl, 0, none⟩)))), (9, .cell (.list (t.inputs.map InRow))), (10, In .i64 ((t.inputs.map InRow).length : Int))]) (fun k => [.blk bl 92 [.val (.string ⟨#[]⟩), .val (.int .i64 0), .val (.int .i64 0)]]) (fun k => (t.inputs).length - k) 0 ⟨Nat.zero_le _, rfl⟩ ?_ ?_ ?_
  · exact bc_ 0 r_ sub_end
  · (repeat (first | exact True.intro | refine ⟨rfl, ?_⟩))
  rintro k ⟨hk, hI⟩
  have eLk : ((t.inputs).map InRow).length = (t.inputs).length := List.length_map _
  by_cases hltk : k < (t.inputs).length
  · have hltk2 : (k : Int) < (((t.inputs).map InRow).length : Int) := by omega
    by_cases he : (t.inputs[k]).1 = nm
    · obtain ⟨hr1, hr2⟩ := inp_yes hltk hI he
      refine R_ (o_ r_ (bw_ r_ r_ (T_ (am_ (aq_ r_ u_ (as_ (al_ (B_ (R_ (o_ r_ (cc_ r_ r_ g_ r_ r_ b_ (o_ r_ (cr_ r_ r_ r_ (o_ r_ (bl_ r_ r_ (fun bl => S_ 0 r_ (T_ (R_ (F_ r_ ?_)))))))))))))))))))
      refine L_ 0 r_ (M_ r_ (o_ r_ (cs_ r_ r_ (T_ (aq_ r_ u_ (R_ (A_ 0 r_ (S_ 1 r_ (E_ r_ (T_ (ar_ (az_ (aw_ (aw_ (az_ (aw_ ?_))))))))))))))))
      exact jq_retRowT rfl rfl rfl rfl rfl 0 rfl (fun K h => by rw [hr1, hr2] at h; exact h) sub_end
    · refine R_ (o_ r_ (bw_ r_ r_ (T_ (am_ (aq_ r_ u_ (as_ (al_ (B_ (R_ (o_ r_ (cc_ r_ r_ g_ r_ r_ b_ (o_ r_ (cr_ r_ r_ r_ (o_ r_ (bl_ r_ r_ (fun bl => S_ 0 r_ (T_ (R_ (F_ r_ ?_)))))))))))))))))))
      refine L_ 0 r_ (M_ r_ (o_ r_ (cs_ r_ r_ (T_ (ap_ r_ w_ (as_ (ay_ (al_ (an_ (o_ r_ (bj_ r_ r_ g_ (M_ r_ (ak_ (jq_againS (i := k) (k + 1) ⟨hltk, by rw [List.take_succ_eq_append_getElem hltk, List.map_append, List.map_cons, List.map_nil, hasB_app, hI, hasB_one, decide_eq_false he]; rfl⟩ g_ ?_ ?_))))))))))))))
      · exact bc_ 1 r_ sub_end
      · (repeat (first | exact True.intro | refine ⟨rfl, ?_⟩))
  · have hltk2 : ¬ (k : Int) < (((t.inputs).map InRow).length : Int) := by omega
    rw [List.take_of_length_le (by omega)] at hI
    have hr1 := inp_no hI
    have hr2 := hI
    refine R_ (o_ r_ (bw_ r_ r_ (T_ (am_ (ap_ r_ w_ (av_ (ax_ (ax_ (ba_ (al_ (R_ (o_ r_ (bu_ r_ r_ r_ r_ r_ (S_ 0 r_ (E_ r_ (T_ (ar_ ?_)))))))))))))))))
    exact jq_retRowT rfl rfl rfl rfl rfl 0 rfl (fun K h => by rw [hr1, hr2] at h; exact h) sub_end
end Go.Proofs.YtalkkcfojplmdaaGreatDoor
end

section
namespace Go.Proofs.YtalkkcfojplmdaaGreatDoor
open Go.Vc
attribute [local irreducible] JL JC JQ OpWp Con ConN HOk
set_option maxHeartbeats 4000000

theorem all_step {α : Type} {p : α → Bool} {l : List α} {k : Nat} {z : Bool} (h : k < l.length) : (z && (l.take (k + 1)).all p) = (z && (l.take k).all p && p l[k]) := by
  rw [List.take_succ_eq_append_getElem h, List.all_append, List.all_cons, List.all_nil, Bool.and_true, Bool.and_assoc]
theorem namT_M {p : Pg} {t : Tk} (h : dupB (scaL t ++ arrL p.shared t) = false) : Sm.nmss (scaL t) (arrL p.shared t) p.res t.body = Sm.alls (nmM (fillF [] (declL p.shared t)) p.res) t.body := by
  rw [nmss_alls]
  congr 1
  funext s
  exact (nmM_B (decl_get h) s).symm
theorem called_c (p : Pg) (hp : PgOk p) : Con Tryz.prog 51 [.row p.row] [] (fun K => K (Bl (namB p)) []) := by
  have hsz := hp.sz.shared
  have hsl := hp.sz.len
  refine con_intro Tryz.func51 rfl rfl (Nat.le_of_ble_eq_true rfl) (fun c hc => R_ (o_ r_ (ci_ r_ (fun bx => E_ r_ (T_ (R_ (E_ r_ (T_ (am_ (R_ (F_ r_ (L_ 0 r_ (o_ r_ (br_ r_ (fun hlen => M_ r_ (T_ (au_ ?_)))))))))))))))))
  refine jc_ownNil 9 1 g_ ?_
  refine jc_loopS (ι := Nat × Value × List _) [] (fun i => i.1 ≤ (p.tasks).length ∧ i.2.2 = ((p.tasks).take i.1).map (·.name)) (fun i => (18, In .i64 (i.1 : Int)) :: (3, .cell (.val i.2.1)) :: [(1, .cell (.val (.pointer (some ⟨bx, 0, none⟩)))), (16, .cell (.list (p.tasks.map Tk.row))), (17, In .i64 ((p.tasks.map Tk.row).length : Int))]) (fun i => (.own i.2.1 9 1 (i.2.2.map Wrow)) :: [.blk bx 31 p.row]) (fun i => (p.tasks).length - i.1) (0, .slice none 0 0, []) ⟨Nat.zero_le _, rfl⟩ ?_ ?_ ?_
  · exact bc_ 0 r_ (bc_ 0 r_ sub_end)
  · (repeat (first | exact True.intro | refine ⟨rfl, ?_⟩))
  rintro ⟨q, v, B⟩ hz
  dsimp only at hz ⊢
  obtain ⟨hq, hB⟩ := hz
  have eLq : ((p.tasks).map Tk.row).length = (p.tasks).length := List.length_map _
  by_cases hltq : q < (p.tasks).length
  · have hltq2 : (q : Int) < (((p.tasks).map Tk.row).length : Int) := by omega
    have hBl := congrArg List.length hB
    simp only [List.length_append, List.length_map, List.length_take] at hBl
    refine R_ (o_ r_ (bw_ r_ r_ (T_ (am_ (aq_ r_ u_ (as_ (al_ (B_ (R_ (o_ r_ (cc_ r_ r_ g_ r_ r_ b_ (o_ r_ (cr_ r_ r_ r_ (o_ r_ (bl_ r_ r_ (fun bl => S_ 0 r_ (T_ (an_ (M_ r_ ?_)))))))))))))))))))
    refine F_ r_ (L_ 0 r_ (o_ r_ (bq_ r_ r_ b_ r_ r_ b_ (o_ r_ (ow_append1 1 ((·.name) (p.tasks)[q]) rfl rfl rfl rfl rfl rfl rfl (fun _ => rfl) (by show (_ + _) * 16 ≤ _; first | omega | (simp only [List.length_append]; omega)) (by first | omega | (simp only [List.length_append]; omega)) (fun v1 hv1 => E_ r_ (ak_ (ay_ (al_ (an_ (o_ r_ (bj_ r_ r_ g_ (M_ r_ (ak_ ?_))))))))))))))
    refine jq_againS (i := (q, v, B)) (q + 1, v1, B ++ [(·.name) (p.tasks)[q]]) ⟨hltq, by dsimp only; rw [hB, List.take_succ_eq_append_getElem hltq, List.map_append]; simp only [List.append_assoc, List.map_cons, List.map_nil]⟩ (by dsimp only; omega) ?_ ?_
    · exact bc_ 0 r_ (bc_ 1 r_ sub_end)
    · (repeat (first | exact True.intro | refine ⟨rfl, ?_⟩))
  · have hltq2 : ¬ (q : Int) < (((p.tasks).map Tk.row).length : Int) := by omega
    rw [List.take_of_length_le (by omega)] at hB
    subst hB
    refine R_ (o_ r_ (bw_ r_ r_ (T_ (am_ (ap_ r_ w_ (av_ (ax_ (ax_ (ba_ (al_ (am_ (am_ (jc_freeze 3 0 rfl rfl (by rw [hc]; simp [hb]) ?_)))))))))))))
    have c1 := ctwice_c p.res
    have c2 := ctwice_c (p.tasks.map (·.name))
    have c3 := hasSh1_c 95 [PV bx] rfl (.blk bx 31 p.row) (fun x => !hasB p.res x.2.2) p.shared (fun x _ => called1_c p bx x)
    cases hd1 : dupB p.res with
    | true =>
      rw [hd1] at c1
      have hres : namB p = false := by unfold namB; rw [hd1]; rfl
      refine an_ (F_ r_ (L_ 0 r_ (o_ r_ (bm_ r_ (c1) (M_ r_ (ai_ r_ r_ b_ (ai_ r_ r_ b_ (o_ r_ (bp_ r_ r_ r_ (M_ r_ (ai_ r_ r_ b_ (ai_ r_ r_ b_ (ai_ r_ r_ b_ (ai_ r_ r_ b_ (o_ r_ (bp_ r_ r_ r_ (T_ (aq_ r_ r_ ?_))))))))))))))))))
      exact R_ (E_ r_ (T_ (ar_ (aw_ (jq_ret1S rfl rfl (fun K h => by rw [hres] at h; exact h) sub_end)))))
    | false =>
      rw [hd1] at c1
      cases hd2 : dupB (p.tasks.map (·.name)) with
      | true =>
        rw [hd2] at c2
        have hres : namB p = false := by unfold namB; rw [hd1, hd2]; rfl
        refine an_ (F_ r_ (L_ 0 r_ (o_ r_ (bm_ r_ (c1) (M_ r_ (ah_ r_ r_ b_ (bd_ r_ (ah_ r_ r_ b_ (bm_ r_ (c2) (o_ r_ (bv_ r_ r_ r_ (M_ r_ (ai_ r_ r_ b_ (ai_ r_ r_ b_ (ai_ r_ r_ b_ (ai_ r_ r_ b_ (o_ r_ (bp_ r_ r_ r_ (T_ (aq_ r_ r_ ?_))))))))))))))))))))
        exact R_ (E_ r_ (T_ (ar_ (aw_ (jq_ret1S rfl rfl (fun K h => by rw [hres] at h; exact h) sub_end)))))
      | false =>
        rw [hd2] at c2
        have hn3 := not_any_not (fun x : Shd => hasB p.res x.2.2) p.shared
        cases hd3 : p.shared.any (fun x => !hasB p.res x.2.2) with
        | true =>
          rw [hd3] at c3 hn3
          have hres : namB p = false := by unfold namB; rw [← hn3]; simp
          refine an_ (F_ r_ (L_ 0 r_ (o_ r_ (bm_ r_ (c1) (M_ r_ (ah_ r_ r_ b_ (bd_ r_ (ah_ r_ r_ b_ (bm_ r_ (c2) (o_ r_ (bv_ r_ r_ r_ (M_ r_ (ah_ r_ r_ b_ (bf_ r_ r_ r_ b_ (ah_ r_ r_ b_ (bg_ 0 r_ r_ r_ r_ (ah_ r_ r_ b_ (ow_makeFunc r_ (ah_ r_ r_ b_ (bi_ [0] r_ r_ c3 (o_ r_ (bv_ r_ r_ r_ (T_ (aq_ r_ r_ ?_))))))))))))))))))))))))
          exact R_ (E_ r_ (T_ (ar_ (aw_ (jq_ret1S rfl rfl (fun K h => by rw [hres] at h; exact h) sub_end)))))
        | false =>
          rw [hd3] at c3 hn3
          have h0 : namB p = p.tasks.all (namT p.res p.shared) := by unfold namB; rw [hd1, hd2, ← hn3]; rfl
          refine an_ (F_ r_ (L_ 0 r_ (o_ r_ (bm_ r_ (c1) (M_ r_ (ah_ r_ r_ b_ (bd_ r_ (ah_ r_ r_ b_ (bm_ r_ (c2) (o_ r_ (bv_ r_ r_ r_ (M_ r_ (ah_ r_ r_ b_ (bf_ r_ r_ r_ b_ (ah_ r_ r_ b_ (bg_ 0 r_ r_ r_ r_ (ah_ r_ r_ b_ (ow_makeFunc r_ (ah_ r_ r_ b_ (bi_ [0] r_ r_ c3 (o_ r_ (bv_ r_ r_ r_ (T_ (ap_ r_ r_ ?_))))))))))))))))))))))))
          refine as_ (al_ (am_ (R_ (F_ r_ (L_ 0 r_ (o_ r_ (br_ r_ (fun hlen => M_ r_ (T_ (au_ ?_))))))))))
          refine jc_loopS (ι := Nat) [] (fun k => k ≤ (p.tasks).length ∧ (p.tasks.take k).all (namT p.res p.shared) = true) (fun k => (44, In .i64 (k : Int)) :: [(1, .cell (.val (.pointer (some ⟨bx, 0, none⟩)))), (42, .cell (.list (p.tasks.map Tk.row))), (43, In .i64 ((p.tasks.map Tk.row).length : Int))]) (fun k => [.blk bx 31 p.row]) (fun k => (p.tasks).length - k) 0 ⟨Nat.zero_le _, rfl⟩ ?_ ?_ ?_
          · exact bc_ 0 r_ sub_end
          · (repeat (first | exact True.intro | refine ⟨rfl, ?_⟩))
          rintro k ⟨hk, hA⟩
          have eLk : ((p.tasks).map Tk.row).length = (p.tasks).length := List.length_map _
          by_cases hltk : k < (p.tasks).length
          · have hltk2 : (k : Int) < (((p.tasks).map Tk.row).length : Int) := by omega
            have zt := hp.sz.tasks _ (List.getElem_mem hltk)
            have z4 := zt.modes
            have cD := declare_c p (p.tasks[k]) zt hsz
            refine R_ (o_ r_ (bw_ r_ r_ (T_ (am_ (aq_ r_ u_ (as_ (al_ (B_ (R_ (o_ r_ (cc_ r_ r_ g_ r_ r_ b_ (o_ r_ (cr_ r_ r_ r_ (o_ r_ (bl_ r_ r_ (fun bl => S_ 0 r_ (T_ (R_ (A_ 1 r_ ?_)))))))))))))))))))
            refine A_ 0 r_ (o_ r_ (bm_ r_ (cD) (M_ r_ (X_ r_ (X_ r_ (o_ r_ (bl_ r_ r_ (fun bl => W_ 0 r_ (E_ r_ (T_ (R_ (E_ r_ (T_ (am_ (R_ (F_ r_ (L_ 1 r_ ?_)))))))))))))))))
            refine o_ r_ (br_ r_ (fun hlen => M_ r_ (T_ (au_ ?_))))
            rename_i bt
            refine jc_ownNil 9 1 g_ ?_
            refine jc_loopS (ι := Nat × Value × List ByteArray) [] (fun i => i.1 ≤ ((p.tasks[k]).modes).length ∧ i.2.2 = ((p.tasks[k]).modes.take i.1).map (·.1)) (fun i => (57, In .i64 (i.1 : Int)) :: (9, Bl (!dupB (scaL (p.tasks[k]) ++ arrL p.shared (p.tasks[k])) && ((p.tasks[k]).modes.take i.1).all (fun x => hasB ((p.tasks[k]).inputs.map (·.1)) x.2.1))) :: (10, .cell (.val i.2.1)) :: [(55, .cell (.list ((p.tasks[k]).modes.map MdRow))), (56, In .i64 (((p.tasks[k]).modes.map MdRow).length : Int)), (8, .cell (.val (.pointer (some ⟨bl, 0, none⟩)))), (7, .cell (.val (.pointer (some ⟨bt, 0, none⟩)))), (1, .cell (.val (.pointer (some ⟨bx, 0, none⟩)))), (42, .cell (.list (p.tasks.map Tk.row))), (43, In .i64 ((p.tasks.map Tk.row).length : Int)), (44, In .i64 (k : Int))]) (fun i => (.own i.2.1 9 1 (i.2.2.map Wrow)) :: [NmC bl (fillF [] (declL p.shared (p.tasks[k]))), .blk bt 39 (p.tasks[k]).row, .blk bx 31 p.row]) (fun i => ((p.tasks[k]).modes).length - i.1) (0, .slice none 0 0, []) ⟨Nat.zero_le _, rfl⟩ ?_ ?_ ?_
            · exact bc_ 0 r_ (bc_ 0 r_ (bc_ 0 r_ (bc_ 0 r_ sub_end)))
            · rw [show (!dupB (scaL (p.tasks[k]) ++ arrL p.shared (p.tasks[k])) && ((p.tasks[k]).modes.take 0).all (fun x => hasB ((p.tasks[k]).inputs.map (·.1)) x.2.1)) = !dupB (scaL (p.tasks[k]) ++ arrL p.shared (p.tasks[k])) by simp]
              (repeat (first | exact True.intro | refine ⟨rfl, ?_⟩))
            rintro ⟨m, v, B⟩ hz
            dsimp only at hz ⊢
            obtain ⟨hm, hB⟩ := hz
            have eLm : (((p.tasks[k]).modes).map MdRow).length = ((p.tasks[k]).modes).length := List.length_map _
            by_cases hltm : m < ((p.tasks[k]).modes).length
            · have hltm2 : (m : Int) < ((((p.tasks[k]).modes).map MdRow).length : Int) := by omega
              have hBl := congrArg List.length hB
              simp only [List.length_append, List.length_map, List.length_take] at hBl
              have cI := input_c (p.tasks[k]) ((p.tasks[k]).modes[m]).2.1
              refine R_ (o_ r_ (bw_ r_ r_ (T_ (am_ (aq_ r_ u_ (as_ (al_ (B_ (R_ (o_ r_ (cc_ r_ r_ g_ r_ r_ b_ (o_ r_ (cr_ r_ r_ r_ (o_ r_ (bl_ r_ r_ (fun bl => S_ 0 r_ (T_ (R_ (A_ 3 r_ ?_)))))))))))))))))))
              refine F_ r_ (L_ 0 r_ (o_ r_ (bm_ r_ (cI) (M_ r_ (X_ r_ (X_ r_ (o_ r_ (bl_ r_ r_ (fun bl => S_ 0 r_ (E_ r_ (T_ (R_ (M_ r_ (M_ r_ (jl_and 1 1 rfl rfl rfl rfl (nb rfl) ?_)))))))))))))))
              apply Exists.intro
              refine ⟨fun hb1 => ?_, ?_⟩
              exact ah_ r_ h_ b_ (bd_ r_ (ak_ (jq_seg 1 rfl rfl rfl (List.Perm.refl _))))
              refine E_ r_ (T_ (an_ (M_ r_ (F_ r_ (L_ 1 r_ (o_ r_ (bq_ r_ r_ b_ r_ r_ b_ (o_ r_ (ow_append1 2 (((p.tasks[k]).modes[m]).1) rfl rfl rfl rfl rfl rfl rfl (fun _ => rfl) (by show (_ + _) * 16 ≤ _; first | omega | (simp only [List.length_append]; omega)) (by first | omega | (simp only [List.length_append]; omega)) (fun v1 hv1 => E_ r_ (ak_ (ay_ (al_ (an_ (o_ r_ (bj_ r_ r_ g_ (M_ r_ (ak_ ?_))))))))))))))))))
              refine jq_againS (i := (m, v, B)) (m + 1, v1, B ++ [((p.tasks[k]).modes[m]).1]) ⟨hltm, by dsimp only; rw [hB, List.take_succ_eq_append_getElem hltm, List.map_append]; simp only [List.map_cons, List.map_nil]⟩ (by dsimp only; omega) ?_ ?_
              · exact bc_ 0 r_ (bc_ 2 r_ (bc_ 2 r_ (bc_ 2 r_ sub_end)))
              · rw [all_step hltm]
                (repeat (first | exact True.intro | refine ⟨rfl, ?_⟩))
            · have hltm2 : ¬ (m : Int) < ((((p.tasks[k]).modes).map MdRow).length : Int) := by omega
              rw [List.take_of_length_le (by omega)] at hB
              subst hB
              refine R_ (o_ r_ (bw_ r_ r_ (T_ (am_ (ap_ r_ w_ (av_ (ax_ (ax_ (ba_ (al_ (am_ (jc_freeze 10 0 rfl rfl (by rw [hc]; simp [hb]) ?_))))))))))))
              rw [List.take_of_length_le (by omega)]
              have cT1 := ctwice_c ((p.tasks[k]).modes.map (·.1))
              cases h4 : (p.tasks[k]).modes.all (fun x => hasB ((p.tasks[k]).inputs.map (·.1)) x.2.1) with
              | false =>
                rw [Bool.and_false]
                have hno : namT p.res p.shared (p.tasks[k]) = false := by unfold namT; rw [h4]; rfl
                have hres : namB p = false := by rw [h0]; exact all_no hltk hno
                refine an_ (M_ r_ (o_ r_ (cd_ r_ (M_ r_ (ai_ r_ r_ b_ (ai_ r_ r_ b_ (o_ r_ (bp_ r_ r_ r_ (M_ r_ (ai_ r_ r_ b_ (ai_ r_ r_ b_ (ai_ r_ r_ b_ (ai_ r_ r_ b_ (ai_ r_ r_ b_ (o_ r_ (bp_ r_ r_ r_ (T_ (aq_ r_ r_ ?_))))))))))))))))))
                exact R_ (E_ r_ (T_ (ar_ (az_ (aw_ (aw_ (az_ (aw_ (jq_ret1S rfl rfl (fun K h => by rw [hres] at h; exact h) sub_end)))))))))
              | true =>
                rw [Bool.and_true]
                cases h6 : dupB (scaL (p.tasks[k]) ++ arrL p.shared (p.tasks[k])) with
                | true =>
                  have hno : namT p.res p.shared (p.tasks[k]) = false := by unfold namT; rw [h4, h6]; simp
                  have hres : namB p = false := by rw [h0]; exact all_no hltk hno
                  refine an_ (M_ r_ (o_ r_ (cd_ r_ (M_ r_ (ai_ r_ r_ b_ (ai_ r_ r_ b_ (o_ r_ (bp_ r_ r_ r_ (M_ r_ (ai_ r_ r_ b_ (ai_ r_ r_ b_ (ai_ r_ r_ b_ (ai_ r_ r_ b_ (ai_ r_ r_ b_ (o_ r_ (bp_ r_ r_ r_ (T_ (aq_ r_ r_ ?_))))))))))))))))))
                  exact R_ (E_ r_ (T_ (ar_ (az_ (aw_ (aw_ (az_ (aw_ (jq_ret1S rfl rfl (fun K h => by rw [hres] at h; exact h) sub_end)))))))))
                | false =>
                  cases h5 : dupB ((p.tasks[k]).modes.map (·.1)) with
                  | true =>
                    rw [h5] at cT1
                    have hno : namT p.res p.shared (p.tasks[k]) = false := by unfold namT; rw [h4, h5]; rfl
                    have hres : namB p = false := by rw [h0]; exact all_no hltk hno
                    refine an_ (M_ r_ (o_ r_ (cd_ r_ (M_ r_ (ah_ r_ r_ b_ (bd_ r_ (ah_ r_ r_ b_ (bm_ r_ (cT1) (o_ r_ (bv_ r_ r_ r_ (M_ r_ (ai_ r_ r_ b_ (ai_ r_ r_ b_ (ai_ r_ r_ b_ (ai_ r_ r_ b_ (ai_ r_ r_ b_ (o_ r_ (bp_ r_ r_ r_ (T_ (aq_ r_ r_ ?_))))))))))))))))))))
                    exact R_ (E_ r_ (T_ (ar_ (az_ (aw_ (aw_ (az_ (aw_ (jq_ret1S rfl rfl (fun K h => by rw [hres] at h; exact h) sub_end)))))))))
                  | false =>
                    rw [h5] at cT1
                    have cE := fun bn bp => each2_c 100 [PV bn, PV bp] rfl (NmC bn (fillF [] (declL p.shared (p.tasks[k])))) (.blk bp 31 p.row) (nmM (fillF [] (declL p.shared (p.tasks[k]))) p.res) (Sm.alls (nmM (fillF [] (declL p.shared (p.tasks[k]))) p.res)) (Sm.alls_all _) (fun s z1 z2 => called2_c p bn bp (fillF [] (declL p.shared (p.tasks[k]))) s z1 z2) (p.tasks[k]).body (hp.ls _ (List.getElem_mem hltk))
                    cases h7 : Sm.alls (nmM (fillF [] (declL p.shared (p.tasks[k]))) p.res) (p.tasks[k]).body with
                    | false =>
                      rw [h7] at cE
                      have hno : namT p.res p.shared (p.tasks[k]) = false := by unfold namT; rw [h4, h5, h6, namT_M h6, h7]; rfl
                      have hres : namB p = false := by rw [h0]; exact all_no hltk hno
                      refine an_ (M_ r_ (o_ r_ (cd_ r_ (M_ r_ (ah_ r_ r_ b_ (bd_ r_ (ah_ r_ r_ b_ (bm_ r_ (cT1) (o_ r_ (bv_ r_ r_ r_ (M_ r_ (ah_ r_ r_ b_ (bf_ r_ r_ r_ b_ (ah_ r_ r_ b_ (bg_ 1 r_ r_ r_ r_ (ah_ r_ r_ b_ (ow_makeFunc r_ (ah_ r_ r_ b_ (bi_ [0, 1] r_ r_ (cE _ _) (ah_ r_ r_ b_ (cd_ r_ (o_ r_ (bv_ r_ r_ r_ (T_ (aq_ r_ r_ ?_)))))))))))))))))))))))))
                      exact R_ (E_ r_ (T_ (ar_ (az_ (aw_ (aw_ (az_ (aw_ (jq_ret1S rfl rfl (fun K h => by rw [hres] at h; exact h) sub_end)))))))))
                    | true =>
                      rw [h7] at cE
                      have hyes : namT p.res p.shared (p.tasks[k]) = true := by unfold namT; rw [h4, h5, h6, namT_M h6, h7]; rfl
                      refine an_ (M_ r_ (o_ r_ (cd_ r_ (M_ r_ (ah_ r_ r_ b_ (bd_ r_ (ah_ r_ r_ b_ (bm_ r_ (cT1) (o_ r_ (bv_ r_ r_ r_ (M_ r_ (ah_ r_ r_ b_ (bf_ r_ r_ r_ b_ (ah_ r_ r_ b_ (bg_ 1 r_ r_ r_ r_ (ah_ r_ r_ b_ (ow_makeFunc r_ (ah_ r_ r_ b_ (bi_ [0, 1] r_ r_ (cE _ _) (ah_ r_ r_ b_ (cd_ r_ (o_ r_ (bv_ r_ r_ r_ (T_ (ap_ r_ r_ ?_)))))))))))))))))))))))))
                      refine as_ (ay_ (al_ (an_ (o_ r_ (bj_ r_ r_ g_ (M_ r_ (ak_ (jq_againS (i := k) (k + 1) ⟨hltk, all_snoc hltk hA hyes⟩ g_ ?_ ?_))))))))
                      · exact bc_ 1 r_ sub_end
                      · (repeat (first | exact True.intro | refine ⟨rfl, ?_⟩))
          · have hltk2 : ¬ (k : Int) < (((p.tasks).map Tk.row).length : Int) := by omega
            rw [List.take_of_length_le (by omega)] at hA
            have hres : namB p = true := by rw [h0]; exact hA
            exact R_ (o_ r_ (bw_ r_ r_ (T_ (am_ (ap_ r_ w_ (av_ (ax_ (ax_ (ba_ (al_ (R_ (E_ r_ (T_ (ar_ (jq_ret1S rfl rfl (fun K h => by rw [hres] at h; exact h) sub_end)))))))))))))))
end Go.Proofs.YtalkkcfojplmdaaGreatDoor
end

section
namespace Go.Proofs.YtalkkcfojplmdaaGreatDoor
open Go.Vc
attribute [local irreducible] JL JC JQ OpWp Con ConN HOk
set_option maxHeartbeats 4000000

theorem cwithin_c (n lo hi : Int) : Con Tryz.prog 103 [In .i64 n, In .i64 lo, In .i64 hi] [] (fun K => K (Bl (decide (lo ≤ n) && decide (n ≤ hi))) []) := by
  refine con_intro Tryz.func103 rfl rfl (Nat.le_of_ble_eq_true rfl) (fun c hc => R_ (E_ r_ (T_ (R_ (M_ r_ (M_ r_ (o_ r_ (cn_ r_ r_ (M_ r_ (jl_and 3 3 rfl rfl rfl rfl (nb rfl) ?_))))))))))
  apply Exists.intro
  refine ⟨fun hb1 => ?_, ?_⟩
  exact ah_ r_ h_ b_ (bd_ r_ (ah_ r_ h_ b_ (bd_ r_ (ah_ r_ h_ b_ (cu_ r_ r_ (ak_ (jq_seg 3 rfl rfl rfl (List.Perm.refl _))))))))
  refine E_ r_ (T_ (ar_ (jq_ret1 rfl rfl [] rfl (fun K h => h))))
theorem and_size {n : Int} (h : 1 ≤ n ∧ n ≤ 16) : decide (andW n (n - 1) = 0) = sizeB n := by
  have : n = 1 ∨ n = 2 ∨ n = 3 ∨ n = 4 ∨ n = 5 ∨ n = 6 ∨ n = 7 ∨ n = 8 ∨ n = 9 ∨ n = 10 ∨ n = 11 ∨ n = 12 ∨ n = 13 ∨ n = 14 ∨ n = 15 ∨ n = 16 := by omega
  rcases this with rfl | rfl | rfl | rfl | rfl | rfl | rfl | rfl | rfl | rfl | rfl | rfl | rfl | rfl | rfl | rfl <;> decide +kernel
theorem csize_c (n : Int) : Con Tryz.prog 102 [In .i64 n] [] (fun K => K (Bl (sizeB n)) []) := by
  have hW := cwithin_c n 1 16
  refine con_intro Tryz.func102 rfl rfl (Nat.le_of_ble_eq_true rfl) (fun c hc => ?_)
  by_cases h : 1 ≤ n ∧ n ≤ 16
  · have hA := and_size h
    rw [decide_eq_true h.1, decide_eq_true h.2, Bool.and_true] at hW
    refine R_ (E_ r_ (T_ (R_ (M_ r_ (o_ r_ (bm_ r_ (hW) (M_ r_ (ah_ r_ r_ b_ (bd_ r_ (ah_ r_ r_ b_ (bd_ r_ (ah_ r_ r_ b_ (cg_ r_ r_ g_ (ah_ r_ r_ b_ (ow_and64 r_ r_ (ah_ r_ r_ b_ (bn_ r_ r_ (o_ r_ (bp_ r_ r_ r_ (E_ r_ (T_ (ar_ ?_))))))))))))))))))))))
    refine jq_ret1 rfl rfl [] rfl (fun K h => by rw [← hA] at h; exact h)
  · have hw : (decide (1 ≤ n) && decide (n ≤ 16)) = false := by
      simp only [Bool.and_eq_false_iff, decide_eq_false_iff_not]
      omega
    have hres : sizeB n = false := by
      unfold sizeB
      simp only [Bool.or_eq_false_iff, decide_eq_false_iff_not]
      omega
    rw [hw] at hW
    refine R_ (E_ r_ (T_ (R_ (M_ r_ (o_ r_ (bm_ r_ (hW) (M_ r_ (ai_ r_ r_ b_ (ai_ r_ r_ b_ (ai_ r_ r_ b_ (ai_ r_ r_ b_ (ai_ r_ r_ b_ (o_ r_ (bv_ r_ r_ r_ (E_ r_ (T_ (ar_ ?_)))))))))))))))))
    refine jq_ret1 rfl rfl [] rfl (fun K h => by rw [hres] at h; exact h)
theorem wordIs_c (n : Int) : Con Tryz.prog 126 [In .i64 n] [] (fun K => K (Bl (decide (-2147483648 ≤ n) && decide (n < 2147483648))) []) := by
  have e : (decide (-2147483648 ≤ n) && decide (n < 2147483648)) = (decide (n ≥ -2147483648) && decide (n ≤ 2147483647)) := by
    congr 1
    rw [decide_eq_decide]
    omega
  rw [e]
  refine con_intro Tryz.func126 rfl rfl (Nat.le_of_ble_eq_true rfl) (fun c hc => R_ (E_ r_ (T_ (R_ (M_ r_ (o_ r_ (cn_ r_ r_ (M_ r_ (jl_and 2 2 rfl rfl rfl rfl (nb rfl) ?_)))))))))
  apply Exists.intro
  refine ⟨fun hb1 => ?_, ?_⟩
  exact ah_ r_ h_ b_ (bd_ r_ (ah_ r_ h_ b_ (cu_ r_ r_ (ak_ (jq_seg 2 rfl rfl rfl (List.Perm.refl _))))))
  refine E_ r_ (T_ (ar_ (jq_ret1 rfl rfl [] rfl (fun K h => h))))
def wdq (x : T) : Bool := decide (-2147483648 ≤ x.num) && decide (x.num < 2147483648)
theorem words1_c (bo : Nat) (x : T) (v : Bool) : Con Tryz.prog 154 [.row x.row', Ptr bo] [OkC bo v] (fun K => K (.tup []) [OkC bo (v && wdq x)]) := by
  have hW := wordIs_c x.num
  have e : wdq x = (decide (-2147483648 ≤ x.num) && decide (x.num < 2147483648)) := rfl
  rw [← e] at hW
  refine con_intro Tryz.func154 rfl rfl (Nat.le_of_ble_eq_true rfl) (fun c hc => ?_)
  cases v with
  | false =>
    exact R_ (o_ r_ (ci_ r_ (fun bx => T_ (an_ (L_ 1 r_ (M_ r_ (ai_ r_ r_ b_ (ai_ r_ r_ b_ (ai_ r_ r_ b_ (o_ r_ (bv_ r_ r_ r_ (W_ 1 r_ (ak_ (jq_ret0S (.inr rfl) rfl (fun K h => h) (bc_ 0 r_ sub_end)))))))))))))))
  | true =>
    exact R_ (o_ r_ (ci_ r_ (fun bx => T_ (an_ (L_ 1 r_ (M_ r_ (ah_ r_ r_ b_ (bf_ r_ r_ r_ b_ (ah_ r_ r_ b_ (bg_ 0 r_ r_ r_ r_ (ah_ r_ r_ b_ (bm_ r_ (hW) (o_ r_ (bp_ r_ r_ r_ (W_ 1 r_ (ak_ (jq_ret0S (.inr rfl) rfl (fun K h => by rw [Bool.true_and] at h; exact h) (bc_ 0 r_ sub_end))))))))))))))))))
def wdsq (s : Sm) : Bool := decide (0 ≤ s.max) && decide (s.max ≤ 32) && (s.index ++ s.value).all wdT
theorem cwords_c (s : Sm) (hI : s.index.length ≤ 1000) (hV : s.value.length ≤ 1000) : Con Tryz.prog 104 [.row s.row'] [] (fun K => K (Bl (wdsq s)) []) := by
  have hE := exprs_c s hI hV
  have hW := cwithin_c s.max 0 32
  have e0 : wdsq s = (decide (0 ≤ s.max) && decide (s.max ≤ 32) && (s.index ++ s.value).all wdT) := rfl
  generalize s.index ++ s.value = A at hE e0
  generalize (decide (0 ≤ s.max) && decide (s.max ≤ 32)) = z at hW e0
  refine con_intro Tryz.func104 rfl rfl (Nat.le_of_ble_eq_true rfl) (fun c hc => R_ (o_ r_ (ci_ r_ (fun bx => E_ r_ (T_ (R_ (F_ r_ (L_ 0 r_ (o_ r_ (bm_ r_ (hW) (o_ r_ (bl_ r_ r_ (fun bl => W_ 0 r_ (T_ (am_ (R_ (A_ 1 r_ (o_ r_ (bm_ r_ (hE) ?_)))))))))))))))))))
  refine o_ r_ (br_ r_ (fun hlen => M_ r_ (T_ (au_ (jc_loopS (ι := Nat) [] (fun k => k ≤ (A).length) (fun k => (12, In .i64 (k : Int)) :: [(3, .cell (.val (.pointer (some ⟨bl, 0, none⟩)))), (10, .cell (.list (A.map T.row))), (11, In .i64 ((A.map T.row).length : Int))]) (fun k => [OkC bl (z && (A.take k).all wdT)]) (fun k => (A).length - k) 0 (Nat.zero_le _) ?_ ?_ ?_)))))
  · rw [show (z && (A.take 0).all wdT) = z by simp]
    exact bc_ 0 r_ sub_end
  · (repeat (first | exact True.intro | refine ⟨rfl, ?_⟩))
  rintro k hk
  have eLk : ((A).map T.row).length = (A).length := List.length_map _
  by_cases hltk : k < (A).length
  · have hltk2 : (k : Int) < (((A).map T.row).length : Int) := by omega
    have hP := parts0_c 154 [PV bl] rfl bl 4 wdq wdT wdT_eq (fun x v => words1_c bl x v) A[k] (z && (A.take k).all wdT)
    refine R_ (o_ r_ (bw_ r_ r_ (T_ (am_ (aq_ r_ u_ (as_ (al_ (B_ (R_ (o_ r_ (cc_ r_ r_ g_ (T.row_eq _) r_ b_ (o_ r_ (cr_ r_ r_ r_ (o_ r_ (bl_ r_ r_ (fun bl => S_ 0 r_ (T_ (an_ (A_ 0 r_ ?_)))))))))))))))))))
    refine o_ r_ (ow_makeFunc r_ (o_ r_ (bi_ [1] r_ r_ hP (ak_ (ay_ (al_ (an_ (o_ r_ (bj_ r_ r_ g_ (M_ r_ (ak_ (jq_againS (i := k) (k + 1) hltk g_ ?_ ?_))))))))))))
    · rw [all_step hltk]
      exact bc_ 0 r_ sub_end
    · (repeat (first | exact True.intro | refine ⟨rfl, ?_⟩))
  · have hltk2 : ¬ (k : Int) < (((A).map T.row).length : Int) := by omega
    rw [List.take_of_length_le (by omega), ← e0]
    exact R_ (o_ r_ (bw_ r_ r_ (T_ (am_ (ap_ r_ w_ (av_ (ax_ (ax_ (ba_ (al_ (R_ (L_ 0 r_ (E_ r_ (T_ (ar_ (jq_ret1S rfl rfl (fun K h => h) sub_end))))))))))))))))
/-- The ranges of a mode, by the input of its name. -/
def ranM1 (ins : List Inp) (m : Md) : Bool := decide (m.2.2.1 ≤ m.2.2.2) && decide ((inpF ins m.2.1).2.1 ≤ m.2.2.1) && decide (m.2.2.2 ≤ (inpF ins m.2.1).2.2)
def ranT1 (t : Tk) : Bool := (decide (1 ≤ t.period) && decide (t.period ≤ 1048576)) && (decide (1 ≤ t.deadline) && decide (t.deadline ≤ t.period)) && (decide (1 ≤ t.priority) && decide (t.priority ≤ 15)) && (decide (0 ≤ t.jitter) && decide (t.jitter ≤ t.period)) && t.arrays.all (fun a => sizeB a.2) && t.inputs.all (fun x => decide (x.2.1 ≤ x.2.2)) && t.modes.all (ranM1 t.inputs) && Sm.alls wdsq t.body
def ranB1 (p : Pg) : Bool := p.shared.all (fun s => sizeB s.2.1) && p.tasks.all ranT1
theorem ranM_1 {ins : List Inp} {m : Md} (hd : dupB (ins.map (·.1)) = false) (hm : hasB (ins.map (·.1)) m.2.1 = true) : ranM1 ins m = ranM ins m := by
  unfold ranM1 ranM
  have hmem := hasB_iff.1 hm
  obtain ⟨x, hx, hxn⟩ := List.mem_map.1 hmem
  obtain ⟨i, hi, rfl⟩ := List.mem_iff_getElem.1 hx
  have hnd := dupB_nodup.1 hd
  have huniq : ∀ j (hj : j < ins.length), ins[j].1 = m.2.1 → j = i := fun j hj hjn => by
    have := (List.getElem_inj (i := j) (j := i) hnd (h₀ := by rw [List.length_map]; exact hj) (h₁ := by rw [List.length_map]; exact hi)).1 (by rw [List.getElem_map, List.getElem_map, hjn, hxn])
    exact this
  have h0 : hasB ((ins.take i).map (·.1)) m.2.1 = false := by
    rw [← Bool.not_eq_true, hasB_iff]
    intro hh
    obtain ⟨y, hy, hyn⟩ := List.mem_map.1 hh
    obtain ⟨j, hj, rfl⟩ := List.mem_take_iff_getElem.1 hy
    have := huniq j (by omega) hyn
    omega
  rw [(inp_yes hi h0 hxn).1]
  cases hr : (decide (m.2.2.1 ≤ m.2.2.2) && decide (ins[i].2.1 ≤ m.2.2.1) && decide (m.2.2.2 ≤ ins[i].2.2)) with
  | true =>
    symm
    rw [List.all_eq_true]
    intro y hy
    obtain ⟨j, hj, rfl⟩ := List.mem_iff_getElem.1 hy
    by_cases hyn : ins[j].1 = m.2.1
    · obtain rfl := huniq j hj hyn
      rw [hr, Bool.or_true]
    · rw [decide_eq_false hyn]; rfl
  | false =>
    symm
    rw [List.all_eq_false]
    refine ⟨ins[i], hx, ?_⟩
    rw [hr, decide_eq_true hxn]
    decide
theorem ranT_1 {p : Pg} {t : Tk} (h : namT p.res p.shared t = true) : ranT1 t = ranT t := by
  unfold namT at h
  simp only [Bool.and_eq_true, Bool.not_eq_true'] at h
  obtain ⟨⟨⟨hm, _⟩, hd⟩, _⟩ := h
  have hd2 : dupB (t.inputs.map (·.1)) = false := by
    rw [dupB_nodup] at hd ⊢
    exact (List.nodup_append.1 (List.nodup_append.1 hd).1).1
  have e1 : t.modes.all (ranM1 t.inputs) = t.modes.all (ranM t.inputs) := all_cong (fun m hmm => ranM_1 hd2 (List.all_eq_true.1 hm m hmm))
  have e2 : Sm.alls wdsq t.body = Sm.wdss t.body := by rw [wdss_alls]; rfl
  unfold ranT1 ranT
  rw [e1, e2]
  generalize t.arrays.all (fun a => sizeB a.2) = a1
  generalize t.inputs.all (fun x => decide (x.2.1 ≤ x.2.2)) = a2
  generalize t.modes.all (ranM t.inputs) = a3
  generalize Sm.wdss t.body = a4
  generalize decide (1 ≤ t.period) = c1
  generalize decide (t.period ≤ 1048576) = c2
  generalize decide (1 ≤ t.deadline) = c3
  generalize decide (t.deadline ≤ t.period) = c4
  generalize decide (1 ≤ t.priority) = c5
  generalize decide (t.priority ≤ 15) = c6
  generalize decide (0 ≤ t.jitter) = c7
  generalize decide (t.jitter ≤ t.period) = c8
  rw [Bool.eq_iff_iff]
  simp only [Bool.and_eq_true]
  constructor <;> (intro h; simp_all)
theorem ranB_1 {p : Pg} (h : namB p = true) : ranB1 p = ranB p := by
  unfold namB at h
  simp only [Bool.and_eq_true] at h
  unfold ranB1 ranB
  rw [all_cong (fun t ht => ranT_1 (List.all_eq_true.1 h.2 t ht))]
theorem cranged_c (p : Pg) (hp : PgOk p) : Con Tryz.prog 52 [.row p.row] [] (fun K => K (Bl (ranB1 p)) []) := by
  refine con_intro Tryz.func52 rfl rfl (Nat.le_of_ble_eq_true rfl) (fun c hc => R_ (o_ r_ (ci_ r_ (fun bx => E_ r_ (T_ (am_ (R_ (F_ r_ (L_ 0 r_ (o_ r_ (br_ r_ (fun hlen => M_ r_ (T_ (au_ ?_))))))))))))))
  refine jc_loopS (ι := Nat) [] (fun j => j ≤ (p.shared).length ∧ ((p.shared).take j).all (fun s => sizeB s.2.1) = true) (fun j => (18, In .i64 (j : Int)) :: [(1, .cell (.val (.pointer (some ⟨bx, 0, none⟩)))), (16, .cell (.list (p.shared.map ShRow))), (17, In .i64 ((p.shared.map ShRow).length : Int))]) (fun j => [.blk bx 31 p.row]) (fun j => (p.shared).length - j) 0 ⟨Nat.zero_le _, rfl⟩ ?_ ?_ ?_
  · exact bc_ 0 r_ sub_end
  · (repeat (first | exact True.intro | refine ⟨rfl, ?_⟩))
  rintro j ⟨hj, hI⟩
  have eLj : ((p.shared).map ShRow).length = (p.shared).length := List.length_map _
  by_cases hltj : j < (p.shared).length
  · have hltj2 : (j : Int) < (((p.shared).map ShRow).length : Int) := by omega
    refine R_ (o_ r_ (bw_ r_ r_ (T_ (am_ (aq_ r_ u_ (as_ (al_ (B_ (R_ (o_ r_ (cc_ r_ r_ g_ r_ r_ b_ (o_ r_ (cr_ r_ r_ r_ (o_ r_ (bl_ r_ r_ (fun bl => S_ 0 r_ (T_ (R_ (F_ r_ ?_)))))))))))))))))))
    refine F_ r_ (L_ 0 r_ (o_ r_ (bm_ r_ (csize_c _) (o_ r_ (cd_ r_ (T_ (jc_cond rfl (fun hn => ?_) (fun hy => ?_))))))))
    · have hp : (fun s => sizeB s.2.1) (p.shared)[j] = false := by
        simpa using hn
      have hno : (p.shared).all (fun s => sizeB s.2.1) = false := all_no hltj hp
      have hres : ranB1 p = false := by
        unfold ranB1
        rw [hno]; rfl
      exact R_ (E_ r_ (T_ (ar_ (az_ (aw_ (aw_ (az_ (aw_ (jq_ret1S rfl rfl (fun K h => by rw [hres] at h; exact h) sub_end)))))))))
    · have hp : (fun s => sizeB s.2.1) (p.shared)[j] = true := by
        simpa using hy
      refine as_ (ay_ (al_ (an_ (o_ r_ (bj_ r_ r_ g_ (M_ r_ (ak_ (jq_againS (i := j) (j + 1) ⟨hltj, all_snoc hltj hI hp⟩ g_ ?_ ?_))))))))
      · exact bc_ 1 r_ sub_end
      · (repeat (first | exact True.intro | refine ⟨rfl, ?_⟩))
  · have hltj2 : ¬ (j : Int) < (((p.shared).map ShRow).length : Int) := by omega
    rw [List.take_of_length_le (by omega)] at hI
    have h0 : ranB1 p = p.tasks.all ranT1 := by unfold ranB1; rw [hI]; rfl
    refine R_ (o_ r_ (bw_ r_ r_ (T_ (am_ (ap_ r_ w_ (av_ (ax_ (ax_ (ba_ (al_ (am_ (R_ (F_ r_ (L_ 0 r_ (o_ r_ (br_ r_ (fun hlen => M_ r_ ?_)))))))))))))))))
    refine T_ (au_ (jc_loopS (ι := Nat) [] (fun k => k ≤ (p.tasks).length ∧ (p.tasks.take k).all ranT1 = true) (fun k => (31, In .i64 (k : Int)) :: [(1, .cell (.val (.pointer (some ⟨bx, 0, none⟩)))), (29, .cell (.list (p.tasks.map Tk.row))), (30, In .i64 ((p.tasks.map Tk.row).length : Int))]) (fun k => [.blk bx 31 p.row]) (fun k => (p.tasks).length - k) 0 ⟨Nat.zero_le _, rfl⟩ ?_ ?_ ?_))
    · exact bc_ 0 r_ sub_end
    · (repeat (first | exact True.intro | refine ⟨rfl, ?_⟩))
    rintro k ⟨hk, hA⟩
    have eLk : ((p.tasks).map Tk.row).length = (p.tasks).length := List.length_map _
    by_cases hltk : k < (p.tasks).length
    · have hltk2 : (k : Int) < (((p.tasks).map Tk.row).length : Int) := by omega
      have eT : ranT1 (p.tasks[k]) = (((decide (1 ≤ (p.tasks[k]).period) && decide ((p.tasks[k]).period ≤ 1048576)) && (decide (1 ≤ (p.tasks[k]).deadline) && decide ((p.tasks[k]).deadline ≤ (p.tasks[k]).period)) && (decide (1 ≤ (p.tasks[k]).priority) && decide ((p.tasks[k]).priority ≤ 15)) && (decide (0 ≤ (p.tasks[k]).jitter) && decide ((p.tasks[k]).jitter ≤ (p.tasks[k]).period))) && (p.tasks[k]).arrays.all (fun a => sizeB a.2) && (p.tasks[k]).inputs.all (fun x => decide (x.2.1 ≤ x.2.2)) && (p.tasks[k]).modes.all (ranM1 (p.tasks[k]).inputs) && Sm.alls wdsq (p.tasks[k]).body) := rfl
      refine R_ (o_ r_ (bw_ r_ r_ (T_ (am_ (aq_ r_ u_ (as_ (al_ (B_ (R_ (o_ r_ (cc_ r_ r_ g_ r_ r_ b_ (o_ r_ (cr_ r_ r_ r_ (o_ r_ (bl_ r_ r_ (fun bl => S_ 0 r_ (T_ (am_ (R_ ?_)))))))))))))))))))
      refine F_ r_ (L_ 0 r_ (o_ r_ (bm_ r_ (cwithin_c _ _ _) (o_ r_ (cd_ r_ (M_ r_ (jl_or 6 4 rfl rfl rfl rfl (nb rfl) ?_)))))))
      apply Exists.intro
      refine ⟨fun hb1 => ?_, ?_⟩
      exact ah_ r_ h_ b_ (bf_ r_ r_ r_ b_ (ah_ r_ h_ b_ (bg_ 0 r_ r_ r_ r_ (ah_ r_ h_ b_ (bf_ r_ r_ r_ b_ (ah_ r_ h_ b_ (bg_ 0 r_ r_ r_ r_ (ah_ r_ h_ b_ (bm_ r_ (cwithin_c _ _ _) (ah_ r_ h_ b_ (cd_ r_ (ak_ (jq_seg 6 rfl rfl rfl (List.Perm.refl _))))))))))))))
      refine M_ r_ (jl_or 4 12 rfl rfl rfl rfl (nb rfl) ?_)
      apply Exists.intro
      refine ⟨fun hb1 => ?_, ?_⟩
      exact ah_ r_ h_ b_ (bf_ r_ r_ r_ b_ (ah_ r_ h_ b_ (bg_ 0 r_ r_ r_ r_ (ah_ r_ h_ b_ (bm_ r_ (cwithin_c _ _ _) (ah_ r_ h_ b_ (cd_ r_ (ak_ (jq_seg 4 rfl rfl rfl (List.Perm.refl _))))))))))
      refine M_ r_ (jl_or 6 18 rfl rfl rfl rfl (nb rfl) ?_)
      apply Exists.intro
      refine ⟨fun hb1 => ?_, ?_⟩
      exact ah_ r_ h_ b_ (bf_ r_ r_ r_ b_ (ah_ r_ h_ b_ (bg_ 0 r_ r_ r_ r_ (ah_ r_ h_ b_ (bf_ r_ r_ r_ b_ (ah_ r_ h_ b_ (bg_ 0 r_ r_ r_ r_ (ah_ r_ h_ b_ (bm_ r_ (cwithin_c _ _ _) (ah_ r_ h_ b_ (cd_ r_ (ak_ (jq_seg 6 rfl rfl rfl (List.Perm.refl _))))))))))))))
      refine T_ (jc_cond rfl (fun hn => ?_) (fun hy => ?_))
      · have hres : ranB1 p = false := by
          rw [h0]
          refine all_no hltk ?_
          rw [eT]
          have : ((decide (1 ≤ (p.tasks[k]).period) && decide ((p.tasks[k]).period ≤ 1048576)) && (decide (1 ≤ (p.tasks[k]).deadline) && decide ((p.tasks[k]).deadline ≤ (p.tasks[k]).period)) && (decide (1 ≤ (p.tasks[k]).priority) && decide ((p.tasks[k]).priority ≤ 15)) && (decide (0 ≤ (p.tasks[k]).jitter) && decide ((p.tasks[k]).jitter ≤ (p.tasks[k]).period))) = false := by
            revert hn
            cases (decide (1 ≤ (p.tasks[k]).period) && decide ((p.tasks[k]).period ≤ 1048576)) <;> cases (decide (1 ≤ (p.tasks[k]).deadline) && decide ((p.tasks[k]).deadline ≤ (p.tasks[k]).period)) <;> cases (decide (1 ≤ (p.tasks[k]).priority) && decide ((p.tasks[k]).priority ≤ 15)) <;> cases (decide (0 ≤ (p.tasks[k]).jitter) && decide ((p.tasks[k]).jitter ≤ (p.tasks[k]).period)) <;> simp
          rw [this]; simp
        exact R_ (E_ r_ (T_ (ar_ (aw_ (az_ (aw_ (aw_ (az_ (aw_ (jq_ret1S rfl rfl (fun K h => by rw [hres] at h; exact h) sub_end))))))))))
      · have h1 : ((decide (1 ≤ (p.tasks[k]).period) && decide ((p.tasks[k]).period ≤ 1048576)) && (decide (1 ≤ (p.tasks[k]).deadline) && decide ((p.tasks[k]).deadline ≤ (p.tasks[k]).period)) && (decide (1 ≤ (p.tasks[k]).priority) && decide ((p.tasks[k]).priority ≤ 15)) && (decide (0 ≤ (p.tasks[k]).jitter) && decide ((p.tasks[k]).jitter ≤ (p.tasks[k]).period))) = true := by
          revert hy
          cases (decide (1 ≤ (p.tasks[k]).period) && decide ((p.tasks[k]).period ≤ 1048576)) <;> cases (decide (1 ≤ (p.tasks[k]).deadline) && decide ((p.tasks[k]).deadline ≤ (p.tasks[k]).period)) <;> cases (decide (1 ≤ (p.tasks[k]).priority) && decide ((p.tasks[k]).priority ≤ 15)) <;> cases (decide (0 ≤ (p.tasks[k]).jitter) && decide ((p.tasks[k]).jitter ≤ (p.tasks[k]).period)) <;> simp
        rw [h1, Bool.true_and] at eT
        clear hy
        refine as_ (al_ (am_ (R_ (F_ r_ (L_ 0 r_ (o_ r_ (br_ r_ (fun hlen => M_ r_ (T_ (au_ ?_))))))))))
        refine jc_loopS (ι := Nat) [] (fun a => a ≤ ((p.tasks[k]).arrays).length ∧ (((p.tasks[k]).arrays).take a).all (fun a => sizeB a.2) = true) (fun a => (64, In .i64 (a : Int)) :: [(62, .cell (.list (((p.tasks[k]).arrays).map ArRow))), (63, In .i64 ((((p.tasks[k]).arrays).map ArRow).length : Int)), (6, .cell (.val (.pointer (some ⟨bl, 0, none⟩)))), (1, .cell (.val (.pointer (some ⟨bx, 0, none⟩)))), (29, .cell (.list (p.tasks.map Tk.row))), (30, In .i64 ((p.tasks.map Tk.row).length : Int)), (31, In .i64 (k : Int))]) (fun a => [.blk bl 39 (p.tasks[k]).row, .blk bx 31 p.row]) (fun a => ((p.tasks[k]).arrays).length - a) 0 ⟨Nat.zero_le _, rfl⟩ ?_ ?_ ?_
        · exact bc_ 0 r_ (bc_ 0 r_ sub_end)
        · (repeat (first | exact True.intro | refine ⟨rfl, ?_⟩))
        rintro a ⟨ha, hAr⟩
        have eLa : (((p.tasks[k]).arrays).map ArRow).length = ((p.tasks[k]).arrays).length := List.length_map _
        by_cases hlta : a < ((p.tasks[k]).arrays).length
        · have hlta2 : (a : Int) < ((((p.tasks[k]).arrays).map ArRow).length : Int) := by omega
          refine R_ (o_ r_ (bw_ r_ r_ (T_ (am_ (aq_ r_ u_ (as_ (al_ (B_ (R_ (o_ r_ (cc_ r_ r_ g_ r_ r_ b_ (o_ r_ (cr_ r_ r_ r_ (o_ r_ (bl_ r_ r_ (fun bl => S_ 0 r_ (T_ (R_ (F_ r_ ?_)))))))))))))))))))
          refine L_ 0 r_ (o_ r_ (bm_ r_ (csize_c _) (o_ r_ (cd_ r_ (T_ (jc_cond rfl (fun hn => ?_) (fun hy => ?_)))))))
          · have hp : (fun a => sizeB a.2) ((p.tasks[k]).arrays)[a] = false := by
              simpa using hn
            have hno : ((p.tasks[k]).arrays).all (fun a => sizeB a.2) = false := all_no hlta hp
            have hres : ranB1 p = false := by
              rw [h0]
              exact all_no hltk (by rw [eT, hno]; simp)
            exact R_ (E_ r_ (T_ (ar_ (az_ (aw_ (aw_ (az_ (aw_ (az_ (aw_ (aw_ (az_ (aw_ (jq_ret1S rfl rfl (fun K h => by rw [hres] at h; exact h) sub_end))))))))))))))
          · have hp : (fun a => sizeB a.2) ((p.tasks[k]).arrays)[a] = true := by
              simpa using hy
            refine as_ (ay_ (al_ (an_ (o_ r_ (bj_ r_ r_ g_ (M_ r_ (ak_ (jq_againS (i := a) (a + 1) ⟨hlta, all_snoc hlta hAr hp⟩ g_ ?_ ?_))))))))
            · exact bc_ 1 r_ (bc_ 1 r_ sub_end)
            · (repeat (first | exact True.intro | refine ⟨rfl, ?_⟩))
        · have hlta2 : ¬ (a : Int) < ((((p.tasks[k]).arrays).map ArRow).length : Int) := by omega
          rw [List.take_of_length_le (by omega)] at hAr
          refine R_ (o_ r_ (bw_ r_ r_ (T_ (am_ (ap_ r_ w_ (av_ (ax_ (ax_ (ba_ (al_ (am_ (R_ (F_ r_ (L_ 0 r_ (o_ r_ (br_ r_ (fun hlen => M_ r_ ?_)))))))))))))))))
          refine T_ (au_ ?_)
          refine jc_loopS (ι := Nat) [] (fun q => q ≤ ((p.tasks[k]).inputs).length ∧ (((p.tasks[k]).inputs).take q).all (fun x => decide (x.2.1 ≤ x.2.2)) = true) (fun q => (76, In .i64 (q : Int)) :: [(74, .cell (.list (((p.tasks[k]).inputs).map InRow))), (75, In .i64 ((((p.tasks[k]).inputs).map InRow).length : Int)), (6, .cell (.val (.pointer (some ⟨bl, 0, none⟩)))), (1, .cell (.val (.pointer (some ⟨bx, 0, none⟩)))), (29, .cell (.list (p.tasks.map Tk.row))), (30, In .i64 ((p.tasks.map Tk.row).length : Int)), (31, In .i64 (k : Int))]) (fun q => [.blk bl 39 (p.tasks[k]).row, .blk bx 31 p.row]) (fun q => ((p.tasks[k]).inputs).length - q) 0 ⟨Nat.zero_le _, rfl⟩ ?_ ?_ ?_
          · exact bc_ 0 r_ (bc_ 0 r_ sub_end)
          · (repeat (first | exact True.intro | refine ⟨rfl, ?_⟩))
          rintro q ⟨hq, hIn⟩
          have eLq : (((p.tasks[k]).inputs).map InRow).length = ((p.tasks[k]).inputs).length := List.length_map _
          by_cases hltq : q < ((p.tasks[k]).inputs).length
          · have hltq2 : (q : Int) < ((((p.tasks[k]).inputs).map InRow).length : Int) := by omega
            refine R_ (o_ r_ (bw_ r_ r_ (T_ (am_ (aq_ r_ u_ (as_ (al_ (B_ (R_ (o_ r_ (cc_ r_ r_ g_ r_ r_ b_ (o_ r_ (cr_ r_ r_ r_ (o_ r_ (bl_ r_ r_ (fun bl => S_ 0 r_ (T_ (R_ (F_ r_ ?_)))))))))))))))))))
            refine L_ 0 r_ (F_ r_ (L_ 0 r_ (o_ r_ (bz_ r_ r_ (T_ (jc_cond rfl (fun hn => ?_) (fun hy => ?_)))))))
            · have hp : (fun x => decide (x.2.1 ≤ x.2.2)) ((p.tasks[k]).inputs)[q] = false := by
                rw [decide_eq_false_iff_not]
                have := of_decide_eq_true hn
                omega
              have hno : ((p.tasks[k]).inputs).all (fun x => decide (x.2.1 ≤ x.2.2)) = false := all_no hltq hp
              have hres : ranB1 p = false := by
                rw [h0]
                exact all_no hltk (by rw [eT, hno]; simp)
              exact R_ (E_ r_ (T_ (ar_ (az_ (aw_ (aw_ (az_ (aw_ (az_ (aw_ (aw_ (az_ (aw_ (jq_ret1S rfl rfl (fun K h => by rw [hres] at h; exact h) sub_end))))))))))))))
            · have hp : (fun x => decide (x.2.1 ≤ x.2.2)) ((p.tasks[k]).inputs)[q] = true := by
                rw [decide_eq_true_eq]
                have := of_decide_eq_false hy
                omega
              refine as_ (ay_ (al_ (an_ (o_ r_ (bj_ r_ r_ g_ (M_ r_ (ak_ (jq_againS (i := q) (q + 1) ⟨hltq, all_snoc hltq hIn hp⟩ g_ ?_ ?_))))))))
              · exact bc_ 1 r_ (bc_ 1 r_ sub_end)
              · (repeat (first | exact True.intro | refine ⟨rfl, ?_⟩))
          · have hltq2 : ¬ (q : Int) < ((((p.tasks[k]).inputs).map InRow).length : Int) := by omega
            rw [List.take_of_length_le (by omega)] at hIn
            refine R_ (o_ r_ (bw_ r_ r_ (T_ (am_ (ap_ r_ w_ (av_ (ax_ (ax_ (ba_ (al_ (am_ (R_ (F_ r_ (L_ 0 r_ (o_ r_ (br_ r_ (fun hlen => M_ r_ ?_)))))))))))))))))
            refine T_ (au_ ?_)
            refine jc_loopS (ι := Nat) [] (fun m => m ≤ ((p.tasks[k]).modes).length ∧ (((p.tasks[k]).modes).take m).all (ranM1 (p.tasks[k]).inputs) = true) (fun m => (89, In .i64 (m : Int)) :: [(87, .cell (.list (((p.tasks[k]).modes).map MdRow))), (88, In .i64 ((((p.tasks[k]).modes).map MdRow).length : Int)), (6, .cell (.val (.pointer (some ⟨bl, 0, none⟩)))), (1, .cell (.val (.pointer (some ⟨bx, 0, none⟩)))), (29, .cell (.list (p.tasks.map Tk.row))), (30, In .i64 ((p.tasks.map Tk.row).length : Int)), (31, In .i64 (k : Int))]) (fun m => [.blk bl 39 (p.tasks[k]).row, .blk bx 31 p.row]) (fun m => ((p.tasks[k]).modes).length - m) 0 ⟨Nat.zero_le _, rfl⟩ ?_ ?_ ?_
            · exact bc_ 0 r_ (bc_ 0 r_ sub_end)
            · (repeat (first | exact True.intro | refine ⟨rfl, ?_⟩))
            rintro m ⟨hm, hM⟩
            have eLm : (((p.tasks[k]).modes).map MdRow).length = ((p.tasks[k]).modes).length := List.length_map _
            by_cases hltm : m < ((p.tasks[k]).modes).length
            · have hltm2 : (m : Int) < ((((p.tasks[k]).modes).map MdRow).length : Int) := by omega
              have cI := input_c (p.tasks[k]) ((p.tasks[k]).modes[m]).2.1
              refine R_ (o_ r_ (bw_ r_ r_ (T_ (am_ (aq_ r_ u_ (as_ (al_ (B_ (R_ (o_ r_ (cc_ r_ r_ g_ r_ r_ b_ (o_ r_ (cr_ r_ r_ r_ (o_ r_ (bl_ r_ r_ (fun bl => S_ 0 r_ (T_ (R_ (A_ 1 r_ ?_)))))))))))))))))))
              refine F_ r_ (L_ 0 r_ (o_ r_ (bm_ r_ (cI) (M_ r_ (X_ r_ (X_ r_ (o_ r_ (bl_ r_ r_ (fun bl => S_ 0 r_ (E_ r_ (T_ (R_ (F_ r_ (L_ 1 r_ (F_ r_ (L_ 1 r_ (o_ r_ (bz_ r_ r_ ?_))))))))))))))))))
              refine M_ r_ (jl_or 5 5 rfl rfl rfl rfl (nb rfl) ?_)
              apply Exists.intro
              refine ⟨fun hb1 => ?_, ?_⟩
              exact ah_ r_ h_ b_ (bf_ r_ r_ r_ b_ (ah_ r_ h_ b_ (bg_ 1 r_ r_ r_ r_ (ah_ r_ h_ b_ (bf_ r_ r_ r_ b_ (ah_ r_ h_ b_ (bg_ 0 r_ r_ r_ r_ (ah_ r_ h_ b_ (bw_ r_ r_ (ak_ (jq_seg 5 rfl rfl rfl (List.Perm.refl _))))))))))))
              refine M_ r_ (jl_or 5 12 rfl rfl rfl rfl (nb rfl) ?_)
              apply Exists.intro
              refine ⟨fun hb1 => ?_, ?_⟩
              exact ah_ r_ h_ b_ (bf_ r_ r_ r_ b_ (ah_ r_ h_ b_ (bg_ 1 r_ r_ r_ r_ (ah_ r_ h_ b_ (bf_ r_ r_ r_ b_ (ah_ r_ h_ b_ (bg_ 0 r_ r_ r_ r_ (ah_ r_ h_ b_ (bz_ r_ r_ (ak_ (jq_seg 5 rfl rfl rfl (List.Perm.refl _))))))))))))
              refine T_ (jc_cond rfl (fun hn => ?_) (fun hy => ?_))
              · have hp : (ranM1 (p.tasks[k]).inputs) ((p.tasks[k]).modes)[m] = false := by
                  unfold ranM1
                  simp only [Bool.or_eq_true, decide_eq_true_eq] at hn
                  simp only [Bool.and_eq_false_iff, decide_eq_false_iff_not]
                  omega
                have hno : ((p.tasks[k]).modes).all (ranM1 (p.tasks[k]).inputs) = false := all_no hltm hp
                have hres : ranB1 p = false := by
                  rw [h0]
                  exact all_no hltk (by rw [eT, hno]; simp)
                exact R_ (E_ r_ (T_ (ar_ (az_ (aw_ (aw_ (az_ (aw_ (az_ (aw_ (aw_ (az_ (aw_ (jq_ret1S rfl rfl (fun K h => by rw [hres] at h; exact h) sub_end))))))))))))))
              · have hp : (ranM1 (p.tasks[k]).inputs) ((p.tasks[k]).modes)[m] = true := by
                  unfold ranM1
                  simp only [Bool.or_eq_false_iff, decide_eq_false_iff_not] at hy
                  simp only [Bool.and_eq_true, decide_eq_true_eq]
                  omega
                refine as_ (ay_ (al_ (an_ (o_ r_ (bj_ r_ r_ g_ (M_ r_ (ak_ (jq_againS (i := m) (m + 1) ⟨hltm, all_snoc hltm hM hp⟩ g_ ?_ ?_))))))))
                · exact bc_ 2 r_ (bc_ 2 r_ sub_end)
                · (repeat (first | exact True.intro | refine ⟨rfl, ?_⟩))
            · have hltm2 : ¬ (m : Int) < ((((p.tasks[k]).modes).map MdRow).length : Int) := by omega
              rw [List.take_of_length_le (by omega)] at hM
              have cE := each0_c 104 [] rfl wdsq (Sm.alls wdsq) (Sm.alls_all _) (fun s z1 z2 => cwords_c s z1 z2) (p.tasks[k]).body (hp.ls _ (List.getElem_mem hltk))
              cases h7 : Sm.alls wdsq (p.tasks[k]).body with
              | false =>
                rw [h7] at cE
                have hres : ranB1 p = false := by rw [h0]; exact all_no hltk (by rw [eT, h7, Bool.and_false])
                refine R_ (o_ r_ (bw_ r_ r_ (T_ (am_ (ap_ r_ w_ (av_ (ax_ (ax_ (ba_ (al_ (R_ (F_ r_ (L_ 0 r_ (o_ r_ (bm_ r_ (cE) (o_ r_ (cd_ r_ (T_ ?_))))))))))))))))))
                exact aq_ r_ r_ (R_ (E_ r_ (T_ (ar_ (az_ (aw_ (aw_ (az_ (aw_ (jq_ret1S rfl rfl (fun K h => by rw [hres] at h; exact h) sub_end))))))))))
              | true =>
                rw [h7] at cE
                have hyes : ranT1 (p.tasks[k]) = true := by rw [eT, hAr, hIn, hM, h7]; rfl
                refine R_ (o_ r_ (bw_ r_ r_ (T_ (am_ (ap_ r_ w_ (av_ (ax_ (ax_ (ba_ (al_ (R_ (F_ r_ (L_ 0 r_ (o_ r_ (bm_ r_ (cE) (o_ r_ (cd_ r_ (T_ ?_))))))))))))))))))
                refine ap_ r_ r_ (as_ (ay_ (al_ (an_ (o_ r_ (bj_ r_ r_ g_ (M_ r_ (ak_ (jq_againS (i := k) (k + 1) ⟨hltk, all_snoc hltk hA hyes⟩ g_ ?_ ?_)))))))))
                · exact bc_ 1 r_ sub_end
                · (repeat (first | exact True.intro | refine ⟨rfl, ?_⟩))
    · have hltk2 : ¬ (k : Int) < (((p.tasks).map Tk.row).length : Int) := by omega
      rw [List.take_of_length_le (by omega)] at hA
      have hres : ranB1 p = true := by rw [h0]; exact hA
      exact R_ (o_ r_ (bw_ r_ r_ (T_ (am_ (ap_ r_ w_ (av_ (ax_ (ax_ (ba_ (al_ (R_ (E_ r_ (T_ (ar_ (jq_ret1S rfl rfl (fun K h => by rw [hres] at h; exact h) sub_end)))))))))))))))
theorem statements1_c (b : Nat) (s : Sm) (n : Nat) (hn : n ≤ 1000000000) : Con Tryz.prog 146 [.row s.row', Ptr b] [.blk b 3 [.val (.int .i64 (n : Int))]] (fun K => K (Bl true) [.blk b 3 [.val (.int .i64 ((n + 1 : Nat) : Int))]]) := by
  rw [show ((n + 1 : Nat) : Int) = (n : Int) + 1 by omega]
  exact con_intro Tryz.func146 rfl rfl (Nat.le_of_ble_eq_true rfl) (fun c hc => R_ (o_ r_ (ci_ r_ (fun bx => E_ r_ (T_ (R_ (L_ 1 r_ (o_ r_ (bj_ r_ r_ g_ (W_ 1 r_ (T_ (R_ (E_ r_ (T_ (ar_ (jq_ret1S rfl rfl (fun K h => h) (bc_ 0 r_ sub_end)))))))))))))))))
theorem statements_c (l : List Sm) (hz : Sm.szs l ≤ 1000000) : Con Tryz.prog 92 [.cell (.list (l.map Sm.row))] [] (fun K => K (In .i64 (Sm.szs l : Int)) []) := by
  have hE := fun b => eachN_c 146 b (fun s n hn => statements1_c b s n hn) l 0 (by omega)
  simp only [Nat.zero_add] at hE
  refine con_intro Tryz.func92 rfl rfl (Nat.le_of_ble_eq_true rfl) (fun c hc => R_ (E_ r_ (T_ (R_ (o_ r_ (bl_ r_ r_ (fun bl => W_ 0 r_ (T_ (R_ (M_ r_ (o_ r_ (ow_makeFunc r_ (o_ r_ (bi_ [0] r_ r_ (hE _) (T_ (R_ (L_ 0 r_ (E_ r_ ?_))))))))))))))))))
  exact T_ (ar_ (jq_ret1S rfl rfl (fun K h => h) sub_end))
theorem limits1_c (t : Tk) (ht : TkSz t) : Con Tryz.prog 91 [.row t.row] [] (fun K => K (Bl (!limT t)) []) := by
  have hS := statements_c t.body ht.body
  have z1 := ht.inputs
  have z2 := ht.vars
  have q1 : (t.inputs.map InRow).length = t.inputs.length := List.length_map _
  have q2 : (t.vars.map Wrow).length = t.vars.length := List.length_map _
  have q3 : (t.arrays.map ArRow).length = t.arrays.length := List.length_map _
  have q4 : (t.modes.map MdRow).length = t.modes.length := List.length_map _
  have q5 : (t.claims.map ClRow).length = t.claims.length := List.length_map _
  have hres : (decide (((t.inputs.map InRow).length : Int) > 4) || decide (((t.inputs.map InRow).length : Int) + ((t.vars.map Wrow).length : Int) > 12) || decide (((t.arrays.map ArRow).length : Int) > 4) || decide (((t.modes.map MdRow).length : Int) > 3) || decide (((t.claims.map ClRow).length : Int) > 4) || decide ((Sm.szs t.body : Int) > 60)) = !limT t := by
    unfold limT
    rw [q1, q2, q3, q4, q5, Bool.eq_iff_iff]
    simp only [Bool.or_eq_true, decide_eq_true_eq, Bool.not_eq_true', Bool.and_eq_false_iff, decide_eq_false_iff_not]
    omega
  refine con_intro Tryz.func91 rfl rfl (Nat.le_of_ble_eq_true rfl) (fun c hc => R_ (o_ r_ (ci_ r_ (fun bx => E_ r_ (T_ (R_ (F_ r_ (L_ 0 r_ (o_ r_ (br_ r_ (fun hlen => o_ r_ (bz_ r_ r_ (M_ r_ (jl_or 8 4 rfl rfl rfl rfl (nb rfl) ?_))))))))))))))
  apply Exists.intro
  refine ⟨fun hb1 => ?_, ?_⟩
  exact ah_ r_ h_ b_ (bf_ r_ r_ r_ b_ (ah_ r_ h_ b_ (bg_ 0 r_ r_ r_ r_ (ah_ r_ h_ b_ (br_ r_ (fun hlen => ah_ r_ h_ b_ (bf_ r_ r_ r_ b_ (ah_ r_ h_ b_ (bg_ 0 r_ r_ r_ r_ (ah_ r_ h_ b_ (br_ r_ (fun hlen => ah_ r_ h_ b_ (bj_ r_ r_ g_ (ah_ r_ h_ b_ (bz_ r_ r_ (ak_ (jq_seg 8 rfl rfl rfl (List.Perm.refl _))))))))))))))))))
  refine M_ r_ (jl_or 4 14 rfl rfl rfl rfl (nb rfl) ?_)
  apply Exists.intro
  refine ⟨fun hb1 => ?_, ?_⟩
  exact ah_ r_ h_ b_ (bf_ r_ r_ r_ b_ (ah_ r_ h_ b_ (bg_ 0 r_ r_ r_ r_ (ah_ r_ h_ b_ (br_ r_ (fun hlen => ah_ r_ h_ b_ (bz_ r_ r_ (ak_ (jq_seg 4 rfl rfl rfl (List.Perm.refl _))))))))))
  refine M_ r_ (jl_or 4 20 rfl rfl rfl rfl (nb rfl) ?_)
  apply Exists.intro
  refine ⟨fun hb1 => ?_, ?_⟩
  exact ah_ r_ h_ b_ (bf_ r_ r_ r_ b_ (ah_ r_ h_ b_ (bg_ 0 r_ r_ r_ r_ (ah_ r_ h_ b_ (br_ r_ (fun hlen => ah_ r_ h_ b_ (bz_ r_ r_ (ak_ (jq_seg 4 rfl rfl rfl (List.Perm.refl _))))))))))
  refine M_ r_ (jl_or 4 26 rfl rfl rfl rfl (nb rfl) ?_)
  apply Exists.intro
  refine ⟨fun hb1 => ?_, ?_⟩
  exact ah_ r_ h_ b_ (bf_ r_ r_ r_ b_ (ah_ r_ h_ b_ (bg_ 0 r_ r_ r_ r_ (ah_ r_ h_ b_ (br_ r_ (fun hlen => ah_ r_ h_ b_ (bz_ r_ r_ (ak_ (jq_seg 4 rfl rfl rfl (List.Perm.refl _))))))))))
  refine M_ r_ (jl_or 4 32 rfl rfl rfl rfl (nb rfl) ?_)
  apply Exists.intro
  refine ⟨fun hb1 => ?_, ?_⟩
  exact ah_ r_ h_ b_ (bf_ r_ r_ r_ b_ (ah_ r_ h_ b_ (bg_ 0 r_ r_ r_ r_ (ah_ r_ h_ b_ (bm_ r_ (hS) (ah_ r_ h_ b_ (bz_ r_ r_ (ak_ (jq_seg 4 rfl rfl rfl (List.Perm.refl _))))))))))
  exact E_ r_ (T_ (ar_ (jq_ret1S rfl rfl (fun K h => by rw [← hres] at h; simp only [Bool.or_assoc] at h ⊢; exact h) sub_end)))
theorem climits_c (p : Pg) (hz : PgSz p) : Con Tryz.prog 50 [.row p.row] [] (fun K => K (Bl (limB p)) []) := by
  have hX := hasTk0_c 91 [] rfl (fun t => !limT t) p.tasks (fun t ht => limits1_c t (hz.tasks t ht))
  have hn := not_any_not limT p.tasks
  have eR : (p.res.map Wrow).length = p.res.length := List.length_map _
  have eS : (p.shared.map ShRow).length = p.shared.length := List.length_map _
  have eT : (p.tasks.map Tk.row).length = p.tasks.length := List.length_map _
  refine con_intro Tryz.func50 rfl rfl (Nat.le_of_ble_eq_true rfl) (fun c hc => R_ (o_ r_ (ci_ r_ (fun bx => E_ r_ (T_ (am_ (R_ (F_ r_ (L_ 0 r_ (o_ r_ (br_ r_ (fun hlen => o_ r_ (bz_ r_ r_ (M_ r_ (jl_or 4 4 rfl rfl rfl rfl (nb rfl) ?_)))))))))))))))
  apply Exists.intro
  refine ⟨fun hb1 => ?_, ?_⟩
  exact ah_ r_ h_ b_ (bf_ r_ r_ r_ b_ (ah_ r_ h_ b_ (bg_ 0 r_ r_ r_ r_ (ah_ r_ h_ b_ (br_ r_ (fun hlen => ah_ r_ h_ b_ (bz_ r_ r_ (ak_ (jq_seg 4 rfl rfl rfl (List.Perm.refl _))))))))))
  refine M_ r_ (jl_or 4 10 rfl rfl rfl rfl (nb rfl) ?_)
  apply Exists.intro
  refine ⟨fun hb1 => ?_, ?_⟩
  exact ah_ r_ h_ b_ (bf_ r_ r_ r_ b_ (ah_ r_ h_ b_ (bg_ 0 r_ r_ r_ r_ (ah_ r_ h_ b_ (br_ r_ (fun hlen => ah_ r_ h_ b_ (bw_ r_ r_ (ak_ (jq_seg 4 rfl rfl rfl (List.Perm.refl _))))))))))
  refine M_ r_ (jl_or 4 16 rfl rfl rfl rfl (nb rfl) ?_)
  apply Exists.intro
  refine ⟨fun hb1 => ?_, ?_⟩
  exact ah_ r_ h_ b_ (bf_ r_ r_ r_ b_ (ah_ r_ h_ b_ (bg_ 0 r_ r_ r_ r_ (ah_ r_ h_ b_ (br_ r_ (fun hlen => ah_ r_ h_ b_ (bz_ r_ r_ (ak_ (jq_seg 4 rfl rfl rfl (List.Perm.refl _))))))))))
  refine T_ (jc_cond rfl (fun hn => ?_) (fun hy => ?_))
  · have hres : limB p = false := by
      unfold limB
      simp only [Bool.or_eq_true, decide_eq_true_eq] at hn
      simp only [Bool.and_eq_false_iff, decide_eq_false_iff_not]
      omega
    exact R_ (E_ r_ (T_ (ar_ (aw_ (jq_ret1S rfl rfl (fun K h => by rw [hres] at h; exact h) sub_end)))))
  · have hres : limB p = !p.tasks.any (fun t => !limT t) := by
      rw [hn]
      unfold limB
      simp only [Bool.or_eq_false_iff, decide_eq_false_iff_not] at hy
      rw [decide_eq_true (by omega), decide_eq_true (by omega), decide_eq_true (by omega), decide_eq_true (by omega)]
      rfl
    exact as_ (al_ (R_ (F_ r_ (L_ 0 r_ (o_ r_ (bm_ r_ (hX) (o_ r_ (cd_ r_ (E_ r_ (T_ (ar_ (jq_ret1S rfl rfl (fun K h => by rw [hres] at h; exact h) sub_end))))))))))))
end Go.Proofs.YtalkkcfojplmdaaGreatDoor
end
