import Derived.Test.YtalkkcfojplmdaaGreatDoorMe3
import Derived.Test.YtalkkcfojplmdaaGreatDoorProg
import Derived.Shelf.Strconv.Itoa3
import Derived.Lib.ItoaLen
section
namespace Go.Proofs.YtalkkcfojplmdaaGreatDoor
open Go.Vc
attribute [local irreducible] JL JC JQ OpWp Con ConN
attribute [local irreducible] byteAt runLen isL isD isName hasW
set_option maxHeartbeats 4000000

def nameB (s : ByteArray) : Bool := isName s && !hasW s
def smallB (n : Int) : Bool := decide (-2147483648 < n) && decide (n < 2147483648)
def plainB (n : Int) : Bool := decide (0 ≤ n) && decide (n < 2147483648)
/-- Whether an expression has its shape, as far as it is looked at. -/
def shpF : Nat → T → Bool
  | 0, _ => true
  | F + 1, t => match t with
    | .nu n => smallB n
    | .nm s => nameB s
    | .ix s x => nameB s && shpF F x
    | .bn o a b => decide (1 ≤ o) && decide (o ≤ 14) && shpF F a && shpF F b
def oneB : List T → Bool
  | [x] => shpF 20 x
  | _ => false
def okOne (rec : List Sm → Bool) (s : Sm) : Bool :=
  if s.kind = 1 then nameB s.name && decide (s.index.length = 0) && oneB s.value && decide (s.max = 0) && decide (s.label = 0) && decide (s.thn.length = 0) && decide (s.els.length = 0)
  else if s.kind = 2 then nameB s.name && oneB s.index && oneB s.value && decide (s.max = 0) && decide (s.label = 0) && decide (s.thn.length = 0) && decide (s.els.length = 0)
  else if s.kind = 3 then decide (s.name = ⟨#[]⟩) && decide (s.index.length = 0) && oneB s.value && decide (s.max = 0) && plainB s.label && rec s.thn && rec s.els
  else if s.kind = 4 then decide (s.name = ⟨#[]⟩) && decide (s.index.length = 0) && oneB s.value && plainB s.max && plainB s.label && rec s.thn && decide (s.els.length = 0)
  else if s.kind = 5 then nameB s.name && decide (s.index.length = 0) && decide (s.value.length = 0) && decide (s.max = 0) && decide (s.label = 0) && rec s.thn && decide (s.els.length = 0)
  else false
def okSs : Nat → List Sm → Bool
  | 0, _ => true
  | F + 1, l => l.all (okOne (okSs F))
end Go.Proofs.YtalkkcfojplmdaaGreatDoor
end

section
namespace Go.Proofs.YtalkkcfojplmdaaGreatDoor
open Go.Vc
attribute [local irreducible] JL JC JQ OpWp Con ConN
attribute [local irreducible] byteAt runLen isL isD isName hasW nameB smallB plainB shpF
set_option maxHeartbeats 4000000

theorem all_snoc {α : Type} {p : α → Bool} {l : List α} {k : Nat} (h : k < l.length) (h1 : (l.take k).all p = true) (h2 : p l[k] = true) : (l.take (k + 1)).all p = true := by
  rw [List.take_succ_eq_append_getElem h, List.all_append, h1]
  simp [h2]
theorem all_no {α : Type} {p : α → Bool} {l : List α} {k : Nat} (h : k < l.length) (h2 : p l[k] = false) : l.all p = false := by
  rw [Bool.eq_false_iff]
  intro h3
  have := List.all_eq_true.1 h3 l[k] (List.getElem_mem h)
  rw [h2] at this
  cases this
end Go.Proofs.YtalkkcfojplmdaaGreatDoor
end

section
namespace Go.Proofs.YtalkkcfojplmdaaGreatDoor
open Go.Vc
attribute [local irreducible] JL JC JQ OpWp Con ConN
attribute [local irreducible] byteAt runLen isL isD isName hasW nameB smallB plainB shpF
set_option maxHeartbeats 4000000

def inB (x : Inp) : Bool := nameB x.1 && smallB x.2.1 && smallB x.2.2
def arB (x : Arr) : Bool := nameB x.1 && plainB x.2
def mdB (x : Md) : Bool := nameB x.1 && nameB x.2.1 && smallB x.2.2.1 && smallB x.2.2.2
def clB (x : Clm) : Bool := plainB x.1 && plainB x.2
def shB (x : Shd) : Bool := nameB x.1 && plainB x.2.1 && nameB x.2.2
def hdB (t : Tk) : Bool := nameB t.name && plainB t.period && plainB t.deadline && plainB t.priority && plainB t.jitter
def okTk (t : Tk) : Bool := hdB t && okSs 20 t.body && t.inputs.all inB && t.vars.all nameB && t.arrays.all arB && t.modes.all mdB && t.claims.all clB
def okPg (p : Pg) : Bool := p.res.all nameB && p.shared.all shB && p.tasks.all okTk
end Go.Proofs.YtalkkcfojplmdaaGreatDoor
end

section
namespace Go.Proofs.YtalkkcfojplmdaaGreatDoor
open Go.Vc
set_option maxHeartbeats 4000000
attribute [local irreducible] JL JC JQ OpWp Con ConN

theorem flat_take {f : Sm → List Int} {l : List Sm} {k : Nat} (h : k < l.length) : (l.take (k + 1)).flatMap f = (l.take k).flatMap f ++ f l[k] := by
  rw [List.take_succ_eq_append_getElem h, List.flatMap_append]; simp
theorem flat_le {f : Sm → List Int} {l : List Sm} {k : Nat} (h : k < l.length) : ((l.take k).flatMap f).length + (f l[k]).length ≤ (l.flatMap f).length := by
  have h1 : l = l.take k ++ l[k] :: l.drop (k + 1) := by rw [List.getElem_cons_drop, List.take_append_drop]
  have h2 : (l.flatMap f).length = ((l.take k ++ l[k] :: l.drop (k + 1)).flatMap f).length := by rw [← h1]
  rw [h2]
  simp only [List.flatMap_append, List.flatMap_cons, List.length_append]
  omega

def rlSelf (s : Sm) : List Int := if s.kind = 3 then [s.label] else []
def rlOne : Nat → Sm → List Int
  | 0, _ => []
  | f + 1, s => rlSelf s ++ s.thn.flatMap (rlOne f) ++ s.els.flatMap (rlOne f)
theorem rl_zero (l : List Sm) : l.flatMap (rlOne 0) = [] := by
  induction l with
  | nil => rfl
  | cons s l ih => simp [rlOne]

theorem rlabels_c : ∀ (f : Nat) (l : List Sm) (depth : Int), 0 ≤ depth → depth + f = 21 → (l.flatMap (rlOne f)).length ≤ 1000000 →
    Con Tryz.prog 74 [.cell (.list (l.map Sm.row)), In .i64 depth, In .i64 3] [] (fun K => K (.cell (.list ((l.flatMap (rlOne f)).map Irow))) []) := by
  intro f
  induction f with
  | zero =>
    intro l depth h0 h1 hlim
    refine con_intro Tryz.func74 rfl rfl (Nat.le_of_ble_eq_true rfl) (fun c hc => R_ (E_ r_ (T_ (R_ (E_ r_ (T_ (am_ (R_ (E_ r_ (T_ (au_ (jc_loop [0, 1, 2, 6, 7] (fun _ : Nat => True) (fun _ => [(8, In .i64 0)]) (fun _ => []) (fun _ => 0) 0 [] trivial rfl ?_ ?_))))))))))))
    · (repeat (first | exact True.intro | refine ⟨rfl, ?_⟩))
    · intro k _
      refine am_ (am_ (jc_cut (ι := Unit) [6, 7] (fun _ => True) (fun _ => [(17, Bl false)]) (fun _ => []) ?_ ?_))
      · by_cases hl : (0 : Int) < ((l.map Sm.row).length : Int)
        · refine an_ (M_ r_ (M_ r_ (o_ r_ (br_ r_ (fun hlen => o_ r_ (bw_ r_ r_ (M_ r_ (ah_ r_ u_ b_ (bd_ r_ (ah_ r_ u_ b_ (cu_ r_ r_ (o_ r_ (bp_ r_ u_ r_ (ak_ (jq_cut () [] trivial rfl ?_)))))))))))))))
          rw [show decide (depth ≤ 20) = false from decide_eq_false (by omega)]
          (repeat (first | exact True.intro | refine ⟨rfl, ?_⟩))
        · refine an_ (M_ r_ (M_ r_ (o_ r_ (br_ r_ (fun hlen => o_ r_ (bw_ r_ r_ (M_ r_ (ai_ r_ w_ b_ (ai_ r_ w_ b_ (o_ r_ (bv_ r_ w_ r_ (ak_ (jq_cut () [] trivial rfl ?_)))))))))))))
          (repeat (first | exact True.intro | refine ⟨rfl, ?_⟩))
      · intro _ _
        skip
        refine jc_cond rfl (fun h => by cases h) (fun _ => av_ (ax_ (ax_ (ba_ (al_ (R_ (M_ r_ (E_ r_ (T_ (ar_ ?_))))))))))
        rw [rl_zero]
        refine jq_sle 6 rfl (SLe.cell CLe.nil) (jq_ret1 rfl rfl [] rfl (fun K h => h))
  | succ f ih =>
    intro l depth h0 h1 hlim
    refine con_intro Tryz.func74 rfl rfl (Nat.le_of_ble_eq_true rfl) (fun c hc => R_ (E_ r_ (T_ (R_ (E_ r_ (T_ (am_ (R_ (E_ r_ (T_ (au_ (jc_ownNil 3 1 g_ ?_))))))))))))
    refine jc_loop (ι := Nat × Value) [0, 1, 2] (fun i => i.1 ≤ l.length) (fun i => [(7, .cell (.val i.2)), (8, In .i64 (i.1 : Int))]) (fun i => [.own i.2 3 1 (((l.take i.1).flatMap (rlOne (f + 1))).map Irow)]) (fun i => l.length - i.1) (0, .slice none 0 0) [0] (Nat.zero_le _) rfl ?_ ?_
    · (repeat (first | exact True.intro | refine ⟨rfl, ?_⟩))
    · rintro ⟨k, v⟩ hk
      dsimp only at hk ⊢
      by_cases hlt : (k : Int) < ((l.map Sm.row).length : Int)
      · refine am_ (R_ (M_ r_ (M_ r_ (o_ r_ (br_ r_ (fun hlen => o_ r_ (bw_ r_ r_ (M_ r_ (ah_ r_ u_ b_ (bd_ r_ (ah_ r_ u_ b_ (cu_ r_ r_ (o_ r_ (bp_ r_ u_ r_ (T_ (jc_condd rfl (fun _ => ?_) (fun h => absurd (show depth ≤ 20 by omega) h)))))))))))))))))
        have hmax : l.length ≤ 9223372036854775807 := by simpa using hlen
        simp only [List.length_map, Int.ofNat_lt] at hlt
        have hle := flat_le (f := rlOne (f + 1)) hlt
        have e2 : rlOne (f + 1) l[k] = rlSelf l[k] ++ l[k].thn.flatMap (rlOne f) ++ l[k].els.flatMap (rlOne f) := rfl
        have hl2 := congrArg List.length e2
        simp only [List.length_append] at hl2
        refine as_ (al_ (B_ (R_ (M_ r_ (M_ r_ (o_ r_ (cc_ r_ r_ g_ (Sm.row_eq _) r_ b_ (o_ r_ (cr_ r_ r_ r_ (o_ r_ (bl_ r_ r_ (fun bl => S_ 0 r_ (T_ (am_ (am_ (jc_cut (ι := Unit) [0, 1, 2, 7, 8, 9] (fun _ => True) (fun _ => [(41, Bl (decide (l[k].kind = 3)))]) (fun _ => [.own v 3 1 (((l.take k).flatMap (rlOne (f + 1))).map Irow), .blk bl 66 l[k].row']) ?_ ?_))))))))))))))))
        · by_cases h3 : l[k].kind = 3
          · refine an_ (F_ r_ (L_ 0 r_ (o_ r_ (bn_ r_ r_ (M_ r_ (ai_ r_ u_ b_ (ai_ r_ u_ b_ (ai_ r_ u_ b_ (o_ r_ (bp_ r_ u_ r_ (M_ r_ (ah_ r_ r_ b_ (bd_ r_ (ah_ r_ r_ b_ (bn_ r_ r_ (ah_ r_ r_ b_ (bd_ r_ (ah_ r_ r_ b_ (bf_ r_ r_ r_ b_ (ah_ r_ r_ b_ (bg_ 0 r_ r_ r_ r_ (ah_ r_ r_ b_ (bd_ r_ ?_)))))))))))))))))))))))
            refine ah_ r_ r_ b_ (bn_ r_ r_ (ah_ r_ r_ b_ (bv_ r_ r_ r_ (o_ r_ (bp_ r_ r_ r_ (ak_ (jq_cut () [1, 0] trivial rfl ?_)))))))
            (repeat (first | exact True.intro | refine ⟨rfl, ?_⟩))
          · by_cases h4 : l[k].kind = 4
            · refine an_ (F_ r_ (L_ 0 r_ (o_ r_ (bn_ r_ r_ (M_ r_ (ah_ r_ w_ b_ (bf_ r_ r_ r_ b_ (ah_ r_ w_ b_ (bg_ 0 r_ r_ r_ r_ (ah_ r_ w_ b_ (bn_ r_ r_ (o_ r_ (bv_ r_ w_ r_ (M_ r_ (ah_ r_ u_ b_ (bd_ r_ (ah_ r_ u_ b_ (bn_ r_ r_ (ah_ r_ u_ b_ (bd_ r_ (ah_ r_ r_ b_ (bf_ r_ r_ r_ b_ (ah_ r_ r_ b_ (bg_ 0 r_ r_ r_ r_ (ah_ r_ r_ b_ (bd_ r_ ?_))))))))))))))))))))))))))
              refine ah_ r_ r_ b_ (bn_ r_ r_ (ah_ r_ u_ b_ (bv_ r_ r_ r_ (o_ r_ (bp_ r_ u_ r_ (ak_ (jq_cut () [1, 0] trivial rfl ?_)))))))
              (repeat (first | exact True.intro | refine ⟨rfl, ?_⟩))
            · refine an_ (F_ r_ (L_ 0 r_ (o_ r_ (bn_ r_ r_ (M_ r_ (ah_ r_ w_ b_ (bf_ r_ r_ r_ b_ (ah_ r_ w_ b_ (bg_ 0 r_ r_ r_ r_ (ah_ r_ w_ b_ (bn_ r_ r_ (o_ r_ (bv_ r_ w_ r_ (M_ r_ (ai_ r_ w_ b_ (ai_ r_ w_ b_ (ai_ r_ w_ b_ (aj_ r_ b_ (aj_ r_ b_ (aj_ r_ b_ ?_))))))))))))))))))))
              refine aj_ r_ b_ (ai_ r_ w_ b_ (o_ r_ (bv_ r_ w_ r_ (ak_ ?_))))
              rw [show decide (l[k].kind = 3) = false from decide_eq_false h3]
              refine jq_cut () [1, 0] trivial rfl ?_
              (repeat (first | exact True.intro | refine ⟨rfl, ?_⟩))
        intro _ _
        refine jc_cut (ι := Value) [0, 1, 2, 8, 9] (fun _ => True) (fun v => [(7, .cell (.val v))]) (fun v => [.own v 3 1 (((l.take k).flatMap (rlOne (f + 1)) ++ rlSelf l[k]).map Irow), .blk bl 66 l[k].row']) ?_ ?_
        · have hself : (rlSelf l[k]).length ≤ (rlOne (f + 1) l[k]).length := by rw [e2]; simp only [List.length_append]; omega
          refine jc_condd rfl (fun hw => ?_) (fun hw => ?_)
          · have e1 : rlSelf l[k] = [l[k].label] := by simp [rlSelf, hw]
            rw [e1] at hself ⊢
            simp only [List.length_cons, List.length_nil] at hself
            refine an_ (M_ r_ (F_ r_ (L_ 1 r_ (o_ r_ (bq_ r_ r_ b_ r_ r_ b_ (o_ r_ (ow_append1 0 (l[k].label) rfl rfl rfl rfl rfl rfl rfl (fun _ => rfl) (by show (_ + _) * 8 ≤ _; first | omega | (simp only [List.length_append]; omega)) (by first | omega | (simp only [List.length_append]; omega)) (fun v1 hv1 => E_ r_ (ak_ (jq_cut v1 [0, 0] trivial rfl ?_))))))))))
            (repeat (first | exact True.intro | refine ⟨rfl, ?_⟩))
          · have e1 : rlSelf l[k] = [] := by simp [rlSelf, hw]
            rw [e1, List.append_nil]
            refine as_ (jq_cut v [0, 0] trivial rfl ?_)
            (repeat (first | exact True.intro | refine ⟨rfl, ?_⟩))
        · intro v1 _
          refine R_ (M_ r_ (F_ r_ (L_ 1 r_ (M_ r_ (o_ r_ (bj_ r_ r_ g_ (M_ r_ (o_ r_ (bm_ r_ (ih _ _ g_ g_ g_) (o_ r_ (ow_appendM 0 rfl rfl rfl rfl rfl rfl rfl (fun _ => rfl) (by show (_ + _) * 8 ≤ _; first | omega | (simp only [List.length_append]; omega)) (by first | omega | (simp only [List.length_append]; omega)) (fun v2 hv2 => E_ r_ (T_ (an_ (M_ r_ (F_ r_ (L_ 1 r_ (M_ r_ ?_))))))))))))))))))
          refine o_ r_ (bj_ r_ r_ g_ (M_ r_ (o_ r_ (bm_ r_ (ih _ _ g_ g_ g_) (o_ r_ (ow_appendM 0 rfl rfl rfl rfl rfl rfl rfl (fun _ => rfl) (by show (_ + _) * 8 ≤ _; first | omega | (simp only [List.length_append]; omega)) (by first | omega | (simp only [List.length_append]; omega)) (fun v3 hv3 => E_ r_ (ak_ (ay_ (al_ (an_ (M_ r_ (o_ r_ (bj_ r_ r_ g_ (E_ r_ (ak_ ?_))))))))))))))))
          refine jq_again (i := (k, v)) (k + 1, v3) [0] hlt (by dsimp only; omega) (own_eq (congrArg (List.map Irow) ?_)) ?_
          · rw [flat_take hlt, e2]
            simp only [List.append_assoc]
          · (repeat (first | exact True.intro | refine ⟨rfl, ?_⟩))
      · refine am_ (R_ (M_ r_ (M_ r_ (o_ r_ (br_ r_ (fun hlen => o_ r_ (bw_ r_ r_ (M_ r_ (ai_ r_ w_ b_ (ai_ r_ w_ b_ (o_ r_ (bv_ r_ w_ r_ (T_ (jc_cond rfl (fun h => by cases h) (fun _ => av_ (ax_ (ax_ (ba_ ?_))))))))))))))))))
        refine al_ (R_ (M_ r_ (E_ r_ (T_ (ar_ ?_)))))
        simp only [List.length_map, Int.ofNat_lt] at hlt
        rw [List.take_of_length_le (Nat.le_of_not_lt hlt)]
        refine jq_freeze 6 0 rfl rfl (by rw [hc]; simp [hb]) (jq_ret1 rfl rfl [] rfl (fun K h => h))

def ifsOf (l : List Sm) : List Int := l.flatMap (rlOne 20)
theorem Ifs_c (l : List Sm) (h : (ifsOf l).length ≤ 1000000) : Con Tryz.prog 33 [.cell (.list (l.map Sm.row))] [] (fun K => K (.cell (.list ((ifsOf l).map Irow))) []) := by
  refine con_intro Tryz.func33 rfl rfl (Nat.le_of_ble_eq_true rfl) (fun c hc => R_ (E_ r_ (T_ (R_ (M_ r_ (o_ r_ (bm_ r_ (rlabels_c 20 _ _ g_ g_ h) (E_ r_ (T_ (ar_ (jq_ret1 rfl rfl [] rfl (fun K h => h))))))))))))
end Go.Proofs.YtalkkcfojplmdaaGreatDoor
end

section
namespace Go.Proofs.YtalkkcfojplmdaaGreatDoor
open Go.Vc
attribute [local irreducible] JL JC JQ OpWp Con ConN HOk
attribute [local irreducible] byteAt runLen isL isD isName hasW
set_option maxHeartbeats 4000000

theorem T.ind {P : T → Prop} (h : ∀ t, (∀ u ∈ t.args, P u) → P t) : ∀ t, P t := by
  intro t
  induction t with
  | nu n => exact h _ (by simp [T.args])
  | nm s => exact h _ (by simp [T.args])
  | ix s t ih => exact h _ (by simpa [T.args] using ih)
  | bn o a b ia ib => exact h _ (by simpa [T.args] using ⟨ia, ib⟩)
theorem sz_mem : ∀ {l : List Sm} {s : Sm}, s ∈ l → s.sz ≤ Sm.szs l
  | u :: l, s, h => by
    rcases List.mem_cons.1 h with rfl | h
    · simp only [Sm.szs]; omega
    · have := sz_mem h
      simp only [Sm.szs]; omega
theorem Sms.ind {P : List Sm → Prop} (h : ∀ l, (∀ s ∈ l, P s.thn ∧ P s.els) → P l) : ∀ l, P l := by
  have key : ∀ n l, Sm.szs l ≤ n → P l := by
    intro n
    induction n with
    | zero =>
      intro l hl
      refine h l (fun s hs => ?_)
      have := sz_mem hs
      have := Sm.sz_eq s
      omega
    | succ n ih =>
      intro l hl
      refine h l (fun s hs => ?_)
      have h1 := sz_mem hs
      have h2 := Sm.sz_eq s
      exact ⟨ih _ g_, ih _ g_⟩
  exact fun l => key _ l (Nat.le_refl _)
theorem any_snoc {α : Type} {p : α → Bool} {l : List α} {k : Nat} (h : k < l.length) (h1 : (l.take k).any p = false) (h2 : p l[k] = false) : (l.take (k + 1)).any p = false := by
  rw [List.take_succ_eq_append_getElem h, List.any_append, h1]
  simp [h2]
end Go.Proofs.YtalkkcfojplmdaaGreatDoor
end

section
namespace Go.Proofs.YtalkkcfojplmdaaGreatDoor
open Go.Vc
set_option maxHeartbeats 1000000

/-- The variables, two arrays, counts and steps of a job. -/
structure Jb where
  V : List (ByteArray × Int)
  ca : List Int
  cb : List Int
  cn : List Int
  st : Int
abbrev AMt := List (ByteArray × Bool)
def Jb.arr (AM : AMt) (j : Jb) : List (ByteArray × List Int) := AM.map (fun e => (e.1, cond e.2 j.ca j.cb))
def evJ (AM : AMt) (j : Jb) (e : T) : Int := evF j.V (j.arr AM) 20 e
def Jb.up (j : Jb) (i : Int) : Jb := { j with cn := j.cn.set i.toNat (j.cn.getD i.toNat 0 + 1) }
def Jb.step (j : Jb) : Jb := { j with st := j.st + 1 }
def hd0 (l : List T) : T := l.headD (.nu 0)
def Jb.put (AM : AMt) (j : Jb) (nm : ByteArray) (i n : Int) : Jb := match aget AM nm with
  | none => j
  | some true => { j with ca := j.ca.set (i % j.ca.length).toNat n }
  | some false => { j with cb := j.cb.set (i % j.cb.length).toNat n }
def whI (AM : AMt) (c : T) (lb : Int) (body : Jb → Jb) : Nat → Jb → Jb
  | 0, j => j
  | n + 1, j => if evJ AM j.step c = 0 then j.step else whI AM c lb body n (body (j.step.up (3 * lb + 1)))
mutual
def runS (AM : AMt) : Sm → Jb → Jb
  | .mk k nm i v mx lb t e, j =>
    if k = 1 then Jb.step { j with V := aset j.V nm (evJ AM j (hd0 v)) }
    else if k = 2 then (j.put AM nm (evJ AM j (hd0 i)) (evJ AM j (hd0 v))).step
    else if k = 3 then (if evJ AM (j.up (3 * lb)).step (hd0 v) ≠ 0 then runL AM t ((j.up (3 * lb)).step.up (3 * lb + 1)) else runL AM e ((j.up (3 * lb)).step.up (3 * lb + 2)))
    else if k = 4 then (whI AM (hd0 v) lb (runL AM t) mx.toNat (j.up (3 * lb))).up (3 * lb + 2)
    else if k = 5 then runL AM t j else j
def runL (AM : AMt) : List Sm → Jb → Jb
  | [], j => j
  | s :: l, j => runL AM l (runS AM s j)
end
theorem runL_app (AM : AMt) : ∀ (l m : List Sm) (j : Jb), runL AM (l ++ m) j = runL AM m (runL AM l j)
  | [], m, j => by rw [List.nil_append, runL]
  | s :: l, m, j => by rw [List.cons_append, runL, runL, runL_app AM l m]
theorem runL_step {AM : AMt} {l : List Sm} {k : Nat} (h : k < l.length) (j : Jb) : runL AM (l.take (k + 1)) j = runS AM l[k] (runL AM (l.take k) j) := by
  rw [List.take_succ_eq_append_getElem h, runL_app, runL, runL]
theorem runS_eq (AM : AMt) (s : Sm) (j : Jb) : runS AM s j =
    if s.kind = 1 then Jb.step { j with V := aset j.V s.name (evJ AM j (hd0 s.value)) }
    else if s.kind = 2 then (j.put AM s.name (evJ AM j (hd0 s.index)) (evJ AM j (hd0 s.value))).step
    else if s.kind = 3 then (if evJ AM (j.up (3 * s.label)).step (hd0 s.value) ≠ 0 then runL AM s.thn ((j.up (3 * s.label)).step.up (3 * s.label + 1)) else runL AM s.els ((j.up (3 * s.label)).step.up (3 * s.label + 2)))
    else if s.kind = 4 then (whI AM (hd0 s.value) s.label (runL AM s.thn) s.max.toNat (j.up (3 * s.label))).up (3 * s.label + 2)
    else if s.kind = 5 then runL AM s.thn j else j := by
  cases s
  rw [runS]
  rfl
mutual
def Sm.rok (ar : ByteArray → Bool) : Sm → Bool
  | .mk k nm i v _ lb t e => if k = 1 then !v.isEmpty else if k = 2 then !i.isEmpty && !v.isEmpty && ar nm
    else if k = 3 then !v.isEmpty && decide (0 ≤ lb) && decide (lb ≤ 12) && Sm.roks ar t && Sm.roks ar e
    else if k = 4 then !v.isEmpty && decide (0 ≤ lb) && decide (lb ≤ 12) && Sm.roks ar t else if k = 5 then Sm.roks ar t else true
def Sm.roks (ar : ByteArray → Bool) : List Sm → Bool
  | [] => true
  | s :: l => s.rok ar && Sm.roks ar l
end
theorem roks_mem {ar : ByteArray → Bool} : ∀ {l : List Sm}, Sm.roks ar l = true → ∀ s ∈ l, s.rok ar = true
  | u :: l, h, s, hs => by
    rw [Sm.roks, Bool.and_eq_true] at h
    rcases List.mem_cons.1 hs with rfl | hs
    · exact h.1
    · exact roks_mem h.2 s hs
theorem rok_eq (ar : ByteArray → Bool) (s : Sm) : s.rok ar = if s.kind = 1 then !s.value.isEmpty else if s.kind = 2 then !s.index.isEmpty && !s.value.isEmpty && ar s.name
    else if s.kind = 3 then !s.value.isEmpty && decide (0 ≤ s.label) && decide (s.label ≤ 12) && Sm.roks ar s.thn && Sm.roks ar s.els
    else if s.kind = 4 then !s.value.isEmpty && decide (0 ≤ s.label) && decide (s.label ≤ 12) && Sm.roks ar s.thn else if s.kind = 5 then Sm.roks ar s.thn else true := by
  cases s; rfl
mutual
def Sm.cst : Sm → Nat
  | .mk k _ _ _ mx _ t e => if k = 1 then 1 else if k = 2 then 1 else if k = 3 then 3 + Sm.csts t + Sm.csts e else if k = 4 then 2 + mx.toNat * (2 + Sm.csts t) else if k = 5 then Sm.csts t else 0
def Sm.csts : List Sm → Nat
  | [] => 0
  | s :: l => s.cst + Sm.csts l
end
theorem cst_eq (s : Sm) : s.cst = if s.kind = 1 then 1 else if s.kind = 2 then 1 else if s.kind = 3 then 3 + Sm.csts s.thn + Sm.csts s.els else if s.kind = 4 then 2 + s.max.toNat * (2 + Sm.csts s.thn) else if s.kind = 5 then Sm.csts s.thn else 0 := by cases s; rfl
theorem csts_app : ∀ l m : List Sm, Sm.csts (l ++ m) = Sm.csts l + Sm.csts m
  | [], m => by rw [List.nil_append, Sm.csts, Nat.zero_add]
  | s :: l, m => by rw [List.cons_append, Sm.csts, Sm.csts, csts_app l m]; omega
theorem csts_take {l : List Sm} {k : Nat} (h : k < l.length) : Sm.csts (l.take k) + l[k].cst ≤ Sm.csts l := by
  have e1 : Sm.csts (l.take (k + 1)) = Sm.csts (l.take k) + l[k].cst := by
    rw [List.take_succ_eq_append_getElem h, csts_app, Sm.csts, Sm.csts, Nat.add_zero]
  have e2 := csts_app (l.take (k + 1)) (l.drop (k + 1))
  rw [List.take_append_drop] at e2
  omega
/-- Counts and steps within bounds; the arrays as large as they are. -/
structure Jb.ok (ma mb : Nat) (N : Nat) (j : Jb) : Prop where
  st : 0 ≤ j.st ∧ j.st ≤ N
  cn : ∀ x ∈ j.cn, 0 ≤ x ∧ x ≤ N
  len : j.cn.length = 39
  ca : j.ca.length = ma
  cb : j.cb.length = mb
variable {ma mb N M : Nat} {j : Jb} {AM : AMt}
theorem Jb.ok.mono (h : j.ok ma mb N) (hN : N ≤ M) : j.ok ma mb M := ⟨by have := h.st; omega, fun x hx => by have := h.cn x hx; omega, h.len, h.ca, h.cb⟩
theorem getD_ok (h : j.ok ma mb N) (i : Nat) : 0 ≤ j.cn.getD i 0 ∧ j.cn.getD i 0 ≤ N := by
  rw [List.getD_eq_getElem?_getD]
  cases hi : j.cn[i]? with
  | none => exact ⟨Int.le_refl _, by show (0 : Int) ≤ N; omega⟩
  | some x => exact h.cn x (List.mem_of_getElem? hi)
theorem Jb.ok.up (h : j.ok ma mb N) (i : Int) : (j.up i).ok ma mb (N + 1) := by
  have hg := getD_ok h i.toNat
  refine ⟨by have := h.st; show 0 ≤ j.st ∧ j.st ≤ _; omega, fun x hx => ?_, by show (j.cn.set _ _).length = 39; rw [List.length_set]; exact h.len, h.ca, h.cb⟩
  rcases List.mem_or_eq_of_mem_set hx with hx | rfl
  · have := h.cn x hx; omega
  · omega
theorem Jb.ok.step (h : j.ok ma mb N) : j.step.ok ma mb (N + 1) := ⟨by have := h.st; show 0 ≤ j.st + 1 ∧ j.st + 1 ≤ _; omega, fun x hx => by have := h.cn x hx; omega, h.len, h.ca, h.cb⟩
theorem Jb.ok.up' (h : j.ok ma mb N) (i : Int) (hN : N + 1 ≤ M) : (j.up i).ok ma mb M := (h.up i).mono hN
theorem Jb.ok.put (h : j.ok ma mb N) (nm : ByteArray) (i n : Int) : (j.put AM nm i n).ok ma mb N := by
  unfold Jb.put
  split
  · exact h
  · exact ⟨h.st, h.cn, h.len, by rw [List.length_set]; exact h.ca, h.cb⟩
  · exact ⟨h.st, h.cn, h.len, h.ca, by rw [List.length_set]; exact h.cb⟩
theorem Jb.ok.var (h : j.ok ma mb N) (V : List (ByteArray × Int)) : ({ j with V := V } : Jb).ok ma mb N := ⟨h.st, h.cn, h.len, h.ca, h.cb⟩
theorem whI_ok {c : T} {lb : Int} {body : Jb → Jb} {B : Nat} (hb : ∀ N j, Jb.ok ma mb N j → (body j).ok ma mb (N + B)) : ∀ (n N : Nat) (j : Jb), j.ok ma mb N → (whI AM c lb body n j).ok ma mb (N + n * (2 + B))
  | 0, N, j, h => by rw [whI]; exact h.mono (by omega)
  | n + 1, N, j, h => by
    rw [whI]
    have e : (n + 1) * (2 + B) = n * (2 + B) + (2 + B) := by rw [Nat.add_mul, Nat.one_mul]
    split
    · exact h.step.mono (by omega)
    · exact (whI_ok hb n _ _ (hb _ _ (h.step.up _))).mono (by omega)
theorem runL_ok (AM : AMt) : ∀ l : List Sm, ∀ (N : Nat) (j : Jb), j.ok ma mb N → (runL AM l j).ok ma mb (N + Sm.csts l) := by
  refine Sms.ind (fun l ih N j h => ?_)
  have key : ∀ k, k ≤ l.length → (runL AM (l.take k) j).ok ma mb (N + Sm.csts (l.take k)) := by
    intro k
    induction k with
    | zero => intro _; rw [List.take_zero, runL]; exact h.mono (by omega)
    | succ k ihk =>
      intro hk
      have h1 := ihk (by omega)
      obtain ⟨i1, i2⟩ := ih l[k] (List.getElem_mem (by omega))
      rw [runL_step (by omega), runS_eq]
      have e1 : Sm.csts (l.take (k + 1)) = Sm.csts (l.take k) + l[k].cst := by
        rw [List.take_succ_eq_append_getElem (by omega), csts_app, Sm.csts, Sm.csts, Nat.add_zero]
      rw [e1, cst_eq]
      split
      · exact (h1.var _).step.mono (by omega)
      split
      · exact (h1.put _ _ _).step.mono (by omega)
      split
      · split
        · exact (i1 _ _ ((h1.up _).step.up _)).mono (by omega)
        · exact (i2 _ _ ((h1.up _).step.up _)).mono (by omega)
      split
      · exact (whI_ok (B := Sm.csts l[k].thn) (fun N j h => i1 N j h) _ _ _ (h1.up _)).up' _ (by omega)
      split
      · exact (i1 _ _ h1).mono (by omega)
      · exact h1.mono (by omega)
  have := key l.length (Nat.le_refl _)
  rw [List.take_of_length_le (Nat.le_refl _)] at this
  exact this
end Go.Proofs.YtalkkcfojplmdaaGreatDoor
end

section
namespace Go.Proofs.YtalkkcfojplmdaaGreatDoor
open Go.Vc
attribute [local irreducible] JL JC JQ OpWp Con ConN HOk
attribute [local irreducible] byteAt runLen isL isD isName hasW
set_option maxHeartbeats 4000000

mutual
/-- Lists of expressions within reason. -/
def Sm.lns : Sm → Prop
  | .mk _ _ i v _ _ t e => i.length ≤ 1000 ∧ v.length ≤ 1000 ∧ Sm.lnss t ∧ Sm.lnss e
def Sm.lnss : List Sm → Prop
  | [] => True
  | s :: l => s.lns ∧ Sm.lnss l
end
theorem Sm.lnss_mem : ∀ {l : List Sm}, Sm.lnss l → ∀ s ∈ l, s.index.length ≤ 1000 ∧ s.value.length ≤ 1000 ∧ Sm.lnss s.thn ∧ Sm.lnss s.els
  | u :: l, h, s, hs => by
    rw [Sm.lnss] at h
    rcases List.mem_cons.1 hs with rfl | hs
    · cases s; exact h.1
    · exact Sm.lnss_mem h.2 s hs
theorem wds_eq (s : Sm) : s.wds = (decide (0 ≤ s.max) && decide (s.max ≤ 32) && (s.index ++ s.value).all wdT && Sm.wdss s.thn && Sm.wdss s.els) := by
  cases s
  simp only [Sm.wds, Sm.max, Sm.index, Sm.value, Sm.thn, Sm.els, List.all_append, Bool.and_assoc]
  rfl
/-- The name of a statement is declared. -/
def nmOne (vs ar rs : List ByteArray) (s : Sm) : Bool := if s.kind = 1 then hasB vs s.name else if s.kind = 2 then hasB ar s.name else if s.kind = 5 then hasB rs s.name else true
theorem nms_eq (vs ar rs : List ByteArray) (s : Sm) : s.nms vs ar rs = (nmOne vs ar rs s && (s.index ++ s.value).all (useB vs ar) && Sm.nmss vs ar rs s.thn && Sm.nmss vs ar rs s.els) := by
  cases s
  simp only [Sm.nms, nmOne, Sm.kind, Sm.name, Sm.index, Sm.value, Sm.thn, Sm.els, List.all_append, Bool.and_assoc]
  rfl
end Go.Proofs.YtalkkcfojplmdaaGreatDoor
end

section
namespace Go.Proofs.YtalkkcfojplmdaaGreatDoor
open Go.Vc
attribute [local irreducible] JL JC JQ OpWp Con ConN
attribute [local irreducible] byteAt runLen isL isD isName hasW
set_option maxHeartbeats 4000000

def nmOk (s : ByteArray) : Prop := isName s = true ∧ hasW s = false
def T.ok : T → Prop
  | .nu n => -2147483647 ≤ n ∧ n ≤ 2147483647
  | .nm s => nmOk s
  | .ix s t => nmOk s ∧ t.ok
  | .bn o a b => (1 ≤ o ∧ o ≤ 14) ∧ a.ok ∧ b.ok
end Go.Proofs.YtalkkcfojplmdaaGreatDoor
end

section
namespace Go.Proofs.YtalkkcfojplmdaaGreatDoor
open Go.Vc
attribute [local irreducible] JL JC JQ OpWp Con ConN
attribute [local irreducible] byteAt runLen isL isD isName hasW
set_option maxHeartbeats 4000000

theorem str_ne {o : Int} (h : 1 ≤ o ∧ o ≤ 14) : ¬ signT o = ⟨#[]⟩ := by
  intro e
  have := congrArg ByteArray.size e
  rcases op14 h with rfl | rfl | rfl | rfl | rfl | rfl | rfl | rfl | rfl | rfl | rfl | rfl | rfl | rfl <;> exact absurd this (by decide)
end Go.Proofs.YtalkkcfojplmdaaGreatDoor
end

section
namespace Go.Proofs.YtalkkcfojplmdaaGreatDoor
open Go.Vc
attribute [local irreducible] JL JC JQ OpWp Con ConN
attribute [local irreducible] byteAt runLen isL isD isName hasW
set_option maxHeartbeats 4000000

end Go.Proofs.YtalkkcfojplmdaaGreatDoor
end

section
namespace Go.Proofs.YtalkkcfojplmdaaGreatDoor
set_option maxRecDepth 100000
def laysItoa_ren : Go.Shelf.Ren := ⟨fun | 129 => 256 | 171 => 144 | 243 => 192 | 246 => 234 | 283 => 247 | 284 => 248 | 285 => 249 | 286 => 250 | 317 => 255 | 318 => 257 | 319 => 258 | 320 => 259 | 337 => 261 | 338 => 262 | n => n, fun | 0 => 0 | 2 => 2 | 3 => 3 | 4 => 4 | 5 => 5 | 9 => 9 | 20 => 20 | 37 => 73 | 46 => 121 | 51 => 199 | 53 => 202 | 171 => 232 | 173 => 235 | 212 => 239 | 213 => 240 | 232 => 243 | 233 => 244 | n => n, fun | 17 => 3 | 18 => 4 | 19 => 5 | n => n⟩
theorem laysItoa : Go.Proofs.LaysM.n171 Tryz.prog laysItoa_ren := {
  mixed := by kernel_rfl,
  f129 := Tryz.func256.trans (congrArg some (by kernel_rfl)),
  f171 := Tryz.func144.trans (congrArg some (by kernel_rfl)),
  f243 := Tryz.func192.trans (congrArg some (by kernel_rfl)),
  f246 := Tryz.func234.trans (congrArg some (by kernel_rfl)),
  f283 := Tryz.func247.trans (congrArg some (by kernel_rfl)),
  f284 := Tryz.func248.trans (congrArg some (by kernel_rfl)),
  f285 := Tryz.func249.trans (congrArg some (by kernel_rfl)),
  f286 := Tryz.func250.trans (congrArg some (by kernel_rfl)),
  f317 := Tryz.func255.trans (congrArg some (by kernel_rfl)),
  f318 := Tryz.func257.trans (congrArg some (by kernel_rfl)),
  f319 := Tryz.func258.trans (congrArg some (by kernel_rfl)),
  f320 := Tryz.func259.trans (congrArg some (by kernel_rfl)),
  f337 := Tryz.func261.trans (congrArg some (by kernel_rfl)),
  f338 := Tryz.func262.trans (congrArg some (by kernel_rfl)),
  t0 := Tryz.underlying0,
  a0 := Tryz.isAgg0,
  z0 := Tryz.sizeOf0,
  v0 := Tryz.zeroValue0,
  t2 := Tryz.underlying2,
  a2 := Tryz.isAgg2,
  z2 := Tryz.sizeOf2,
  v2 := Tryz.zeroValue2,
  t3 := Tryz.underlying3,
  a3 := Tryz.isAgg3,
  z3 := Tryz.sizeOf3,
  v3 := Tryz.zeroValue3,
  t4 := Tryz.underlying4,
  a4 := Tryz.isAgg4,
  z4 := Tryz.sizeOf4,
  v4 := Tryz.zeroValue4,
  t5 := Tryz.underlying5,
  a5 := Tryz.isAgg5,
  z5 := Tryz.sizeOf5,
  v5 := Tryz.zeroValue5,
  t9 := Tryz.underlying9,
  a9 := Tryz.isAgg9,
  z9 := Tryz.sizeOf9,
  v9 := Tryz.zeroValue9,
  t20 := Tryz.underlying20,
  a20 := Tryz.isAgg20,
  z20 := Tryz.sizeOf20,
  v20 := Tryz.zeroValue20,
  t37 := Tryz.underlying73,
  a37 := Tryz.isAgg73,
  z37 := Tryz.sizeOf73,
  v37 := Tryz.zeroValue73,
  t46 := Tryz.underlying121,
  a46 := Tryz.isAgg121,
  z46 := Tryz.sizeOf121,
  v46 := Tryz.zeroValue121,
  t51 := Tryz.underlying199,
  a51 := Tryz.isAgg199,
  z51 := Tryz.sizeOf199,
  v51 := Tryz.zeroValue199,
  t53 := Tryz.underlying202,
  a53 := Tryz.isAgg202,
  z53 := Tryz.sizeOf202,
  v53 := Tryz.zeroValue202,
  t171 := Tryz.underlying232,
  a171 := Tryz.isAgg232,
  z171 := Tryz.sizeOf232,
  v171 := Tryz.zeroValue232,
  t173 := Tryz.underlying235,
  a173 := Tryz.isAgg235,
  z173 := Tryz.sizeOf235,
  v173 := Tryz.zeroValue235,
  t212 := Tryz.underlying239,
  a212 := Tryz.isAgg239,
  z212 := Tryz.sizeOf239,
  v212 := Tryz.zeroValue239,
  t213 := Tryz.underlying240,
  a213 := Tryz.isAgg240,
  z213 := Tryz.sizeOf240,
  t232 := Tryz.underlying243,
  a232 := Tryz.isAgg243,
  z232 := Tryz.sizeOf243,
  v232 := Tryz.zeroValue243,
  t233 := Tryz.underlying244,
  a233 := Tryz.isAgg244,
  z233 := Tryz.sizeOf244,
  v233 := Tryz.zeroValue244,
  g17 := by kernel_rfl,
  g18 := by kernel_rfl,
  g19 := by kernel_rfl,
  i0 := by kernel_rfl,
  i2 := by kernel_rfl,
  i3 := by kernel_rfl,
  i4 := by kernel_rfl,
  i5 := by kernel_rfl,
  i9 := by kernel_rfl,
  i20 := by kernel_rfl,
  i37 := by kernel_rfl,
  i46 := by kernel_rfl,
  i51 := by kernel_rfl,
  i53 := by kernel_rfl,
  i171 := by kernel_rfl,
  i173 := by kernel_rfl,
  i212 := by kernel_rfl,
  i232 := by kernel_rfl,
  i233 := by kernel_rfl,
  m17 := by kernel_rfl,
  m18 := by kernel_rfl,
  m19 := by kernel_rfl }
end Go.Proofs.YtalkkcfojplmdaaGreatDoor
end

section
namespace Go.Proofs.YtalkkcfojplmdaaGreatDoor
open Go.Vc
attribute [local irreducible] JL JC JQ OpWp
attribute [local irreducible] byteAt runLen isL isD isName hasW
set_option maxHeartbeats 4000000

def numS (n : Int) : ByteArray := ⟨(Lib.itoa n).toArray⟩
theorem itoa_c (n : Int) (h0 : -2147483647 ≤ n) (h1 : n ≤ 2147483647) : Con Tryz.prog 144 [In .i64 n] [] (fun K => K (Str (numS n)) []) := by
  rintro vs w A _ _ _ ⟨v, r, rfl, ⟨rfl, _⟩, hr⟩ _ ⟨⟨g, hg1, hg2, htab⟩, _, _⟩
  simp only [SOks] at hr
  subst hr
  refine (Any.strconv_Itoa laysItoa n g_ g_ w htab).mono ?_
  rintro e w' ⟨rfl, k, os, rfl⟩
  refine ⟨_, _, [], rfl, fun K h => h, ⟨?_, rfl⟩, by simp, by simp [hb], by simp [hb], ⟨rfl, rfl, rfl, ?_, ?_⟩⟩
  · unfold numS
    rfl
  · simp [Sort.grow]
  · intro j hj _
    show (w.heap ++ os)[j]? = _
    rw [Array.getElem?_append_left hj]
attribute [local irreducible] Con ConN
theorem numS_size (n : Int) (h0 : -2147483647 ≤ n) (h1 : n ≤ 2147483647) : (numS n).size ≤ 21 := by
  have := Lib.itoa_length_le n (by omega) (by omega)
  unfold numS
  simpa [ByteArray.size] using this
def textT : T → ByteArray
  | .nu n => if n < 0 then (⟨#[40]⟩ ++ numS n) ++ ⟨#[41]⟩ else numS n
  | .nm s => s
  | .ix s t => ((s ++ ⟨#[91]⟩) ++ textT t) ++ ⟨#[93]⟩
  | .bn o a b => (((((⟨#[40]⟩ ++ textT a) ++ ⟨#[32]⟩) ++ signT o) ++ ⟨#[32]⟩) ++ textT b) ++ ⟨#[41]⟩
theorem one_size (c : UInt8) : (⟨#[c]⟩ : ByteArray).size = 1 := rfl
theorem sign_size {o : Int} (h : 1 ≤ o ∧ o ≤ 14) : (signT o).size ≤ 2 := by
  rcases op14 h with rfl | rfl | rfl | rfl | rfl | rfl | rfl | rfl | rfl | rfl | rfl | rfl | rfl | rfl <;> decide
theorem expr_c : ∀ (t : T), t.ok → (textT t).size ≤ 1000000000 → Con Tryz.prog 193 [.row t.row'] [] (fun K => K (Str (textT t)) []) := by
  intro t
  induction t with
  | nu n =>
    intro hok hz
    have hI := itoa_c n hok.1 hok.2
    have hz := numS_size n hok.1 hok.2
    have h40 := one_size 40
    have h41 := one_size 41
    have h2 : (⟨#[40]⟩ ++ numS n).size ≤ 30 := by rw [ByteArray.size_append]; omega
    show Con _ _ [.row [.val (.int .i64 1), .val (.int .i64 n), .val (.string ⟨#[]⟩), .val (.int .i64 0), .list (([] : List T).map T.row)]] [] _
    refine con_intro Tryz.func193 rfl rfl (Nat.le_of_ble_eq_true rfl) (fun c hc => R_ (o_ r_ (ci_ r_ (fun bx => E_ r_ (T_ (am_ (R_ (F_ r_ (L_ 0 r_ (T_ (au_ (R_ (o_ r_ (bn_ r_ r_ (E_ r_ (T_ (jc_condd rfl (fun _ => ?_) (fun h => absurd rfl h))))))))))))))))))
    refine am_ (R_ (F_ r_ (L_ 0 r_ (o_ r_ (bw_ r_ r_ (T_ (jc_condd rfl (fun hn => ?_) (fun hn => ?_))))))))
    · have e : textT (.nu n) = (⟨#[40]⟩ ++ numS n) ++ ⟨#[41]⟩ := by unfold textT; rw [if_pos hn]
      refine R_ (F_ r_ (L_ 0 r_ (o_ r_ (bm_ r_ (hI) (o_ r_ (ow_strcat r_ r_ g_ (o_ r_ (ow_strcat r_ r_ g_ (E_ r_ (T_ (ar_ (aw_ (az_ (aw_ (jq_ret1 rfl rfl [] rfl (fun K h => by rw [e] at h; exact h))))))))))))))))
    · have e : textT (.nu n) = numS n := by unfold textT; rw [if_neg hn]
      refine as_ (al_ (R_ (F_ r_ (L_ 0 r_ (o_ r_ (bm_ r_ (hI) (E_ r_ (T_ (ar_ (az_ (aw_ (jq_ret1 rfl rfl [] rfl (fun K h => by rw [e] at h; exact h)))))))))))))
  | nm s =>
    intro hok hz
    show Con _ _ [.row [.val (.int .i64 2), .val (.int .i64 0), .val (.string s), .val (.int .i64 0), .list (([] : List T).map T.row)]] [] _
    refine con_intro Tryz.func193 rfl rfl (Nat.le_of_ble_eq_true rfl) (fun c hc => R_ (o_ r_ (ci_ r_ (fun bx => E_ r_ (T_ (am_ (R_ (F_ r_ (L_ 0 r_ (T_ (au_ (R_ (o_ r_ (bn_ r_ r_ (E_ r_ (T_ (jc_condd rfl (fun h => by cases h) (fun _ => ?_))))))))))))))))))
    refine R_ (o_ r_ (bn_ r_ r_ (E_ r_ (T_ (jc_condd rfl (fun _ => R_ (F_ r_ (L_ 0 r_ (E_ r_ (T_ (ar_ (az_ (aw_ (jq_ret1 rfl rfl [] rfl (fun K h => h)))))))))) (fun h => absurd rfl h))))))
  | ix s t ih =>
    intro hok hz
    have e : textT (.ix s t) = ((s ++ ⟨#[91]⟩) ++ textT t) ++ ⟨#[93]⟩ := by rw [textT]
    rw [e] at hz
    have h91 := one_size 91
    have h93 := one_size 93
    have hz1 := hz
    rw [ByteArray.size_append] at hz1
    have hz2 := hz1
    rw [ByteArray.size_append] at hz2
    have hz3 := hz2
    rw [ByteArray.size_append] at hz3
    have hI := ih hok.2 (by omega)
    have e1 : [t].length = 1 := rfl
    show Con _ _ [.row [.val (.int .i64 3), .val (.int .i64 0), .val (.string s), .val (.int .i64 0), .list ([t].map T.row)]] [] _
    refine con_intro Tryz.func193 rfl rfl (Nat.le_of_ble_eq_true rfl) (fun c hc => R_ (o_ r_ (ci_ r_ (fun bx => E_ r_ (T_ (am_ (R_ (F_ r_ (L_ 0 r_ (T_ (au_ (R_ (o_ r_ (bn_ r_ r_ (E_ r_ (T_ (jc_condd rfl (fun h => by cases h) (fun _ => ?_))))))))))))))))))
    refine R_ (o_ r_ (bn_ r_ r_ (E_ r_ (T_ (jc_condd rfl (fun h => by cases h) (fun _ => R_ (o_ r_ (bn_ r_ r_ (E_ r_ (T_ (jc_condd rfl (fun _ => am_ (ao_ r_ r_ k_ k_ (yF_ r_ (yL_ 0 r_ (aa_ (fun c => ow_strcat r_ r_ g_ p_) (yF_ r_ ?_)))))) (fun h => absurd rfl h))))))))))))
    refine yL_ 0 r_ (aa_ (fun c => cv_ r_ r_ g_ g_ (T.row_eq _) r_ b_ p_) (aa_ (fun c => cr_ r_ r_ r_ p_) (aa_ (fun c => bm_ r_ (hI) p_) (aa_ (fun c => ow_strcat r_ r_ g_ p_) (aa_ (fun c => ow_strcat r_ r_ g_ p_) (yE_ r_ (ae_ (al_ (ar_ (az_ (aw_ (jq_ret1 rfl rfl [] rfl (fun K h => by rw [e] at h; exact h)))))))))))))
  | bn o a b iha ihb =>
    intro hok hz
    have e : textT (.bn o a b) = (((((⟨#[40]⟩ ++ textT a) ++ ⟨#[32]⟩) ++ signT o) ++ ⟨#[32]⟩) ++ textT b) ++ ⟨#[41]⟩ := by rw [textT]
    rw [e] at hz
    have h40 := one_size 40
    have h32 := one_size 32
    have h41 := one_size 41
    have hz1 := hz
    rw [ByteArray.size_append] at hz1
    have hz2 := hz1
    rw [ByteArray.size_append] at hz2
    have hz3 := hz2
    rw [ByteArray.size_append] at hz3
    have hz4 := hz3
    rw [ByteArray.size_append] at hz4
    have hz5 := hz4
    rw [ByteArray.size_append] at hz5
    have hz6 := hz5
    rw [ByteArray.size_append] at hz6
    have hS := Sign_c o hok.1
    have hA := iha hok.2.1 (by omega)
    have hB := ihb hok.2.2 (by omega)
    have e1 : [a, b].length = 2 := rfl
    show Con _ _ [.row [.val (.int .i64 4), .val (.int .i64 0), .val (.string ⟨#[]⟩), .val (.int .i64 o), .list ([a, b].map T.row)]] [] _
    refine con_intro Tryz.func193 rfl rfl (Nat.le_of_ble_eq_true rfl) (fun c hc => R_ (o_ r_ (ci_ r_ (fun bx => E_ r_ (T_ (am_ (R_ (F_ r_ (L_ 0 r_ (T_ (au_ (R_ (o_ r_ (bn_ r_ r_ (E_ r_ (T_ (jc_condd rfl (fun h => by cases h) (fun _ => ?_))))))))))))))))))
    refine R_ (o_ r_ (bn_ r_ r_ (E_ r_ (T_ (jc_condd rfl (fun h => by cases h) (fun _ => R_ (o_ r_ (bn_ r_ r_ (E_ r_ (T_ (jc_condd rfl (fun h => by cases h) (fun _ => as_ (ay_ (al_ (am_ (ao_ r_ r_ k_ k_ (yF_ r_ ?_)))))))))))))))))
    refine yL_ 0 r_ (aa_ (fun c => cv_ r_ r_ g_ g_ (T.row_eq _) r_ b_ p_) (aa_ (fun c => cr_ r_ r_ r_ p_) (aa_ (fun c => bm_ r_ (hA) p_) (aa_ (fun c => ow_strcat r_ r_ g_ p_) (aa_ (fun c => ow_strcat r_ r_ g_ p_) (yF_ r_ (yL_ 0 r_ (aa_ (fun c => bm_ r_ (hS) p_) (aa_ (fun c => ow_strcat r_ r_ g_ p_) (aa_ (fun c => ow_strcat r_ r_ g_ p_) (yF_ r_ (yL_ 0 r_ (aa_ (fun c => cv_ r_ r_ g_ g_ (T.row_eq _) r_ b_ p_) ?_)))))))))))))
    refine aa_ (fun c => cr_ r_ r_ r_ p_) (aa_ (fun c => bm_ r_ (hB) p_) (aa_ (fun c => ow_strcat r_ r_ g_ p_) (aa_ (fun c => ow_strcat r_ r_ g_ p_) (yE_ r_ (ae_ (al_ (ar_ (jq_ret1 rfl rfl [] rfl (fun K h => by rw [e] at h; exact h)))))))))
end Go.Proofs.YtalkkcfojplmdaaGreatDoor
end

section
namespace Go.Proofs.YtalkkcfojplmdaaGreatDoor
open Go.Vc
attribute [local irreducible] JL JC JQ OpWp Con ConN
attribute [local irreducible] byteAt runLen isL isD isName hasW
set_option maxHeartbeats 4000000

theorem name_size {s : ByteArray} (h : nmOk s) : s.size ≤ 12 := by
  have := h.1
  unfold isName at this
  simp only [Bool.and_eq_true, decide_eq_true_eq] at this
  exact this.1.2
theorem text_size : ∀ (t : T), t.ok → (textT t).size + 50 ≤ 100 * 2 ^ t.dep
  | .nu n, h => by
    have := numS_size n h.1 h.2
    have h40 := one_size 40
    have h41 := one_size 41
    unfold textT
    simp only [T.dep]
    split
    · rw [ByteArray.size_append, ByteArray.size_append]; omega
    · omega
  | .nm s, h => by
    have := name_size h
    simp only [textT, T.dep]
    omega
  | .ix s t, h => by
    have := name_size h.1
    have := text_size t h.2
    have h91 := one_size 91
    have h93 := one_size 93
    simp only [textT, T.dep, ByteArray.size_append, Nat.pow_succ]
    omega
  | .bn o a b, h => by
    have h1 := text_size a h.2.1
    have h2 := text_size b h.2.2
    have h3 := sign_size h.1
    have h40 := one_size 40
    have h32 := one_size 32
    have h41 := one_size 41
    have e1 : 2 ^ a.dep ≤ 2 ^ max a.dep b.dep := Nat.pow_le_pow_right (by decide) (by omega)
    have e2 : 2 ^ b.dep ≤ 2 ^ max a.dep b.dep := Nat.pow_le_pow_right (by decide) (by omega)
    simp only [textT, T.dep, ByteArray.size_append, Nat.pow_succ]
    omega
theorem text_small {t : T} (h : t.ok) (hd : t.dep ≤ 8) : (textT t).size ≤ 1000000000 := by
  have h1 := text_size t h
  have h2 : 2 ^ t.dep ≤ 2 ^ 8 := Nat.pow_le_pow_right (by decide) hd
  omega
end Go.Proofs.YtalkkcfojplmdaaGreatDoor
end

section
namespace Go.Proofs.YtalkkcfojplmdaaGreatDoor
open Go.Vc
set_option maxHeartbeats 4000000
attribute [local irreducible] JL JC JQ OpWp Con ConN
attribute [local irreducible] StG Mz

def LoopP (L : List Int) (bm bd : Nat) (V A : List ByteArray) (Sh : List Shd) (d : Nat) : Prop :=
  ∀ (m : Ms) (hs : ByteArray) (il : Int) (LS : List ByteArray) (x : Int), m.ok → m.lab ≤ 11 → 0 ≤ il → il ≤ 1 → LS.length ≤ il → x = (d + 1 : Nat) →
    Con Tryz.prog 224 [Ptr bm, In .i64 x] [Mk bm bd V m.lv A Sh hs m.lab m.st il, Dk bd L, .own m.lv 9 1 (LS.map Wrow)]
      (fun K => ∀ r : Ms × List Sm, (r.1.ok ∧ r.2.length ≤ 2 ∧ LpG V (usableF A Sh hs) il (StG V A Sh d (il + 1) hs) m.lab r.1.lab r.2 ∧ Mz r.2 (m.st + 1 - r.1.st)) → K (.cell (.list (r.2.map Sm.row))) [Mk bm bd V r.1.lv A Sh hs r.1.lab r.1.st il, Dk bd L, .own r.1.lv 9 1 (LS.map Wrow)])

theorem sm_le (k : Int) (nm : ByteArray) (I V : List T) (mx lb : Int) (tt ee : List Sm) {cI cV cT cE : C} (hI : CLe cI (.list (I.map T.row))) (hV : CLe cV (.list (V.map T.row))) (hT : CLe cT (.list (tt.map Sm.row))) (hE : CLe cE (.list (ee.map Sm.row))) :
    RowLe [.val (.int .i64 k), .val (.string nm), cI, cV, .val (.int .i64 mx), .val (.int .i64 lb), cT, cE] (Sm.row (.mk k nm I V mx lb tt ee)) := by
  rw [Sm.row_eq]
  exact .cons (.refl _) (.cons (.refl _) (.cons hI (.cons hV (.cons (.refl _) (.cons (.refl _) (.cons hT (.cons hE .nil)))))))
theorem sm_le' (k : Int) (nm : ByteArray) (I V : List T) (mx lb : Int) (tt ee : List Sm) {cI cV cT cE : C} (hI : CLe cI (.list (I.map T.row))) (hV : CLe cV (.list (V.map T.row))) (hT : CLe cT (.list (tt.map Sm.row))) (hE : CLe cE (.list (ee.map Sm.row))) :
    RowLe [.val (.int .i64 k), .val (.string nm), cI, cV, .val (.int .i64 mx), .val (.int .i64 lb), cT, cE] (Sm.row' (.mk k nm I V mx lb tt ee)) := by
  rw [← Sm.row_eq]; exact sm_le k nm I V mx lb tt ee hI hV hT hE
theorem ex1_le (e : T) : CLe (.list [e.row']) (.list ([e].map T.row)) := CLe.eq (by simp [T.row_eq])
section
variable {L : List Int} {bm bd : Nat} {V A : List ByteArray} {Sh : List Shd}

theorem loop_step (gv : Gv L V A Sh) (d : Nat) (hd10 : d ≤ 10) (hblk : BlockP L bm bd V A Sh d) : LoopP L bm bd V A Sh d := by
  intro m hs0 il LS x hm hm11 hil hil2 hLS hx
  obtain ⟨lv0, lab0, st0⟩ := m
  obtain ⟨⟨hlab0, hlab1⟩, hst0, hst1⟩ := hm
  dsimp only at hlab0 hlab1 hst0 hst1 hm11 ⊢
  refine con_intro Tryz.func224 rfl rfl (Nat.le_of_ble_eq_true rfl) (fun c hc => R_ (E_ r_ (T_ (R_ (M_ r_ (N_ r_ (F_ r_ (L_ 0 r_ (o_ r_ (bj_ r_ r_ g_ (N_ r_ (F_ r_ (W_ 0 r_ (T_ (R_ (M_ r_ ?_))))))))))))))))
  refine N_ r_ (F_ r_ (L_ 0 r_ (o_ r_ (bj_ r_ r_ g_ (N_ r_ (F_ r_ (W_ 0 r_ (T_ (am_ (jc_anyB 11 (some 10) rfl k_ k_ (yM_ r_ (yN_ r_ (yF_ r_ (yL_ 0 r_ (yM_ r_ (yN_ r_ ?_))))))))))))))))
  refine yF_ r_ (yL_ 0 r_ (aa_ (fun c => ow_callA [1] r_ r_ (gNext_c L _ _ gv.hL gv.hLn g_)) (aa_ (fun c => ow_exarg 31 rfl (fun i => bu_ rfl rfl rfl rfl rfl ⟨rfl, .refl _⟩)) (af_ (ae_ (afin_some rfl rfl rfl (fun bS => jl_slot 32 rfl (fun mx => S_ 0 r_ (T_ (am_ (R_ (M_ r_ (N_ r_ (F_ r_ (L_ 1 r_ ?_)))))))))))))))
  refine o_ r_ (bt_ [2] rfl rfl (Nx_c _ gv.hL gv.hLn g_) (fun k0 hk0 => o_ r_ (bn_ r_ r_ (T_ (jc_condd rfl (fun h3 => ?_) (fun h3 => ?_))))))
  · refine R_ (M_ r_ (o_ r_ (bt_ [2, 0] rfl rfl (gcondition_c gv.hL gv.hLn gv.hV0 gv.hV gv.hA gv.hSh) (fun e1 he1 => o_ r_ (bq_ r_ r_ b_ r_ r_ b_ (F_ r_ (W_ 2 r_ (T_ (R_ (M_ r_ (M_ r_ (o_ r_ (cg_ r_ r_ g_ (o_ r_ (ow_callNP [1, 1, 1] rfl rfl (hblk ⟨lv0, lab0 + 1, st0⟩ hs0 (il + 1) LS (x - 1) 2 ⟨⟨by dsimp only; omega, by dsimp only; omega⟩, hst0, hst1⟩ g_ g_ g_ g_ g_ g_) (fun r n hn hr => ?_))))))))))))))))
    obtain ⟨⟨lv2, lab2, st2⟩, v2, l2⟩ := r
    obtain ⟨hok2, hf2, hl2, hsh2, hcz2⟩ := hr
    dsimp only at hok2 hl2 hsh2 hcz2 ⊢
    refine jl_freezeF 46 0 rfl rfl (hf2.mono hn) (F_ r_ (W_ 3 r_ (T_ (R_ (M_ r_ (N_ r_ (F_ r_ (L_ 1 r_ (o_ r_ (cg_ r_ r_ g_ (N_ r_ (F_ r_ (W_ 1 r_ (T_ (R_ (A_ 1 r_ ?_))))))))))))))))
    refine o_ r_ (bq_ r_ r_ b_ r_ r_ b_ (E_ r_ (T_ (ar_ (aw_ (jq_sle 4 rfl (SLe.cell (CLe.list (.cons (sm_le 4 ⟨#[]⟩ [] [e1] mx.1 (lab0 + 1) l2 [] .nil (ex1_le e1) (.refl _) .nil) .nil))) ?_))))))
    have fin : ∀ K : S → List Ch → Prop, (∀ r : Ms × List Sm, (r.1.ok ∧ r.2.length ≤ 2 ∧ LpG V (usableF A Sh hs0) il (StG V A Sh d (il + 1) hs0) lab0 r.1.lab r.2 ∧ Mz r.2 (st0 + 1 - r.1.st)) → K (.cell (.list (r.2.map Sm.row))) [Mk bm bd V r.1.lv A Sh hs0 r.1.lab r.1.st il, Dk bd L, .own r.1.lv 9 1 (LS.map Wrow)]) →
        K (.cell (.list [Sm.row (.mk 4 ⟨#[]⟩ [] [e1] mx.1 (lab0 + 1) l2 [])])) [Mk bm bd V lv2 A Sh hs0 lab2 st2 (il + 1 - 1), Dk bd L, .own lv2 9 1 (LS.map Wrow)] := by
      intro K h
      rw [show il + 1 - 1 = il by omega]
      exact h (⟨lv2, lab2, st2⟩, [.mk 4 ⟨#[]⟩ [] [e1] mx.1 (lab0 + 1) l2 []]) ⟨hok2, by simp, ⟨by omega, by omega, .inl ⟨e1, mx.1, l2, he1, by have := mx.2; omega, hsh2, rfl⟩⟩, while_cz he1 hcz2⟩
    exact jq_ret1 rfl rfl [0, 1, 1] rfl fin
  · refine as_ (al_ (R_ (M_ r_ (o_ r_ (bt_ [2, 0, 1] rfl rfl (gtarget_c gv.hL gv.hLn gv.hV0 gv.hV g_) (fun tg htg => E_ r_ (T_ (R_ (M_ r_ (N_ r_ (F_ r_ (L_ 0 r_ (o_ r_ (bt_ [1] rfl rfl (Nx_c _ gv.hL gv.hLn g_) (fun sp hsp => o_ r_ (bj_ r_ r_ g_ (E_ r_ (T_ ?_))))))))))))))))))
    refine R_ (M_ r_ (N_ r_ (F_ r_ (L_ 1 r_ (o_ r_ (bt_ [0] rfl rfl (Nx_c _ gv.hL gv.hLn g_) (fun tp htp => o_ r_ (bm_ r_ (gNum_c _) (o_ r_ (bl_ r_ r_ (fun bl => S_ 0 r_ (T_ (am_ (R_ (M_ r_ (N_ r_ (F_ r_ (L_ 2 r_ ?_))))))))))))))))))
    refine o_ r_ (bt_ [1] rfl rfl (Nx_c _ gv.hL gv.hLn g_) (fun k4 hk4 => o_ r_ (bn_ r_ r_ (T_ ?_))))
    refine jc_cut (ι := T) [0, 1, 5, 6, 7, 8] (fun top => (∃ t, (0 ≤ t ∧ t ≤ 5) ∧ top = .nu t) ∨ ∃ s ∈ V, top = .nm s) (fun _ => []) (fun e => [Mk bm bd V lv0 A Sh hs0 (lab0 + 1) st0 (il + 1), Dk bd L, .own lv0 9 1 (LS.map Wrow), .blk bS 66 [.val (.int .i64 4), .val (.string ⟨#[]⟩), .val (.slice none 0 0), .val (.slice none 0 0), .val (.int .i64 mx.1), .val (.int .i64 (lab0 + 1)), .val (.slice none 0 0), .val (.slice none 0 0)], .blk bl 69 (T.row' e)]) ?_ ?_
    · refine jc_condd rfl (fun h2 => ?_) (fun h2 => ?_)
      · refine an_ (M_ r_ (M_ r_ (N_ r_ (F_ r_ (L_ 2 r_ (o_ r_ (bt_ [2, 0] rfl rfl (gname_c gv.hL gv.hLn V gv.hV0 (by have := gv.hV; omega)) (fun nm hnm => o_ r_ (bm_ r_ (gName_c _) (S_ 2 r_ (ak_ (jq_cut (T.nm nm) [1, 1, 1, 1, 0] (.inr ⟨nm, hnm, rfl⟩) rfl ?_))))))))))))
        (repeat (first | exact True.intro | refine ⟨rfl, ?_⟩))
      · refine as_ (jq_cut (T.nu tp) [2, 0, 1, 1, 0] (.inl ⟨tp, by omega, rfl⟩) rfl ?_)
        (repeat (first | exact True.intro | refine ⟨rfl, ?_⟩))
    · intro e8 he8
      refine R_ (M_ r_ (M_ r_ (N_ r_ (F_ r_ (L_ 0 r_ (M_ r_ (o_ r_ (bq_ r_ r_ b_ r_ r_ b_ (o_ r_ (ow_append1F 2 (tg) rfl rfl rfl rfl rfl rfl rfl (fun _ => rfl) (by show (_ + _) * 16 ≤ _; first | omega | (simp only [List.length_append]; omega)) (by first | omega | (simp only [List.length_append]; omega)) (fun lv1 hlv1 flv1 => N_ r_ (F_ r_ (W_ 1 r_ (T_ (am_ (jc_anyB 12 none rfl k_ k_ (yM_ r_ ?_)))))))))))))))))
      refine yN_ r_ (yF_ r_ (yL_ 0 r_ (aa_ (fun c => ow_callA [2] r_ r_ (gNext_c L _ _ gv.hL gv.hLn g_)) (aa_ (fun c => ow_exarg 98 rfl (fun i => bj_ rfl rfl (by have := i.2; omega) ⟨rfl, .refl _⟩)) (yM_ r_ (aa_ (fun c => bm_ r_ (gName_c _) p_) (aa_ (fun c => bs_ 4 r_ r_ r_ r_ p_) (aa_ (fun c => ow_exarg 99 rfl (fun i => bm_ rfl (gBin_c _ _ _) ⟨rfl, .refl _⟩)) ?_))))))))
      refine aa_ (fun c => ow_exarg 103 rfl (fun i => bq_ rfl rfl b_ rfl rfl b_ ⟨rfl, .refl _⟩)) (yF_ r_ (ae_ (afin_none (jl_slot 104 rfl (fun op => W_ 3 r_ (T_ (R_ (M_ r_ (M_ r_ (o_ r_ (cg_ r_ r_ g_ ?_)))))))))))
      have con := hblk ⟨lv1, lab0 + 1, st0⟩ hs0 (il + 1) (LS ++ [tg]) (x - 1) 2 ⟨⟨by dsimp only; omega, by dsimp only; omega⟩, hst0, hst1⟩ (by omega) (by omega) (by simp only [List.length_append, List.length_cons, List.length_nil]; omega) (by omega) (by omega) (by omega)
      dsimp only at con
      refine o_ r_ (ow_callNP [1, 2, 1] rfl rfl (con) (fun r n hn hr => ?_))
      obtain ⟨⟨lv2, lab2, st2⟩, v2, l2⟩ := r
      obtain ⟨hok2, hf2, hl2, hsh2, hcz2⟩ := hr
      dsimp only at hok2 hl2 hsh2 hf2 hcz2 ⊢
      refine M_ r_ (M_ r_ (o_ r_ (bm_ r_ (gName_c _) (M_ r_ (o_ r_ (bm_ r_ (gNum_c _) (o_ r_ (bm_ r_ (gBin_c _ _ _) (o_ r_ (bq_ r_ r_ b_ r_ r_ b_ (o_ r_ (bu_ r_ r_ r_ r_ r_ (o_ r_ (bq_ r_ r_ b_ r_ r_ b_ (jl_sle 118 rfl (SLe.cell (CLe.list (.cons (sm_le 1 tg [] [.bn 1 (.nm tg) (.nu (1 + sp))] 0 0 [] [] .nil (ex1_le _) .nil .nil) .nil))) ?_)))))))))))))))
      refine o_ r_ (ow_append1F 0 ((.mk 1 tg [] [.bn 1 (.nm tg) (.nu (1 + sp))] 0 0 [] [])) rfl rfl rfl rfl rfl rfl rfl (fun a => by rw [Sm.row_eq]; rfl) (by show (_ + _) * 136 ≤ _; first | omega | (simp only [List.length_append]; omega)) (by first | omega | (simp only [List.length_append]; omega)) (fun v3 hv3 fv3 => jl_freezeF 119 0 rfl rfl (fv3 (hf2.mono hn)) (F_ r_ (W_ 3 r_ (T_ (am_ ?_))))))
      have eL : (List.map Wrow (LS ++ [tg])).length = LS.length + 1 := by simp
      refine jc_anyB 12 none rfl k_ k_ (yM_ r_ (yM_ r_ (yN_ r_ (yF_ r_ (yL_ 1 r_ (yM_ r_ (yN_ r_ (yF_ r_ (yL_ 1 r_ (aa_ (fun c => cw_ 3 r_ r_ (fun hlen => p_)) (aa_ (fun c => cg_ r_ r_ g_ p_) ?_)))))))))))
      (first | refine any_op (fun c => ow_trim 3 rfl rfl rfl (by omega) (by omega) ⟨rfl, .refl _⟩) ?_ | refine any_op (fun c => ow_trim 2 rfl rfl rfl (by omega) (by omega) ⟨rfl, .refl _⟩) ?_ | refine any_op (fun c => ow_trim 4 rfl rfl rfl (by omega) (by omega) ⟨rfl, .refl _⟩) ?_)
      refine ae_ ?_
      try refine afin_none ?_
      rw [show ((((List.map Wrow (LS ++ [tg])).length : Nat) : Int) - 1).toNat = LS.length by omega]
      (first | refine jl_trim 3 LS.length rfl (by omega) ?_ | refine jl_trim 2 LS.length rfl (by omega) ?_ | refine jl_trim 4 LS.length rfl (by omega) ?_)
      rw [show (List.map Wrow (LS ++ [tg])).take LS.length = List.map Wrow LS by rw [List.map_append, List.take_left' (by simp)]]
      generalize trimV lv2 LS.length = lv3
      refine N_ r_ (F_ r_ (W_ 2 r_ (T_ (R_ (M_ r_ (N_ r_ (F_ r_ (L_ 0 r_ (o_ r_ (cg_ r_ r_ g_ (N_ r_ (F_ r_ (W_ 0 r_ (T_ (am_ (ao_ r_ r_ k_ k_ ?_))))))))))))))))
      refine yM_ r_ (yM_ r_ (yN_ r_ (yF_ r_ (yL_ 0 r_ (aa_ (fun c => ow_callA [3] r_ r_ (gNext_c L _ _ gv.hL gv.hLn g_)) (aa_ (fun c => ow_exarg 147 rfl (fun i => bm_ rfl (gNum_c _) ⟨rfl, .refl _⟩)) (aa_ (fun c => ow_exarg 148 rfl (fun i => bq_ rfl rfl b_ rfl rfl b_ ⟨rfl, .refl _⟩)) (aa_ (fun c => ow_exarg 149 rfl (fun i => bu_ rfl rfl rfl rfl rfl ⟨rfl, .refl _⟩)) (aa_ (fun c => bs_ 2 r_ r_ r_ r_ p_) ?_)))))))))
      refine aa_ (fun c => ow_exarg 150 rfl (fun i => bq_ rfl rfl b_ rfl rfl b_ ⟨rfl, .refl _⟩)) (yE_ r_ (ae_ (al_ (ar_ (jq_slot 4 rfl (fun i => ?_))))))
      refine jq_sle 4 rfl (SLe.cell (CLe.list (.cons (sm_le 1 tg [] [.nu i.1] 0 0 [] [] .nil (ex1_le _) .nil .nil) (.cons (sm_le 4 ⟨#[]⟩ [] [.bn (11 + op.1) (.nm tg) e8] mx.1 (lab0 + 1) (l2 ++ [(.mk 1 tg [] [.bn 1 (.nm tg) (.nu (1 + sp))] 0 0 [] [])]) [] .nil (ex1_le _) (.refl _) .nil) .nil)))) ?_
      have fin : ∀ K : S → List Ch → Prop, (∀ r : Ms × List Sm, (r.1.ok ∧ r.2.length ≤ 2 ∧ LpG V (usableF A Sh hs0) il (StG V A Sh d (il + 1) hs0) lab0 r.1.lab r.2 ∧ Mz r.2 (st0 + 1 - r.1.st)) → K (.cell (.list (r.2.map Sm.row))) [Mk bm bd V r.1.lv A Sh hs0 r.1.lab r.1.st il, Dk bd L, .own r.1.lv 9 1 (LS.map Wrow)]) →
          K (.cell (.list [Sm.row (.mk 1 tg [] [.nu i.1] 0 0 [] []), Sm.row (.mk 4 ⟨#[]⟩ [] [.bn (11 + op.1) (.nm tg) e8] mx.1 (lab0 + 1) (l2 ++ [.mk 1 tg [] [.bn 1 (.nm tg) (.nu (1 + sp))] 0 0 [] []]) [])])) [Mk bm bd V lv3 A Sh hs0 lab2 st2 (il + 1 - 1), Dk bd L, .own lv3 9 1 (LS.map Wrow)] := by
        intro K h
        rw [show il + 1 - 1 = il by omega]
        exact h (⟨lv3, lab2, st2⟩, [.mk 1 tg [] [.nu i.1] 0 0 [] [], .mk 4 ⟨#[]⟩ [] [.bn (11 + op.1) (.nm tg) e8] mx.1 (lab0 + 1) (l2 ++ [.mk 1 tg [] [.bn 1 (.nm tg) (.nu (1 + sp))] 0 0 [] []]) []])
          ⟨hok2, by simp, ⟨by clear he8; omega, by clear he8; omega, .inr ⟨tg, i.1, op.1, e8, mx.1, l2, 1 + sp, htg, by clear he8; have := i.2; omega, by clear he8; have := op.2; omega, he8, by clear he8; have := mx.2; omega, by clear he8 hok2; omega, hsh2, rfl⟩⟩, count_cz (by have := i.2; clear he8; omega) (by clear he8; omega) he8 hcz2⟩
      first | exact jq_ret1 rfl rfl [0, 1, 0] rfl fin | exact jq_ret1 rfl rfl [0, 2, 0] rfl fin | exact jq_ret1 rfl rfl [0, 3, 0] rfl fin | exact jq_ret1 rfl rfl [0, 4, 0] rfl fin
end
end Go.Proofs.YtalkkcfojplmdaaGreatDoor
end

section
namespace Go.Proofs.YtalkkcfojplmdaaGreatDoor
open Go.Vc
set_option maxHeartbeats 4000000
attribute [local irreducible] JL JC JQ OpWp Con ConN
theorem StG.inn {V A : List ByteArray} {Sh : List Shd} {d : Nat} {il : Int} {hs : ByteArray} {lab lab' : Int} {l : List Sm} (h : IfG V (usableF A Sh hs) (StG V A Sh d il hs) lab lab' l ∨ LpG V (usableF A Sh hs) il (StG V A Sh d (il + 1) hs) lab lab' l ∨ LkG Sh hs (StG V A Sh d il) lab lab' l) : StG V A Sh (d + 1) il hs lab lab' l := .inr h
attribute [local irreducible] StG Mz

section
variable {L : List Int} {bm bd : Nat} {V A : List ByteArray} {Sh : List Shd}

theorem stmt_step (gv : Gv L V A Sh) (d : Nat) (hd10 : d ≤ 10) (hblk : ∀ d', d = d' + 1 → BlockP L bm bd V A Sh d') (hloop : ∀ d', d = d' + 1 → LoopP L bm bd V A Sh d') : StmtP L bm bd V A Sh d := by
  intro m hs0 il LS x hm hil hil2 hLS hx
  obtain ⟨lv0, lab0, st0⟩ := m
  obtain ⟨⟨hlab0, hlab1⟩, hst0, hst1⟩ := hm
  dsimp only at hlab0 hlab1 hst0 hst1 ⊢
  refine con_intro Tryz.func181 rfl rfl (Nat.le_of_ble_eq_true rfl) (fun c hc => R_ (E_ r_ (T_ (R_ (M_ r_ (N_ r_ (F_ r_ (L_ 0 r_ (o_ r_ (bt_ [1] rfl rfl (Nx_c _ gv.hL gv.hLn g_) (fun k0 hk0 => E_ r_ (T_ (am_ (am_ (jc_cut (ι := Bool) [0, 1, 4, 5] (fun b => b = false → 0 < x ∧ lab0 < 12) (fun b => [(23, Bl b)]) (fun _ => [Mk bm bd V lv0 A Sh hs0 lab0 st0 il, Dk bd L, .own lv0 9 1 (LS.map Wrow)]) ?_ ?_)))))))))))))))
  · by_cases hx0 : x ≤ 0
    · refine an_ (M_ r_ (o_ r_ (cu_ r_ r_ (M_ r_ (ai_ r_ u_ b_ (ai_ r_ u_ b_ (ai_ r_ u_ b_ (ai_ r_ u_ b_ (ai_ r_ u_ b_ (o_ r_ (bp_ r_ u_ r_ (ak_ (jq_cut true [1, 0, 0] (by simp) rfl ?_)))))))))))))
      (repeat (first | exact True.intro | refine ⟨rfl, ?_⟩))
    · refine an_ (M_ r_ (o_ r_ (cu_ r_ r_ (M_ r_ (ah_ r_ w_ b_ (bd_ r_ (ah_ r_ w_ b_ (bh_ r_ (ah_ r_ w_ b_ (bf_ r_ r_ r_ b_ (ah_ r_ w_ b_ (bg_ 1 r_ r_ r_ r_ (ah_ r_ w_ b_ (cn_ r_ r_ (o_ r_ (bv_ r_ w_ r_ (ak_ (jq_cut (decide (12 ≤ lab0)) [1, 0, 0] (by simp; omega) rfl ?_))))))))))))))))))
      (repeat (first | exact True.intro | refine ⟨rfl, ?_⟩))
  intro b hb
  skip
  have ht : 0 ≤ k0 % 3 ∧ k0 % 3 ≤ 2 := by omega
  refine jc_cut (ι := Int) [0, 1, 4] (fun k => 0 ≤ k ∧ k ≤ 8 ∧ (2 < k → 0 < x ∧ lab0 < 12)) (fun k => [(5, In .i64 k)]) (fun _ => [Mk bm bd V lv0 A Sh hs0 lab0 st0 il, Dk bd L, .own lv0 9 1 (LS.map Wrow)]) ?_ ?_
  · refine jc_cond rfl (fun h => ?_) (fun h => ?_)
    · refine an_ (M_ r_ (o_ r_ (ow_rem64 r_ r_ g_ g_ (E_ r_ (ak_ (jq_cut (k0 % 3) [0, 0, 0] g_ rfl ?_))))))
      (repeat (first | exact True.intro | refine ⟨rfl, ?_⟩))
    · refine as_ (jq_cut k0 [0, 0, 0] ⟨hk0.1, by omega, fun _ => hb h⟩ rfl ?_)
      (repeat (first | exact True.intro | refine ⟨rfl, ?_⟩))
  intro k ⟨hk1, hk8, hkd⟩
  clear ht
  have fin1 : ∀ (s : Sm) (m : Ms), m.ok → StG V A Sh d il hs0 lab0 m.lab [s] → Mz [s] (st0 + 1 - m.st) → ∀ K : S → List Ch → Prop, (∀ r : Ms × List Sm, (r.1.ok ∧ r.2.length ≤ 2 ∧ StG V A Sh d il hs0 lab0 r.1.lab r.2 ∧ Mz r.2 (st0 + 1 - r.1.st)) → K (.cell (.list (r.2.map Sm.row))) [Mk bm bd V r.1.lv A Sh hs0 r.1.lab r.1.st il, Dk bd L, .own r.1.lv 9 1 (LS.map Wrow)]) →
      K (.cell (.list [s.row])) [Mk bm bd V m.lv A Sh hs0 m.lab m.st il, Dk bd L, .own m.lv 9 1 (LS.map Wrow)] :=
    fun s m hm hs hz K h => h (m, [s]) ⟨hm, by simp, hs, hz⟩
  have fin0 : ∀ (s : Sm), LeafG V (usableF A Sh hs0) lab0 lab0 [s] → ∀ K : S → List Ch → Prop, (∀ r : Ms × List Sm, (r.1.ok ∧ r.2.length ≤ 2 ∧ StG V A Sh d il hs0 lab0 r.1.lab r.2 ∧ Mz r.2 (st0 + 1 - r.1.st)) → K (.cell (.list (r.2.map Sm.row))) [Mk bm bd V r.1.lv A Sh hs0 r.1.lab r.1.st il, Dk bd L, .own r.1.lv 9 1 (LS.map Wrow)]) →
      K (.cell (.list [s.row])) [Mk bm bd V lv0 A Sh hs0 lab0 st0 il, Dk bd L, .own lv0 9 1 (LS.map Wrow)] :=
    fun s hs => fin1 s ⟨lv0, lab0, st0⟩ ⟨⟨hlab0, hlab1⟩, hst0, hst1⟩ (.leaf hs) ((leaf_cz hs).eq (by dsimp only; omega))
  have hU := usable_len A Sh hs0
  have hUA := gv.hA
  have hUS := gv.hSh
  refine am_ (R_ (M_ r_ (T_ (jc_cut (ι := Unit) [0, 1] (fun _ => True) (fun _ => []) (fun _ => [Mk bm bd V lv0 A Sh hs0 lab0 st0 il, Dk bd L, .own lv0 9 1 (LS.map Wrow)]) ?_ ?_))))
  · refine au_ (R_ (o_ r_ (bn_ r_ r_ (E_ r_ (T_ (jc_condd rfl (fun h1 => ?_) (fun h1 => ?_)))))))
    · refine R_ (M_ r_ (o_ r_ (bi_ [0] r_ r_ (gusable_c gv.hA gv.hSh) (E_ r_ (T_ (R_ (M_ r_ (o_ r_ (br_ r_ (fun hlen => o_ r_ (bz_ r_ r_ (T_ (jc_condd rfl (fun hp => ?_) (fun hp => ?_))))))))))))))
      · simp only [List.length_map] at hp
        refine R_ (M_ r_ (M_ r_ (o_ r_ (bt_ [0, 0] rfl rfl (gname_c gv.hL gv.hLn (usableF A Sh hs0) g_ g_) (fun s1 hs1 => M_ r_ (o_ r_ (bt_ [0, 0] rfl rfl (gexpr_c gv.hL gv.hLn gv.hV0 gv.hV gv.hA gv.hSh 1 1 g_ g_ g_) (fun e1 he1 => o_ r_ (bq_ r_ r_ b_ r_ r_ b_ (M_ r_ (o_ r_ (bt_ [0, 0] rfl rfl (gexpr_c gv.hL gv.hLn gv.hV0 gv.hV gv.hA gv.hSh 2 2 g_ g_ g_) (fun e2 he2 => o_ r_ (bq_ r_ r_ b_ r_ r_ b_ ?_))))))))))))))
        exact o_ r_ (bu_ r_ r_ r_ r_ r_ (o_ r_ (bq_ r_ r_ b_ r_ r_ b_ (E_ r_ (T_ (ar_ (az_ (aw_ (jq_sle 4 rfl (SLe.cell (CLe.list (.cons (sm_le 2 s1 [e1] [e2] 0 0 [] [] (ex1_le e1) (ex1_le e2) .nil .nil) .nil))) (jq_ret1 rfl rfl [0, 0, 0] rfl (fin0 _ ⟨rfl, .inr ⟨s1, e1, e2, hs1, he1, he2, rfl⟩⟩)))))))))))
      · refine as_ (ay_ (jq_cut () [0, 0, 0] trivial rfl ?_))
        (repeat (first | exact True.intro | refine ⟨rfl, ?_⟩))
    · refine am_ (jc_cut (ι := Bool) [0, 1, 26] (fun b => b = decide (k = 3 ∨ k = 4 ∨ k = 5)) (fun b => [(45, Bl b)]) (fun _ => [Mk bm bd V lv0 A Sh hs0 lab0 st0 il, Dk bd L, .own lv0 9 1 (LS.map Wrow)]) ?_ ?_)
      · refine R_ (o_ r_ (bn_ r_ r_ (E_ r_ (T_ (jc_condd rfl (fun h3 => ?_) (fun h3 => ?_))))))
        · refine as_ (jq_cut (decide (k = 3)) [0, 0, 0] (by rw [decide_eq_decide]; omega) rfl ?_)
          (repeat (first | exact True.intro | refine ⟨rfl, ?_⟩))
        · refine R_ (o_ r_ (bn_ r_ r_ (E_ r_ (T_ (jc_condd rfl (fun h4 => ?_) (fun h4 => ?_))))))
          · refine as_ (jq_cut (decide (k = 4)) [0, 0, 0] (by rw [decide_eq_decide]; omega) rfl ?_)
            (repeat (first | exact True.intro | refine ⟨rfl, ?_⟩))
          · refine an_ (o_ r_ (bn_ r_ r_ (E_ r_ (ak_ (jq_cut (decide (k = 5)) [0, 0, 0] (by rw [decide_eq_decide]; omega) rfl ?_)))))
            (repeat (first | exact True.intro | refine ⟨rfl, ?_⟩))
      intro b hb
      refine jc_cond rfl (fun hbt => ?_) (fun hbt => ?_)
      · have hk3 : k = 3 ∨ k = 4 ∨ k = 5 := by rw [hb] at hbt; exact of_decide_eq_true hbt
        obtain ⟨hx0, hl12⟩ := hkd (by omega)
        obtain ⟨d', rfl⟩ : ∃ d', d = d' + 1 := ⟨d - 1, by omega⟩
        have hblk := hblk d' rfl
        clear hloop
        refine R_ (M_ r_ (N_ r_ (F_ r_ (L_ 0 r_ (o_ r_ (bj_ r_ r_ g_ (N_ r_ (F_ r_ (W_ 0 r_ (T_ (am_ (jc_anyB 9 (some 8) rfl k_ k_ (yM_ r_ (yN_ r_ (yF_ r_ (yL_ 0 r_ ?_))))))))))))))))
        refine yM_ r_ (aa_ (fun c => ow_callA [0, 0] r_ r_ (con_toEx (gcondition_c gv.hL gv.hLn gv.hV0 gv.hV gv.hA gv.hSh))) (aa_ (fun c => ow_exarg 61 rfl (fun i => bq_ rfl rfl b_ rfl rfl b_ ⟨rfl, .refl _⟩)) (aa_ (fun c => ow_exarg 62 rfl (fun i => bu_ rfl rfl rfl rfl rfl ⟨rfl, .refl _⟩)) (af_ (ae_ (afin_some rfl rfl rfl (fun bS => jl_slot 63 rfl (fun e1 => S_ 0 r_ (T_ (R_ (M_ r_ (M_ r_ (o_ r_ (cg_ r_ r_ g_ ?_))))))))))))))
        refine o_ r_ (ow_callNP [1, 1, 1] rfl rfl (hblk ⟨lv0, lab0 + 1, st0⟩ hs0 il LS (x - 1) 2 ⟨⟨by dsimp only; omega, by dsimp only; omega⟩, hst0, hst1⟩ hil hil2 hLS g_ g_ g_) (fun r n hn hr => ?_))
        obtain ⟨⟨lv1, lab1, st1⟩, v1, l1⟩ := r
        obtain ⟨hok1, hf1, hl1, hsh1, hcz1⟩ := hr
        dsimp only at hok1 hl1 hsh1 hf1 hcz1 ⊢
        refine jl_freezeF 67 0 rfl rfl (hf1.mono hn) (F_ r_ (W_ 3 r_ (T_ (am_ ?_))))
        refine jc_cut (ι := Ms × List Sm) [0, 1, 7] (fun r => r.1.ok ∧ r.2.length ≤ 4 ∧ (r.2 = [] ∧ r.1.lab = lab1 ∨ BlG (StG V A Sh d' il hs0) 2 lab1 r.1.lab r.2) ∧ Mz r.2 (st1 - r.1.st)) (fun _ => []) (fun r => [Mk bm bd V r.1.lv A Sh hs0 r.1.lab r.1.st il, Dk bd L, .own r.1.lv 9 1 (LS.map Wrow), .blk bS 66 (Sm.row' (.mk 3 ⟨#[]⟩ [] [e1.1] 0 (lab0 + 1) l1 r.2))]) ?_ ?_
        · refine R_ (M_ r_ (N_ r_ (F_ r_ (L_ 1 r_ (o_ r_ (bt_ [2] rfl rfl (Nx_c _ gv.hL gv.hLn g_) (fun k4 hk4 => o_ r_ (bn_ r_ r_ (T_ (jc_condd rfl (fun h2 => ?_) (fun h2 => ?_)))))))))))
          · refine an_ (M_ r_ (M_ r_ (o_ r_ (cg_ r_ r_ g_ (o_ r_ (ow_callNP [2, 0, 1] rfl rfl (hblk ⟨lv1, lab1, st1⟩ hs0 il LS (x - 1) 2 hok1 hil hil2 hLS g_ g_ g_) (fun r n2 hn2 hr => ?_)))))))
            obtain ⟨⟨lv2, lab2, st2⟩, v2, l2⟩ := r
            obtain ⟨hok2, hf2, hl2, hsh2, hcz2⟩ := hr
            dsimp only at hok2 hl2 hsh2 hf2 hcz2 ⊢
            refine jl_freezeF 78 0 rfl rfl (hf2.mono hn2) (F_ r_ (W_ 3 r_ (ak_ ?_)))
            (first | refine jq_row 0 _ rfl (sm_le' 3 ⟨#[]⟩ [] [e1.1] 0 (lab0 + 1) l1 l2 .nil (ex1_le e1.1) (.refl _) (.refl _)) ?_ | refine jq_row 1 _ rfl (sm_le' 3 ⟨#[]⟩ [] [e1.1] 0 (lab0 + 1) l1 l2 .nil (ex1_le e1.1) (.refl _) (.refl _)) ?_ | refine jq_row 2 _ rfl (sm_le' 3 ⟨#[]⟩ [] [e1.1] 0 (lab0 + 1) l1 l2 .nil (ex1_le e1.1) (.refl _) (.refl _)) ?_ | refine jq_row 3 _ rfl (sm_le' 3 ⟨#[]⟩ [] [e1.1] 0 (lab0 + 1) l1 l2 .nil (ex1_le e1.1) (.refl _) (.refl _)) ?_)
            (first | refine jq_cut (⟨lv2, lab2, st2⟩, l2) [1, 1, 1, 0] ⟨hok2, by dsimp only; omega, .inr hsh2, hcz2⟩ rfl ?_ | refine jq_cut (⟨lv2, lab2, st2⟩, l2) [1, 2, 1, 0] ⟨hok2, by dsimp only; omega, .inr hsh2, hcz2⟩ rfl ?_ | refine jq_cut (⟨lv2, lab2, st2⟩, l2) [2, 1, 1, 0] ⟨hok2, by dsimp only; omega, .inr hsh2, hcz2⟩ rfl ?_ | refine jq_cut (⟨lv2, lab2, st2⟩, l2) [2, 2, 1, 0] ⟨hok2, by dsimp only; omega, .inr hsh2, hcz2⟩ rfl ?_ | refine jq_cut (⟨lv2, lab2, st2⟩, l2) [3, 1, 1, 0] ⟨hok2, by dsimp only; omega, .inr hsh2, hcz2⟩ rfl ?_ | refine jq_cut (⟨lv2, lab2, st2⟩, l2) [3, 2, 1, 0] ⟨hok2, by dsimp only; omega, .inr hsh2, hcz2⟩ rfl ?_)
            (repeat (first | exact True.intro | refine ⟨rfl, ?_⟩))
          · refine as_ ?_
            (first | refine jq_row 0 _ rfl (sm_le' 3 ⟨#[]⟩ [] [e1.1] 0 (lab0 + 1) l1 [] .nil (ex1_le e1.1) (.refl _) .nil) ?_ | refine jq_row 1 _ rfl (sm_le' 3 ⟨#[]⟩ [] [e1.1] 0 (lab0 + 1) l1 [] .nil (ex1_le e1.1) (.refl _) .nil) ?_ | refine jq_row 2 _ rfl (sm_le' 3 ⟨#[]⟩ [] [e1.1] 0 (lab0 + 1) l1 [] .nil (ex1_le e1.1) (.refl _) .nil) ?_ | refine jq_row 3 _ rfl (sm_le' 3 ⟨#[]⟩ [] [e1.1] 0 (lab0 + 1) l1 [] .nil (ex1_le e1.1) (.refl _) .nil) ?_)
            (first | refine jq_cut (⟨lv1, lab1, st1⟩, []) [1, 1, 1, 0] ⟨hok1, by simp, .inl ⟨rfl, rfl⟩, nil_cz⟩ rfl ?_ | refine jq_cut (⟨lv1, lab1, st1⟩, []) [1, 2, 1, 0] ⟨hok1, by simp, .inl ⟨rfl, rfl⟩, nil_cz⟩ rfl ?_ | refine jq_cut (⟨lv1, lab1, st1⟩, []) [2, 1, 1, 0] ⟨hok1, by simp, .inl ⟨rfl, rfl⟩, nil_cz⟩ rfl ?_ | refine jq_cut (⟨lv1, lab1, st1⟩, []) [2, 2, 1, 0] ⟨hok1, by simp, .inl ⟨rfl, rfl⟩, nil_cz⟩ rfl ?_ | refine jq_cut (⟨lv1, lab1, st1⟩, []) [3, 1, 1, 0] ⟨hok1, by simp, .inl ⟨rfl, rfl⟩, nil_cz⟩ rfl ?_ | refine jq_cut (⟨lv1, lab1, st1⟩, []) [3, 2, 1, 0] ⟨hok1, by simp, .inl ⟨rfl, rfl⟩, nil_cz⟩ rfl ?_)
            (repeat (first | exact True.intro | refine ⟨rfl, ?_⟩))
        · rintro ⟨⟨lv2, lab2, st2⟩, l2⟩ ⟨hok2, hl2, hsh2, hcz2⟩
          dsimp only at hok2 hl2 hsh2 hcz2 ⊢
          exact R_ (A_ 3 r_ (o_ r_ (bq_ r_ r_ b_ r_ r_ b_ (E_ r_ (T_ (ar_ (az_ (aw_ (jq_sle 4 rfl (SLe.cell (CLe.list (.cons (sm_le 3 ⟨#[]⟩ [] [e1.1] 0 (lab0 + 1) l1 l2 (.refl _) (.refl _) (.refl _) (.refl _)) .nil))) (jq_ret1 rfl rfl [0, 0, 0] rfl (fin1 _ ⟨lv2, lab2, st2⟩ hok2 (.inn (.inl ⟨hl12, e1.1, l1, l2, lab1, e1.2, hsh1, hsh2, rfl⟩)) (if_cz e1.2 hcz1 hcz2))))))))))))
      · refine am_ (jc_cut (ι := Bool) [0, 1, 26] (fun b => b = decide (k = 6 ∨ k = 7)) (fun b => [(82, Bl b)]) (fun _ => [Mk bm bd V lv0 A Sh hs0 lab0 st0 il, Dk bd L, .own lv0 9 1 (LS.map Wrow)]) ?_ ?_)
        · refine R_ (o_ r_ (bn_ r_ r_ (E_ r_ (T_ (jc_condd rfl (fun h6 => ?_) (fun h6 => ?_))))))
          · refine as_ (jq_cut (decide (k = 6)) [0, 0, 0] (by rw [decide_eq_decide]; omega) rfl ?_)
            (repeat (first | exact True.intro | refine ⟨rfl, ?_⟩))
          · refine an_ (o_ r_ (bn_ r_ r_ (E_ r_ (ak_ (jq_cut (decide (k = 7)) [0, 0, 0] (by rw [decide_eq_decide]; omega) rfl ?_)))))
            (repeat (first | exact True.intro | refine ⟨rfl, ?_⟩))
        intro b hb
        refine jc_cond rfl (fun hbt => ?_) (fun hbt => ?_)
        · have hk6 : k = 6 ∨ k = 7 := by rw [hb] at hbt; exact of_decide_eq_true hbt
          obtain ⟨hx0, hl12⟩ := hkd (by omega)
          obtain ⟨d', rfl⟩ : ∃ d', d = d' + 1 := ⟨d - 1, by omega⟩
          have hloop := hloop d' rfl
          clear hblk
          refine R_ (M_ r_ (N_ r_ (F_ r_ (L_ 0 r_ (o_ r_ (bw_ r_ r_ (T_ (jc_condd rfl (fun hil1 => ?_) (fun hil1 => ?_)))))))))
          · refine R_ (M_ r_ (M_ r_ (o_ r_ (bt_ [0, 0, 0] rfl rfl (hloop ⟨lv0, lab0, st0⟩ hs0 il LS x ⟨⟨hlab0, hlab1⟩, hst0, hst1⟩ (by dsimp only; omega) hil g_ hLS hx) (fun r hr => ?_)))))
            obtain ⟨m1, l1⟩ := r
            dsimp only at hr ⊢
            exact E_ r_ (T_ (ar_ (az_ (aw_ (jq_ret1 rfl rfl [0, 0, 0] rfl (fun K h => h (m1, l1) ⟨hr.1, hr.2.1, .inn (.inr (.inl hr.2.2.1)), hr.2.2.2⟩))))))
          · refine as_ (ay_ (jq_cut () [0, 0, 0] trivial rfl ?_))
            (repeat (first | exact True.intro | refine ⟨rfl, ?_⟩))
        · refine R_ (o_ r_ (bn_ r_ r_ (E_ r_ (T_ (jc_condd rfl (fun h8 => ?_) (fun h8 => ?_))))))
          · obtain ⟨hx0, hl12⟩ := hkd (by omega)
            obtain ⟨d', rfl⟩ : ∃ d', d = d' + 1 := ⟨d - 1, by omega⟩
            have hblk := hblk d' rfl
            clear hloop
            refine am_ (jc_cut (ι := Bool) [0, 1] (fun b => b = true → hs0 = ⟨#[]⟩ ∧ 0 < Sh.length) (fun b => [(107, Bl b)]) (fun _ => [Mk bm bd V lv0 A Sh hs0 lab0 st0 il, Dk bd L, .own lv0 9 1 (LS.map Wrow)]) ?_ ?_)
            · by_cases hh : hs0 = ⟨#[]⟩
              · refine an_ (M_ r_ (N_ r_ (F_ r_ (L_ 0 r_ (o_ r_ (cs_ r_ r_ (M_ r_ (ah_ r_ u_ b_ (bd_ r_ (ah_ r_ u_ b_ (bh_ r_ (ah_ r_ u_ b_ (bf_ r_ r_ r_ b_ (ah_ r_ u_ b_ (bg_ 0 r_ r_ r_ r_ (ah_ r_ u_ b_ (br_ r_ (fun hlen => ah_ r_ u_ b_ (bz_ r_ r_ (o_ r_ (bp_ r_ u_ r_ (ak_ (jq_cut (decide (0 < ((Sh.map ShRow).length : Int))) [0, 0, 0] (by simp [hh]) rfl ?_)))))))))))))))))))))))
                (repeat (first | exact True.intro | refine ⟨rfl, ?_⟩))
              · refine an_ (M_ r_ (N_ r_ (F_ r_ (L_ 0 r_ (o_ r_ (cs_ r_ r_ (M_ r_ (ai_ r_ w_ b_ (ai_ r_ w_ b_ (ai_ r_ w_ b_ (ai_ r_ w_ b_ (ai_ r_ w_ b_ (ai_ r_ w_ b_ (o_ r_ (bv_ r_ w_ r_ (ak_ (jq_cut false [0, 0, 0] (by simp) rfl ?_)))))))))))))))))
                (repeat (first | exact True.intro | refine ⟨rfl, ?_⟩))
            intro b2 hb2
            refine jc_cond rfl (fun hbt => ?_) (fun hbt => ?_)
            · obtain ⟨rfl, hSh0⟩ := hb2 hbt
              have hShm := gv.hSh
              have eSh : (Sh.map ShRow).length = Sh.length := List.length_map _
              refine am_ (jc_anyB 18 none rfl k_ k_ (yM_ r_ (yM_ r_ (yN_ r_ (yF_ r_ (yL_ 0 r_ (yM_ r_ (yN_ r_ (yF_ r_ (yL_ 0 r_ (yM_ r_ (yN_ r_ (yF_ r_ (yL_ 0 r_ (aa_ (fun c => br_ r_ (fun hlen => p_)) ?_)))))))))))))))
              refine aa_ (fun c => ow_callA [1] r_ r_ (gNext_c L _ _ gv.hL gv.hLn g_)) (aa_ (fun c => ow_exarg 122 rfl (fun i => cv_ rfl rfl (by have := i.2; omega) (by have := i.2; omega) rfl rfl b_ ⟨rfl, .refl _⟩)) (aa_ (fun c => ow_exarg 123 rfl (fun i => cf_ rfl rfl rfl b_ rfl b_ ⟨rfl, .refl _⟩)) (aa_ (fun c => ow_exarg 124 rfl (fun i => cb_ rfl rfl ⟨rfl, .refl _⟩)) (ae_ (afin_none (jl_slot 125 rfl (fun i => N_ r_ (F_ r_ ?_))))))))
              refine W_ 0 r_ (T_ (R_ (M_ r_ (N_ r_ (F_ r_ (L_ 0 r_ (E_ r_ (T_ (R_ (M_ r_ (M_ r_ (M_ r_ (o_ r_ (cg_ r_ r_ g_ (o_ r_ (ow_callNP [0, 0, 0] rfl rfl (hblk ⟨lv0, lab0, st0⟩ Sh[i.1.toNat].2.2 il LS (x - 1) 2 ⟨⟨hlab0, hlab1⟩, hst0, hst1⟩ hil hil2 hLS g_ g_ g_) (fun r n hn hr => ?_)))))))))))))))))
              obtain ⟨⟨lv1, lab1, st1⟩, v1, l1⟩ := r
              obtain ⟨hok1, hf1, hl1, hsh1, hcz1⟩ := hr
              dsimp only at hok1 hl1 hsh1 hf1 hcz1 ⊢
              refine jl_freezeF 136 0 rfl rfl (hf1.mono hn) (o_ r_ (bu_ r_ r_ r_ r_ r_ (o_ r_ (bl_ r_ r_ (fun bl => S_ 0 r_ (T_ (R_ (M_ r_ (N_ r_ (F_ r_ (W_ 1 r_ (T_ (R_ (A_ 1 r_ (o_ r_ (bq_ r_ r_ b_ r_ r_ b_ (E_ r_ (T_ ?_))))))))))))))))))
              refine ar_ (az_ (aw_ (jq_sle 4 rfl (SLe.cell (CLe.list (.cons (sm_le 5 Sh[i.1.toNat].2.2 [] [] 0 0 l1 [] .nil .nil (.refl _) .nil) .nil))) ?_)))
              first | exact jq_ret1 rfl rfl [0, 1, 1] rfl (fin1 _ ⟨lv1, lab1, st1⟩ hok1 (.inn (.inr (.inr ⟨rfl, _, List.getElem_mem (h := by have := i.2; omega), l1, hsh1, rfl⟩))) (lock_cz hcz1)) | exact jq_ret1 rfl rfl [0, 2, 1] rfl (fin1 _ ⟨lv1, lab1, st1⟩ hok1 (.inn (.inr (.inr ⟨rfl, _, List.getElem_mem (h := by have := i.2; omega), l1, hsh1, rfl⟩))) (lock_cz hcz1)) | exact jq_ret1 rfl rfl [0, 0, 0] rfl (fin1 _ ⟨lv1, lab1, st1⟩ hok1 (.inn (.inr (.inr ⟨rfl, _, List.getElem_mem (h := by have := i.2; omega), l1, hsh1, rfl⟩))) (lock_cz hcz1)) | exact jq_ret1 rfl rfl [0, 0, 1] rfl (fin1 _ ⟨lv1, lab1, st1⟩ hok1 (.inn (.inr (.inr ⟨rfl, _, List.getElem_mem (h := by have := i.2; omega), l1, hsh1, rfl⟩))) (lock_cz hcz1)) | exact jq_ret1 rfl rfl [0, 1, 0] rfl (fin1 _ ⟨lv1, lab1, st1⟩ hok1 (.inn (.inr (.inr ⟨rfl, _, List.getElem_mem (h := by have := i.2; omega), l1, hsh1, rfl⟩))) (lock_cz hcz1)) | exact jq_ret1 rfl rfl [1, 0, 0] rfl (fin1 _ ⟨lv1, lab1, st1⟩ hok1 (.inn (.inr (.inr ⟨rfl, _, List.getElem_mem (h := by have := i.2; omega), l1, hsh1, rfl⟩))) (lock_cz hcz1)) | exact jq_ret1 rfl rfl [1, 1, 0] rfl (fin1 _ ⟨lv1, lab1, st1⟩ hok1 (.inn (.inr (.inr ⟨rfl, _, List.getElem_mem (h := by have := i.2; omega), l1, hsh1, rfl⟩))) (lock_cz hcz1))
            · refine as_ (ay_ (jq_cut () [0, 0, 0] trivial rfl ?_))
              (repeat (first | exact True.intro | refine ⟨rfl, ?_⟩))
          · refine as_ (ay_ (jq_cut () [0, 0, 0] trivial rfl ?_))
            (repeat (first | exact True.intro | refine ⟨rfl, ?_⟩))
  · intro _ _
    refine R_ (M_ r_ (o_ r_ (bt_ [0, 0, 0] rfl rfl (gtarget_c gv.hL gv.hLn gv.hV0 gv.hV g_) (fun s1 hs1 => M_ r_ (o_ r_ (bt_ [0, 0] rfl rfl (gexpr_c gv.hL gv.hLn gv.hV0 gv.hV gv.hA gv.hSh 2 2 g_ g_ g_) (fun e1 he1 => o_ r_ (bq_ r_ r_ b_ r_ r_ b_ (o_ r_ (bu_ r_ r_ r_ r_ r_ (o_ r_ (bq_ r_ r_ b_ r_ r_ b_ (E_ r_ (T_ (ar_ ?_)))))))))))))))
    exact jq_sle 4 rfl (SLe.cell (CLe.list (.cons (sm_le 1 s1 [] [e1] 0 0 [] [] .nil (ex1_le e1) .nil .nil) .nil))) (jq_ret1 rfl rfl [0, 0, 0] rfl (fin0 _ ⟨rfl, .inl ⟨s1, e1, hs1, he1, rfl⟩⟩))
end
end Go.Proofs.YtalkkcfojplmdaaGreatDoor
end

section
namespace Go.Proofs.YtalkkcfojplmdaaGreatDoor
open Go.Vc
attribute [local irreducible] JL JC JQ OpWp Con ConN

section
variable {L : List Int} {bm bd : Nat} {V A : List ByteArray} {Sh : List Shd}
theorem maker_c (gv : Gv L V A Sh) : ∀ d : Nat, d ≤ 10 → StmtP L bm bd V A Sh d ∧ BlockP L bm bd V A Sh d ∧ LoopP L bm bd V A Sh d
  | 0, h => by
    have h1 : StmtP L bm bd V A Sh 0 := stmt_step gv 0 h (fun d' h => by omega) (fun d' h => by omega)
    have h2 := block_step gv 0 h1
    exact ⟨h1, h2, loop_step gv 0 h h2⟩
  | d + 1, h => by
    obtain ⟨_, g2, g3⟩ := maker_c gv d (by omega)
    have e2 : ∀ d', d + 1 = d' + 1 → BlockP L bm bd V A Sh d' := fun d' e => by
      have e : d' = d := by omega
      subst e
      exact g2
    have e3 : ∀ d', d + 1 = d' + 1 → LoopP L bm bd V A Sh d' := fun d' e => by
      have e : d' = d := by omega
      subst e
      exact g3
    have h1 := stmt_step gv (d + 1) h e2 e3
    have h2 := block_step gv (d + 1) h1
    exact ⟨h1, h2, loop_step gv (d + 1) h h2⟩
end

theorem flat_szs {f : Sm → List Int} (h : ∀ s, (f s).length ≤ s.sz) : ∀ l : List Sm, (l.flatMap f).length ≤ Sm.szs l
  | [] => by simp
  | s :: l => by
    have := flat_szs h l
    have := h s
    simp only [List.flatMap_cons, List.length_append, Sm.szs]
    omega
theorem rlOne_le : ∀ (f : Nat) (s : Sm), (rlOne f s).length ≤ s.sz
  | 0, s => by simp [rlOne]
  | f + 1, s => by
    have h1 := flat_szs (rlOne_le f) s.thn
    have h2 := flat_szs (rlOne_le f) s.els
    have h3 : (rlSelf s).length ≤ 1 := by unfold rlSelf; split <;> simp
    simp only [rlOne, List.length_append, Sm.sz_eq s]
    omega
theorem ifs_le (l : List Sm) : (ifsOf l).length ≤ Sm.szs l := flat_szs (rlOne_le 20) l
def cntG : Nat → Nat
  | 0 => 1
  | d + 1 => 3 + 4 * cntG d
theorem cntG_pos (d : Nat) : 1 ≤ cntG d := by cases d <;> simp [cntG]; omega
theorem pc_szs {St : Int → Int → List Sm → Prop} {n : Nat} (h : ∀ a b l, St a b l → Sm.szs l ≤ n) {k : Nat} {a b : Int} {l : List Sm} (hp : PcG St k a b l) : Sm.szs l ≤ k * n := by
  induction hp with
  | nil => simp [Sm.szs]
  | snoc k _ _ _ l l2 _ h2 ih =>
    have := h _ _ _ h2
    rw [Sm.szs_app, Nat.add_mul]
    omega
theorem bl_szs {St : Int → Int → List Sm → Prop} {n : Nat} (h : ∀ a b l, St a b l → Sm.szs l ≤ n) {m : Nat} {a b : Int} {l : List Sm} (hp : BlG St m a b l) : Sm.szs l ≤ m * n := by
  obtain ⟨k, hk, hp⟩ := hp
  exact Nat.le_trans (pc_szs h hp) (Nat.mul_le_mul_right _ (by omega))
theorem StG_szs {V A : List ByteArray} {Sh : List Shd} : ∀ (d : Nat) (il : Int) (hs : ByteArray) (a b : Int) (l : List Sm), StG V A Sh d il hs a b l → Sm.szs l ≤ cntG d := by
  have leaf : ∀ {U : List ByteArray} {a b : Int} {l : List Sm}, LeafG V U a b l → Sm.szs l = 1 := by
    rintro U a b l ⟨_, ⟨s, e, _, _, rfl⟩ | ⟨s, e, e2, _, _, _, rfl⟩⟩ <;> simp [Sm.szs, Sm.sz]
  intro d
  induction d with
  | zero =>
    intro il hs a b l h
    have := leaf h
    simp [cntG, this]
  | succ d ih =>
    intro il hs a b l h
    have b2 : ∀ il hs a b l, BlG (StG V A Sh d il hs) 2 a b l → Sm.szs l ≤ 2 * cntG d := fun il hs a b l h => bl_szs (m := 2) (ih il hs) h
    have hp := cntG_pos d
    rcases h with h | h | h | h
    · have := leaf h
      simp only [cntG]
      omega
    · obtain ⟨_, c, l1, l2, lab1, _, h1, h2, rfl⟩ := h
      have e1 := b2 _ _ _ _ _ h1
      have e2 : Sm.szs l2 ≤ 2 * cntG d := by
        rcases h2 with ⟨rfl, _⟩ | h2
        · simp [Sm.szs]
        · exact b2 _ _ _ _ _ h2
      simp only [Sm.szs, Sm.sz, cntG]
      omega
    · obtain ⟨_, _, h | h⟩ := h
      · obtain ⟨c, mx, l1, _, _, h1, rfl⟩ := h
        have e1 := b2 _ _ _ _ _ h1
        simp only [Sm.szs, Sm.sz, cntG]
        omega
      · obtain ⟨v, n, op, top, mx, l1, st, _, _, _, _, _, _, h1, rfl⟩ := h
        have e1 := b2 _ _ _ _ _ h1
        simp only [Sm.szs, Sm.sz, cntG, Sm.szs_app]
        omega
    · obtain ⟨_, sh, _, l1, h1, rfl⟩ := h
      have e1 := b2 _ _ _ _ _ h1
      simp only [Sm.szs, Sm.sz, cntG]
      omega
theorem body_szs {V A : List ByteArray} {Sh : List Shd} {a b : Int} {l : List Sm} (h : BlG (StG V A Sh 3 0 E0) 5 a b l) : Sm.szs l ≤ 635 := bl_szs (m := 5) (StG_szs 3 0 E0) h
end Go.Proofs.YtalkkcfojplmdaaGreatDoor
end

section
namespace Go.Proofs.YtalkkcfojplmdaaGreatDoor
open Go.Vc
attribute [local irreducible] JL JC JQ OpWp Con ConN
attribute [local irreducible] byteAt runLen isL isD isName hasW
set_option maxHeartbeats 4000000

def dpx (x : T) : Bool := decide (8 < x.dep)
def dpS (rec : List Sm → Bool) (s : Sm) : Bool := rec s.thn || rec s.els || s.index.any dpx || s.value.any dpx
def dpF : Nat → List Sm → Bool
  | 0, l => !l.isEmpty
  | n + 1, l => l.any (dpS (dpF n))
def Fx (x : T) : Prop := x.ok ∧ x.dep ≤ 8
def Pl (n : Int) : Prop := 0 ≤ n ∧ n ≤ 2147483647
def fineS : Nat → Sm → Prop
  | 0, _ => False
  | n + 1, s =>
    (s.kind = 1 ∧ nmOk s.name ∧ ∃ x, s.value = [x] ∧ Fx x) ∨
    (s.kind = 2 ∧ nmOk s.name ∧ ∃ y x, s.index = [y] ∧ s.value = [x] ∧ Fx y ∧ Fx x) ∨
    (s.kind = 3 ∧ (∃ x, s.value = [x] ∧ Fx x) ∧ Pl s.label ∧ (∀ t ∈ s.thn, fineS n t) ∧ ∀ t ∈ s.els, fineS n t) ∨
    (s.kind = 4 ∧ (∃ x, s.value = [x] ∧ Fx x) ∧ Pl s.max ∧ Pl s.label ∧ (∀ t ∈ s.thn, fineS n t) ∧ s.els = []) ∨
    (s.kind = 5 ∧ nmOk s.name ∧ (∀ t ∈ s.thn, fineS n t) ∧ s.els = [])
theorem nameB_ok {s : ByteArray} : nameB s = true ↔ nmOk s := by
  unfold nameB nmOk
  rw [Bool.and_eq_true, Bool.not_eq_true']
theorem smallB_ok {n : Int} : smallB n = true ↔ -2147483647 ≤ n ∧ n ≤ 2147483647 := by
  unfold smallB
  rw [Bool.and_eq_true, decide_eq_true_eq, decide_eq_true_eq]; omega
theorem plainB_ok {n : Int} : plainB n = true ↔ Pl n := by
  unfold plainB Pl
  rw [Bool.and_eq_true, decide_eq_true_eq, decide_eq_true_eq]; omega
theorem shpF_ok : ∀ (F : Nat) (t : T), t.dep ≤ F → (shpF F t = true ↔ t.ok)
  | 0, t, h => by have : 1 ≤ t.dep := by rw [T.dep_args]; omega
                  omega
  | F + 1, t, h => by
    cases t with
    | nu n => simp only [shpF, T.ok]; exact smallB_ok
    | nm s => simp only [shpF, T.ok]; exact nameB_ok
    | ix s x =>
      simp only [T.dep] at h
      simp only [shpF, T.ok, Bool.and_eq_true, nameB_ok, shpF_ok F x (by omega)]
    | bn o a b =>
      simp only [T.dep] at h
      simp only [shpF, T.ok, Bool.and_eq_true, decide_eq_true_eq, shpF_ok F a (by omega), shpF_ok F b (by omega), and_assoc]
theorem oneB_ok {l : List T} (h : oneB l = true) (hd : l.any dpx = false) : ∃ x, l = [x] ∧ Fx x := by
  match l, h with
  | [x], h =>
    have hd : ¬ 8 < x.dep := by simpa [dpx] using hd
    exact ⟨x, rfl, (shpF_ok 20 x (by omega)).1 h, by omega⟩
theorem fine_of : ∀ (n F : Nat) (l : List Sm), n ≤ F → okSs F l = true → dpF n l = false → ∀ s ∈ l, fineS n s
  | 0, F, l, _, _, hd, s, hs => by
    cases l with
    | nil => cases hs
    | cons a l => cases hd
  | n + 1, 0, l, hle, _, _, s, hs => by omega
  | n + 1, F + 1, l, hle, ho, hd, s, hs => by
    have h1 : okOne (okSs F) s = true := List.all_eq_true.1 ho s hs
    have h2 : dpS (dpF n) s = false := by
      have := List.any_eq_false.1 hd s hs
      simpa using this
    simp only [dpS, Bool.or_eq_false_iff] at h2
    obtain ⟨⟨⟨d1, d2⟩, d3⟩, d4⟩ := h2
    have ht := fun h => fine_of n F s.thn (by omega) h d1
    have he := fun h => fine_of n F s.els (by omega) h d2
    unfold okOne at h1
    unfold fineS
    split at h1
    · rename_i hk
      simp only [Bool.and_eq_true] at h1
      exact .inl ⟨hk, nameB_ok.1 h1.1.1.1.1.1.1, oneB_ok h1.1.1.1.1.2 d4⟩
    split at h1
    · rename_i hk
      simp only [Bool.and_eq_true] at h1
      obtain ⟨y, hy, fy⟩ := oneB_ok h1.1.1.1.1.1.2 d3
      obtain ⟨x, hx, fx⟩ := oneB_ok h1.1.1.1.1.2 d4
      exact .inr (.inl ⟨hk, nameB_ok.1 h1.1.1.1.1.1.1, y, x, hy, hx, fy, fx⟩)
    split at h1
    · rename_i hk
      simp only [Bool.and_eq_true] at h1
      exact .inr (.inr (.inl ⟨hk, oneB_ok h1.1.1.1.1.2 d4, plainB_ok.1 h1.1.1.2, ht h1.1.2, he h1.2⟩))
    split at h1
    · rename_i hk
      simp only [Bool.and_eq_true, decide_eq_true_eq] at h1
      exact .inr (.inr (.inr (.inl ⟨hk, oneB_ok h1.1.1.1.1.2 d4, plainB_ok.1 h1.1.1.1.2, plainB_ok.1 h1.1.1.2, ht h1.1.2, List.eq_nil_of_length_eq_zero h1.2⟩)))
    split at h1
    · rename_i hk
      simp only [Bool.and_eq_true, decide_eq_true_eq] at h1
      exact .inr (.inr (.inr (.inr ⟨hk, nameB_ok.1 h1.1.1.1.1.1.1, ht h1.1.2, List.eq_nil_of_length_eq_zero h1.2⟩)))
    · cases h1

abbrev Ksp : ByteArray := ⟨#[32, 32]⟩
abbrev Kelse2 : ByteArray := ⟨#[125, 32, 101, 108, 115, 101, 32, 123, 10]⟩
abbrev Kclose : ByteArray := ⟨#[125, 10]⟩
abbrev Kopen : ByteArray := ⟨#[32, 123, 10]⟩
abbrev Kif2 : ByteArray := ⟨#[105, 102, 32]⟩
abbrev Klab : ByteArray := ⟨#[32, 108, 97, 98, 101, 108, 32]⟩
abbrev Kwh : ByteArray := ⟨#[119, 104, 105, 108, 101, 32]⟩
abbrev Kmx : ByteArray := ⟨#[32, 109, 97, 120, 32]⟩
abbrev Klk : ByteArray := ⟨#[108, 111, 99, 107, 32]⟩
abbrev Kst : ByteArray := ⟨#[32, 61, 32]⟩
abbrev Knl : ByteArray := ⟨#[10]⟩
abbrev Kx1 : ByteArray := ⟨#[91]⟩
abbrev Kx2 : ByteArray := ⟨#[93, 32, 61, 32]⟩
def tx1 : List T → ByteArray
  | x :: _ => textT x
  | [] => ⟨#[]⟩
/-- The first line of a statement, without the space ahead of it. -/
def hdT (s : Sm) : ByteArray :=
  if s.kind = 1 then ((s.name ++ Kst) ++ tx1 s.value) ++ Knl
  else if s.kind = 2 then ((((s.name ++ Kx1) ++ tx1 s.index) ++ Kx2) ++ tx1 s.value) ++ Knl
  else if s.kind = 3 then (((Kif2 ++ tx1 s.value) ++ Klab) ++ numS s.label) ++ Kopen
  else if s.kind = 4 then (((((Kwh ++ tx1 s.value) ++ Kmx) ++ numS s.max) ++ Klab) ++ numS s.label) ++ Kopen
  else (Klk ++ s.name) ++ Kopen
mutual
def stT (sp : ByteArray) : Sm → ByteArray
  | .mk k nm i v m lb t e =>
    if k = 1 ∨ k = 2 then sp ++ hdT (.mk k nm i v m lb t e)
    else (sp ++ hdT (.mk k nm i v m lb t e)) ++ stsT (sp ++ Ksp) t ++ (if e = [] then ⟨#[]⟩ else (sp ++ Kelse2) ++ stsT (sp ++ Ksp) e) ++ (sp ++ Kclose)
def stsT (sp : ByteArray) : List Sm → ByteArray
  | [] => ⟨#[]⟩
  | s :: l => stT sp s ++ stsT sp l
end
theorem ba_nil (X : ByteArray) : X ++ (⟨#[]⟩ : ByteArray) = X := by apply ByteArray.ext; simp
theorem nil_ba (X : ByteArray) : (⟨#[]⟩ : ByteArray) ++ X = X := by apply ByteArray.ext; simp
theorem stsT_app (sp : ByteArray) : ∀ l m : List Sm, stsT sp (l ++ m) = stsT sp l ++ stsT sp m
  | [], m => by rw [List.nil_append, stsT, nil_ba]
  | s :: l, m => by rw [List.cons_append, stsT, stsT, stsT_app sp l m, ByteArray.append_assoc]
theorem stsT_take (sp : ByteArray) {l : List Sm} {k : Nat} (h : k < l.length) : stsT sp (l.take (k + 1)) = stsT sp (l.take k) ++ stT sp l[k] := by
  rw [List.take_succ_eq_append_getElem h, stsT_app, stsT, stsT, ba_nil]
theorem stT_leaf (sp : ByteArray) {s : Sm} (h : s.kind = 1 ∨ s.kind = 2) : stT sp s = sp ++ hdT s := by
  cases s
  rw [stT]
  exact if_pos h
theorem stT_node (sp : ByteArray) {s : Sm} (h : ¬ (s.kind = 1 ∨ s.kind = 2)) : stT sp s = (sp ++ hdT s) ++ stsT (sp ++ Ksp) s.thn ++ (if s.els = [] then ⟨#[]⟩ else (sp ++ Kelse2) ++ stsT (sp ++ Ksp) s.els) ++ (sp ++ Kclose) := by
  cases s
  rw [stT]
  exact if_neg h

theorem Fx.size {x : T} (h : Fx x) : (textT x).size ≤ 25600 := by
  have h1 := text_size x h.1
  have h2 : 2 ^ x.dep ≤ 2 ^ 8 := Nat.pow_le_pow_right (by decide) h.2
  omega
theorem Pl.size {n : Int} (h : Pl n) : (numS n).size ≤ 21 := numS_size n (by have := h.1; omega) h.2
theorem hd_size {n : Nat} {s : Sm} (h : fineS n s) : (hdT s).size ≤ 51400 := by
  cases n with
  | zero => exact h.elim
  | succ n =>
    unfold fineS at h
    unfold hdT
    rcases h with ⟨hk, hn, x, hx, fx⟩ | ⟨hk, hn, y, x, hy, hx, fy, fx⟩ | ⟨hk, ⟨x, hx, fx⟩, hl, _⟩ | ⟨hk, ⟨x, hx, fx⟩, hm, hl, _⟩ | ⟨hk, hn, _⟩
    · have := name_size hn
      have := fx.size
      rw [if_pos hk, hx]
      simp only [tx1, ByteArray.size_append, show Kst.size = 3 from rfl, show Knl.size = 1 from rfl]
      omega
    · have := name_size hn
      have := fx.size
      have := fy.size
      rw [if_neg (by omega), if_pos hk, hx, hy]
      simp only [tx1, ByteArray.size_append, show Kx1.size = 1 from rfl, show Kx2.size = 4 from rfl, show Knl.size = 1 from rfl]
      omega
    · have := hl.size
      have := fx.size
      rw [if_neg (by omega), if_neg (by omega), if_pos hk, hx]
      simp only [tx1, ByteArray.size_append, show Kif2.size = 3 from rfl, show Klab.size = 7 from rfl, show Kopen.size = 3 from rfl]
      omega
    · have := hl.size
      have := hm.size
      have := fx.size
      rw [if_neg (by omega), if_neg (by omega), if_neg (by omega), if_pos hk, hx]
      simp only [tx1, ByteArray.size_append, show Kwh.size = 6 from rfl, show Kmx.size = 5 from rfl, show Klab.size = 7 from rfl, show Kopen.size = 3 from rfl]
      omega
    · have := name_size hn
      rw [if_neg (by omega), if_neg (by omega), if_neg (by omega), if_neg (by omega)]
      simp only [ByteArray.size_append, show Klk.size = 5 from rfl, show Kopen.size = 3 from rfl]
      omega
theorem sts_size_of {n : Nat} {sp : ByteArray} (h : ∀ s, fineS n s → (stT sp s).size ≤ 60000 * s.sz) : ∀ l : List Sm, (∀ s ∈ l, fineS n s) → (stsT sp l).size ≤ 60000 * Sm.szs l
  | [], _ => by simp [stsT, Sm.szs]; rfl
  | s :: l, hl => by
    have h1 := h s (hl s (by simp))
    have h2 := sts_size_of h l (fun t ht => hl t (by simp [ht]))
    rw [stsT, Sm.szs, ByteArray.size_append]
    omega
theorem st_size : ∀ (n : Nat) (sp : ByteArray) (s : Sm), fineS n s → sp.size + 2 * n ≤ 100 → (stT sp s).size ≤ 60000 * s.sz
  | 0, _, _, h, _ => h.elim
  | n + 1, sp, s, h, hsp => by
    have hh := hd_size h
    have ez := Sm.sz_eq s
    by_cases hk : s.kind = 1 ∨ s.kind = 2
    · rw [stT_leaf sp hk, ByteArray.size_append]; omega
    · have ih := sts_size_of (fun s hs => st_size n (sp ++ Ksp) s hs (by rw [ByteArray.size_append, show Ksp.size = 2 from rfl]; omega))
      have ht : ∀ t ∈ s.thn, fineS n t := by
        unfold fineS at h
        rcases h with h | h | h | h | h
        · exact absurd (.inl h.1) hk
        · exact absurd (.inr h.1) hk
        · exact h.2.2.2.1
        · exact h.2.2.2.2.1
        · exact h.2.2.1
      have he : ∀ t ∈ s.els, fineS n t := by
        unfold fineS at h
        rcases h with h | h | h | h | h
        · exact absurd (.inl h.1) hk
        · exact absurd (.inr h.1) hk
        · exact h.2.2.2.2
        · rw [h.2.2.2.2.2]; simp
        · rw [h.2.2.2]; simp
      have h1 := ih s.thn ht
      have h2 := ih s.els he
      rw [stT_node sp hk]
      split
      · simp only [ByteArray.size_append, show Kclose.size = 2 from rfl, show (⟨#[]⟩ : ByteArray).size = 0 from rfl]
        omega
      · simp only [ByteArray.size_append, show Kclose.size = 2 from rfl, show Kelse2.size = 9 from rfl]
        omega
theorem sts_size {n : Nat} {sp : ByteArray} {l : List Sm} (h : ∀ s ∈ l, fineS n s) (hsp : sp.size + 2 * n ≤ 100) : (stsT sp l).size ≤ 60000 * Sm.szs l := sts_size_of (fun s hs => st_size n sp s hs hsp) l h
theorem szs_take_succ {l : List Sm} {k : Nat} (h : k < l.length) : Sm.szs (l.take k) + l[k].sz ≤ Sm.szs l := by
  have h1 := Sm.szs_take l (k + 1)
  rw [List.take_succ_eq_append_getElem h, Sm.szs_app] at h1
  simp only [Sm.szs] at h1
  omega
end Go.Proofs.YtalkkcfojplmdaaGreatDoor
end

section
namespace Go.Proofs.YtalkkcfojplmdaaGreatDoor
open Go.Vc
attribute [local irreducible] JL JC JQ OpWp Con ConN
attribute [local irreducible] byteAt runLen isL isD isName hasW rd
set_option maxHeartbeats 4000000

theorem any_yes {α : Type} {p : α → Bool} {l : List α} {k : Nat} (h : k < l.length) (h2 : p l[k] = true) : l.any p = true := List.any_eq_true.2 ⟨l[k], List.getElem_mem h, h2⟩
end Go.Proofs.YtalkkcfojplmdaaGreatDoor
end
