import Derived.Test.YtlniadfidfmckaaDoorMl2
import Derived.Lib.ItoaNum
import Derived.Lib.ItoaLen
section
namespace Go.Proofs.YtlniadfidfmckaaDoor
open Go.Vc
set_option maxHeartbeats 1000000

inductive R (α : Type) where
  | ok (a : α) (n : Nat)
  | er (code : Int) (p : Nat)
def dpR (fr : Bool) (t : T) (a : Nat) : R T := if fr = false ∧ 8 < t.dep then .er 4 (a - 1) else .ok t a
def sxp (fr : Bool) (l : List Tok) (L : List ByteArray) (sub : Nat → R T) : Nat → T → Nat → R T
  | 0, x, a => .ok x a
  | n + 1, x, a => match opAt l L a with
    | none => .ok x a
    | some o => match sub (a + 1) with
      | .er c p => .er c p
      | .ok y b => match dpR fr (.bn o x y) b with
        | .er c p => .er c p
        | .ok z b' => sxp fr l L sub n z b'
def sx (fr : Bool) (l : List Tok) : Nat → Nat → Nat → R T
  | 0, _, _ => .er 1 0
  | F + 1, k, a =>
    if 3 ≤ k then
      if isNum l a = true then .ok (.nu (numAt l a)) (a + 1)
      else if isA l a W45 = true then
        if isNum l (a + 1) = true then .ok (.nu (ngI (numAt l (a + 1)))) (a + 2)
        else match sx fr l F 3 (a + 1) with
          | .er c p => .er c p
          | .ok x b => dpR fr (.bn 2 (.nu 0) x) b
      else if isNm l a = true then
        if isA l (a + 1) W91 = true then
          match sx fr l F 0 (a + 2) with
          | .er c p => .er c p
          | .ok x b => if isA l b W93 = true then dpR fr (.ix (txtAt l a) x) (b + 1) else .er 1 b
        else .ok (.nm (txtAt l a)) (a + 1)
      else if isA l a W40 = true then
        match sx fr l F 0 (a + 1) with
        | .er c p => .er c p
        | .ok x b => if isA l b W41 = true then .ok x (b + 1) else .er 1 b
      else .er 1 a
    else match sx fr l F (k + 1) a with
      | .er c p => .er c p
      | .ok x b => sxp fr l (opsL k) (sx fr l F (k + 1)) (if k = 0 then 1 else F) x b

theorem dpR_bd {fr : Bool} {t u : T} {a b : Nat} (h : dpR fr t a = .ok u b) : u = t ∧ b = a := by
  unfold dpR at h
  split at h
  · cases h
  · cases h; exact ⟨rfl, rfl⟩
theorem sxp_bd {fr : Bool} {l : List Tok} {L : List ByteArray} {sub : Nat → R T} (hs : ∀ a t b, sub a = .ok t b → a < b ∧ b ≤ l.length) : ∀ (n : Nat) (x : T) (a : Nat) (t : T) (b : Nat), a ≤ l.length → sxp fr l L sub n x a = .ok t b → a ≤ b ∧ b ≤ l.length
  | 0, x, a, t, b, h, e => by simp only [sxp, R.ok.injEq] at e; omega
  | n + 1, x, a, t, b, h, e => by
    rw [sxp] at e
    split at e
    · simp only [R.ok.injEq] at e; omega
    · rename_i o _
      split at e
      · cases e
      · rename_i y b1 hy
        have h1 := hs _ _ _ hy
        split at e
        · cases e
        · rename_i z b2 hz
          obtain ⟨rfl, rfl⟩ := dpR_bd hz
          have h2 := sxp_bd hs n _ _ _ _ h1.2 e
          omega
theorem sx_bd {fr : Bool} {l : List Tok} : ∀ (F k a : Nat) (t : T) (b : Nat), sx fr l F k a = .ok t b → a < b ∧ b ≤ l.length
  | 0, _, _, _, _, h => by simp [sx] at h
  | F + 1, k, a, t, b, h => by
    have ih := sx_bd (fr := fr) (l := l) F
    rw [sx] at h
    split at h
    · split at h
      · rename_i h1
        have := isNum_lt h1
        simp only [R.ok.injEq] at h
        omega
      · split at h
        · split at h
          · rename_i h1
            have := isNum_lt h1
            simp only [R.ok.injEq] at h
            omega
          · split at h
            · cases h
            · rename_i x b' h1
              have := ih _ _ _ _ h1
              obtain ⟨rfl, rfl⟩ := dpR_bd h
              omega
        · split at h
          · rename_i h1
            have := isNm_lt h1
            split at h
            · split at h
              · cases h
              · rename_i x b' h2
                have := ih _ _ _ _ h2
                split at h
                · rename_i h4
                  have := isA_lt h4
                  obtain ⟨rfl, rfl⟩ := dpR_bd h
                  omega
                · cases h
            · simp only [R.ok.injEq] at h
              omega
          · split at h
            · split at h
              · cases h
              · rename_i x b' h2
                have := ih _ _ _ _ h2
                split at h
                · rename_i h4
                  have := isA_lt h4
                  simp only [R.ok.injEq] at h
                  omega
                · cases h
            · cases h
    · split at h
      · cases h
      · rename_i x b' h1
        have h2 := ih _ _ _ _ h1
        have h3 := sxp_bd (L := opsL k) (fun a t b => ih (k + 1) a t b) _ _ _ _ _ h2.2 h
        omega

theorem isA_eq {l m : List Tok} {i : Nat} (h : l[i]? = m[i]?) (w : ByteArray) : isA l i w = isA m i w := by simp [isA, h]
theorem isNum_eq {l m : List Tok} {i : Nat} (h : l[i]? = m[i]?) : isNum l i = isNum m i := by simp [isNum, h]
theorem isNm_eq {l m : List Tok} {i : Nat} (h : l[i]? = m[i]?) : isNm l i = isNm m i := by simp [isNm, h]
theorem numAt_eq {l m : List Tok} {i : Nat} (h : l[i]? = m[i]?) : numAt l i = numAt m i := by simp [numAt, h]
theorem txtAt_eq {l m : List Tok} {i : Nat} (h : l[i]? = m[i]?) : txtAt l i = txtAt m i := by simp [txtAt, h]
theorem opAt_eq {l m : List Tok} {i : Nat} (h : l[i]? = m[i]?) (L : List ByteArray) : opAt l L i = opAt m L i := by simp [opAt, h]
end Go.Proofs.YtlniadfidfmckaaDoor
end

section
namespace Go.Proofs.YtlniadfidfmckaaDoor
open Go.Vc
set_option maxHeartbeats 1000000

def R.bind {α β : Type} (r : R α) (f : α → Nat → R β) : R β := match r with
  | .er c p => .er c p
  | .ok x a => f x a
abbrev Kresource : ByteArray := ⟨#[114, 101, 115, 111, 117, 114, 99, 101]⟩
abbrev Kshared : ByteArray := ⟨#[115, 104, 97, 114, 101, 100]⟩
abbrev Ktask : ByteArray := ⟨#[116, 97, 115, 107]⟩
abbrev Kperiod : ByteArray := ⟨#[112, 101, 114, 105, 111, 100]⟩
abbrev Kdeadline : ByteArray := ⟨#[100, 101, 97, 100, 108, 105, 110, 101]⟩
abbrev Kpriority : ByteArray := ⟨#[112, 114, 105, 111, 114, 105, 116, 121]⟩
abbrev Kjitter : ByteArray := ⟨#[106, 105, 116, 116, 101, 114]⟩
abbrev Kinput : ByteArray := ⟨#[105, 110, 112, 117, 116]⟩
abbrev Kvar : ByteArray := ⟨#[118, 97, 114]⟩
abbrev Karray : ByteArray := ⟨#[97, 114, 114, 97, 121]⟩
abbrev Kmode : ByteArray := ⟨#[109, 111, 100, 101]⟩
abbrev Knever : ByteArray := ⟨#[110, 101, 118, 101, 114]⟩
abbrev Kbody : ByteArray := ⟨#[98, 111, 100, 121]⟩
abbrev Kend : ByteArray := ⟨#[101, 110, 100]⟩
abbrev Kif : ByteArray := ⟨#[105, 102]⟩
abbrev Klabel : ByteArray := ⟨#[108, 97, 98, 101, 108]⟩
abbrev Kelse : ByteArray := ⟨#[101, 108, 115, 101]⟩
abbrev Kwhile : ByteArray := ⟨#[119, 104, 105, 108, 101]⟩
abbrev Kmax : ByteArray := ⟨#[109, 97, 120]⟩
abbrev Klock : ByteArray := ⟨#[108, 111, 99, 107]⟩
abbrev Kob : ByteArray := ⟨#[123]⟩
abbrev Kcb : ByteArray := ⟨#[125]⟩
abbrev Keq : ByteArray := ⟨#[61]⟩
section
variable (l : List Tok)
def wdG (w : ByteArray) (a : Nat) : R Unit := if isA l a w = true then .ok () (a + 1) else .er 1 a
def nmG (a : Nat) : R ByteArray := if isNm l a = true then .ok (txtAt l a) (a + 1) else .er 1 a
def nuG (a : Nat) : R Int := if isNum l a = true then .ok (numAt l a) (a + 1) else .er 1 a
def nbG (a : Nat) : R Int := if isA l a W45 = true then (nuG l (a + 1)).bind fun n b => .ok (ngI n) b else nuG l a
def exG (a : Nat) : R T := sx false l (5 * l.length + 4) 0 a
/-- Whether a statement begins here. -/
def startA (a : Nat) : Bool := isA l a Kif || isA l a Kwhile || isA l a Klock || isNm l a
def stmtsL (st : Nat → R Sm) (w : Nat) : Nat → Nat → List Sm → R (List Sm)
  | 0, a, acc => .ok acc a
  | n + 1, a, acc => if startA l a = true then (if 8 ≤ w then .er 4 a else (st a).bind fun s b => stmtsL st w n b (acc ++ [s])) else .ok acc a
/-- A block of statements that are within w others. -/
def blkG (st : Nat → R Sm) (w n : Nat) (a : Nat) : R (List Sm) := (wdG l Kob a).bind fun _ b => (stmtsL l st w n b []).bind fun ss c => (wdG l Kcb c).bind fun _ d => .ok ss d
def stmtG : Nat → Nat → Nat → R Sm
  | 0, _, _ => .er 1 0
  | F + 1, w, a =>
    if isA l a Kif = true then
      (exG l (a + 1)).bind fun x b => (wdG l Klabel b).bind fun _ b => (nuG l b).bind fun n b => (blkG l (stmtG F (w + 1)) (w + 1) F b).bind fun t b =>
        if isA l b Kelse = true then (blkG l (stmtG F (w + 1)) (w + 1) F (b + 1)).bind fun e b => .ok (.mk 3 ⟨#[]⟩ [] [x] 0 n t e) b
        else .ok (.mk 3 ⟨#[]⟩ [] [x] 0 n t []) b
    else if isA l a Kwhile = true then
      (exG l (a + 1)).bind fun x b => (wdG l Kmax b).bind fun _ b => (nuG l b).bind fun m b => (wdG l Klabel b).bind fun _ b => (nuG l b).bind fun n b =>
        (blkG l (stmtG F (w + 1)) (w + 1) F b).bind fun t b => .ok (.mk 4 ⟨#[]⟩ [] [x] m n t []) b
    else if isA l a Klock = true then
      (nmG l (a + 1)).bind fun s b => (blkG l (stmtG F (w + 1)) (w + 1) F b).bind fun t b => .ok (.mk 5 s [] [] 0 0 t []) b
    else
      (nmG l a).bind fun s b =>
        if isA l b W91 = true then (exG l (b + 1)).bind fun i b => (wdG l W93 b).bind fun _ b => (wdG l Keq b).bind fun _ b => (exG l b).bind fun v b => .ok (.mk 2 s [i] [v] 0 0 [] []) b
        else (wdG l Keq b).bind fun _ b => (exG l b).bind fun v b => .ok (.mk 1 s [] [v] 0 0 [] []) b
def lpG {α : Type} (kw : ByteArray) (one : Nat → R α) : Nat → Nat → List α → R (List α)
  | 0, a, acc => .ok acc a
  | n + 1, a, acc => if isA l a kw = true then (one (a + 1)).bind fun x b => lpG kw one n b (acc ++ [x]) else .ok acc a
def inG (a : Nat) : R Inp := (nmG l a).bind fun s b => (nbG l b).bind fun lo b => (nbG l b).bind fun hi b => .ok (s, lo, hi) b
def arG (a : Nat) : R Arr := (nmG l a).bind fun s b => (nuG l b).bind fun n b => .ok (s, n) b
def mdG (a : Nat) : R Md := (nmG l a).bind fun s b => (nmG l b).bind fun i b => (nbG l b).bind fun lo b => (nbG l b).bind fun hi b => .ok (s, i, lo, hi) b
def clG (a : Nat) : R Clm := (nuG l a).bind fun x b => (nuG l b).bind fun y b => .ok (x, y) b
def shG (a : Nat) : R Shd := (nmG l a).bind fun s b => (nuG l b).bind fun n b => (nmG l b).bind fun r b => .ok (s, n, r) b
def dcG (kw : ByteArray) (a : Nat) : R Int := (wdG l kw a).bind fun _ b => nuG l b
def bodyG (a : Nat) : R (List Sm) := (wdG l Kbody a).bind fun _ b => (stmtsL l (stmtG l (l.length + 1) 0) 0 (l.length + 1) b []).bind fun ss c => (wdG l Kend c).bind fun _ d => .ok ss d
def taskG (a : Nat) : R Tk :=
  (nmG l a).bind fun nm b => (dcG l Kperiod b).bind fun pe b => (dcG l Kdeadline b).bind fun de b => (dcG l Kpriority b).bind fun pr b => (dcG l Kjitter b).bind fun ji b =>
    (lpG l Kinput (inG l) (l.length + 1) b []).bind fun i b => (lpG l Kvar (nmG l) (l.length + 1) b []).bind fun v b => (lpG l Karray (arG l) (l.length + 1) b []).bind fun ar b => (lpG l Kmode (mdG l) (l.length + 1) b []).bind fun m b =>
      (lpG l Knever (clG l) (l.length + 1) b []).bind fun c b => (bodyG l b).bind fun ss b => .ok ⟨nm, pe, de, pr, ji, i, v, ar, m, c, ss⟩ b
def tasksL : Nat → Nat → List Tk → R (List Tk)
  | 0, a, acc => .ok acc a
  | n + 1, a, acc => if a < l.length then (wdG l Ktask a).bind fun _ b => (taskG l b).bind fun t c => tasksL n c (acc ++ [t]) else .ok acc a
def progG : R Pg := (lpG l Kresource (nmG l) (l.length + 1) 0 []).bind fun r b => (lpG l Kshared (shG l) (l.length + 1) b []).bind fun s b => (tasksL l (l.length + 1) b []).bind fun t b => .ok ⟨r, s, t⟩ b
end
/-- What a text means: the program, or the line and the error. -/
def parseF (s : ByteArray) : Option Pg × Int × Int :=
  if (scan s).2.2 = 0 then (match progG (scan s).1 with
    | .ok p _ => (some p, 0, 0)
    | .er c p => (none, lineAt (scan s).1 p, c))
  else (none, (scan s).2.1, (scan s).2.2)
end Go.Proofs.YtlniadfidfmckaaDoor
end

section
namespace Go.Proofs.YtlniadfidfmckaaDoor
open Go.Vc
attribute [local irreducible] JL JC JQ OpWp Con ConN Pan ConE OpPan hasW idxW isA isNum isNm numAt txtAt lineAt opAt lx lpx
set_option maxHeartbeats 4000000

def need (l : List Tok) (k a : Nat) : Nat := 5 * (l.length - a) + (4 - k)
def LgP (l : List Tok) (F : Nat) : Prop := ∀ (b k a p : Nat), k ≤ 2 → a ≤ l.length → p ≤ l.length → need l (k + 1) a ≤ F → Con Tryd.prog 41 [Ptr b, In .i64 (a : Int), In .i64 (k : Int)] [Pz b l p] (fun K => ∀ q : Nat, q ≤ l.length → K (.row (PFX (lx l F (k + 1) a))) [Pz b l q])
def LtP (l : List Tok) (F : Nat) : Prop := ∀ (b a p : Nat), a ≤ l.length → p ≤ l.length → need l 0 a ≤ F → Con Tryd.prog 24 [Ptr b, In .i64 (a : Int)] [Pz b l p] (fun K => ∀ q : Nat, q ≤ l.length → K (.row (PFX (lx l F 0 a))) [Pz b l q])
def ShP (l : List Tok) (F : Nat) : Prop := ∀ (b a p : Nat), a ≤ l.length → p ≤ l.length → need l 3 a ≤ F → Con Tryd.prog 64 [Ptr b, In .i64 (a : Int)] [Pz b l p] (fun K => ∀ q : Nat, q ≤ l.length → K (.row (PFX (lx l F 3 a))) [Pz b l q])
def InP (l : List Tok) (F : Nat) : Prop := ∀ (b a p : Nat) (w : ByteArray), a ≤ l.length → p ≤ l.length → need l 0 a ≤ F → Con Tryd.prog 81 [Ptr b, In .i64 (a : Int), Str w] [Pz b l p] (fun K => ∀ q : Nat, q ≤ l.length → K (.row (PFX (inx l w (lx l F 0 a)))) [Pz b l q])

section
variable {l : List Tok} (hl : l.length ≤ 1000000)
include hl
theorem inner_step (F : Nat) (hL : LtP l F) : InP l F := by
  intro b a p w ha hp hF
  have con := hL b a p ha hp hF
  refine con_intro Tryd.func81 rfl rfl (Nat.le_of_ble_eq_true rfl) (fun c hc => ?_)
  cases hr : lx l F 0 a with
  | none =>
    rw [hr] at con
    refine R_ (o_ r_ (bl_ r_ r_ (fun bl => T_ (R_ (M_ r_ (M_ r_ (o_ r_ (bt_ [1] rfl rfl (con) (fun pp hpp => o_ r_ (bl_ r_ r_ (fun bl => S_ 0 r_ (T_ (am_ (R_ (M_ r_ (F_ r_ (L_ 0 r_ (N_ r_ ?_))))))))))))))))))
    refine F_ r_ (W_ 1 r_ (T_ (R_ (F_ r_ (L_ 1 r_ (o_ r_ (cd_ r_ (M_ r_ (ai_ r_ r_ b_ (ai_ r_ r_ b_ (ai_ r_ r_ b_ (ai_ r_ r_ b_ (o_ r_ (bp_ r_ r_ r_ (T_ (aq_ r_ r_ (R_ ?_)))))))))))))))))
    exact o_ r_ (bu_ r_ r_ r_ r_ r_ (S_ 2 r_ (T_ (ar_ (aw_ (jq_retRowS rfl rfl rfl rfl 0 rfl (fun K h => h 0 (Nat.zero_le _)) (bc_ 1 r_ sub_end)))))))
  | some tb =>
    obtain ⟨t, c⟩ := tb
    rw [hr] at con
    have hc := lx_bd _ _ _ _ _ hr
    cases hw : isA l c w with
    | true =>
      have hlt := isA_lt hw
      have e : inx l w (some (t, c)) = some (t, c + 1) := by rw [inx, if_pos hw]
      refine R_ (o_ r_ (bl_ r_ r_ (fun bl => T_ (R_ (M_ r_ (M_ r_ (o_ r_ (bt_ [1] rfl rfl (con) (fun pp hpp => o_ r_ (bl_ r_ r_ (fun bl => S_ 0 r_ (T_ (am_ (R_ (M_ r_ (F_ r_ (L_ 0 r_ (N_ r_ ?_))))))))))))))))))
      refine F_ r_ (W_ 1 r_ (T_ (R_ (F_ r_ (L_ 1 r_ (o_ r_ (cd_ r_ (M_ r_ (ah_ r_ r_ b_ (bd_ r_ (ah_ r_ r_ b_ (bd_ r_ (ah_ r_ r_ b_ (bi_ [0] r_ r_ (has_y hl g_ h_) (ah_ r_ r_ b_ (cd_ r_ (o_ r_ (bv_ r_ r_ r_ (T_ (ap_ r_ r_ (as_ ?_)))))))))))))))))))))
      refine al_ (am_ (jc_anyB 7 none rfl k_ k_ (yF_ r_ (aa_ (fun c => cp_ 1 r_ r_ r_ r_ r_ p_) (yM_ r_ (yN_ r_ (yF_ r_ (yL_ 0 r_ (aa_ (fun c => bu_ r_ r_ r_ r_ r_ p_) (ae_ (afin_none (S_ 2 r_ (T_ (ar_ (jq_retRowS rfl rfl rfl rfl 0 rfl (fun K h => by rw [e] at h; exact h (c + 1) g_) ?_)))))))))))))))
      exact bc_ 1 r_ sub_end
    | false =>
      have e : inx l w (some (t, c)) = none := by rw [inx, if_neg (by rw [hw]; decide)]
      refine R_ (o_ r_ (bl_ r_ r_ (fun bl => T_ (R_ (M_ r_ (M_ r_ (o_ r_ (bt_ [1] rfl rfl (con) (fun pp hpp => o_ r_ (bl_ r_ r_ (fun bl => S_ 0 r_ (T_ (am_ (R_ (M_ r_ (F_ r_ (L_ 0 r_ (N_ r_ ?_))))))))))))))))))
      refine F_ r_ (W_ 1 r_ (T_ (R_ (F_ r_ (L_ 1 r_ (o_ r_ (cd_ r_ (M_ r_ (ah_ r_ r_ b_ (bd_ r_ (ah_ r_ r_ b_ (bd_ r_ (ah_ r_ r_ b_ (bi_ [0] r_ r_ (has_n hl g_ h_) (ah_ r_ r_ b_ (cd_ r_ (o_ r_ (bv_ r_ r_ r_ (T_ (aq_ r_ r_ (R_ ?_)))))))))))))))))))))
      exact o_ r_ (bu_ r_ r_ r_ r_ r_ (S_ 2 r_ (T_ (ar_ (aw_ (jq_retRowS rfl rfl rfl rfl 0 rfl (fun K h => by rw [e] at h; exact h c g_) (bc_ 1 r_ sub_end)))))))
theorem shortest_step (F : Nat) (hS : ShP l F) (hI : InP l F) : ShP l (F + 1) := by
  intro b a p ha hp hF
  unfold need at hF
  refine con_intro Tryd.func64 rfl rfl (Nat.le_of_ble_eq_true rfl) (fun c hc => ?_)
  cases h1 : isNum l a with
  | true =>
    have hlt := isNum_lt h1
    have e : lx l (F + 1) 3 a = some (.nu (numAt l a), a + 1) := by rw [lx, if_pos (Nat.le_refl _), if_pos h1]
    refine R_ (o_ r_ (bl_ r_ r_ (fun bl => T_ (R_ (M_ r_ (M_ r_ (N_ r_ (F_ r_ (W_ 1 r_ (T_ (B_ (R_ (M_ r_ (o_ r_ (bi_ [0] r_ r_ (numbered_y g_ h_) (E_ r_ (T_ ?_)))))))))))))))))
    refine aq_ r_ r_ (R_ (M_ r_ (o_ r_ (bi_ [0] r_ r_ (pnum_ok hl g_ h_) (o_ r_ (bu_ r_ r_ r_ r_ r_ (M_ r_ (o_ r_ (bj_ r_ r_ g_ (o_ r_ (bu_ r_ r_ r_ r_ r_ (S_ 1 r_ (T_ (ar_ (az_ (aw_ (jq_row 0 (PFX (some (.nu (numAt l a), a + 1))) rfl ?_ ?_)))))))))))))))))
    · (repeat (first | exact RowLe.nil | refine RowLe.cons (CLe.refl _) ?_ | refine RowLe.cons CLe.nil ?_))
    · exact jq_retRowS rfl rfl rfl rfl 0 rfl (fun K h => by rw [e] at h; exact h (a + 1) g_) (bc_ 1 r_ sub_end)
  | false =>
    have h1' : ¬ isNum l a = true := by rw [h1]; decide
    cases h2 : isA l a W45 with
    | true =>
      have hlt := isA_lt h2
      cases h3 : isNum l (a + 1) with
      | true =>
        have hlt2 := isNum_lt h3
        have e : lx l (F + 1) 3 a = some (.nu (ngI (numAt l (a + 1))), a + 2) := by rw [lx, if_pos (Nat.le_refl _), if_neg h1', if_pos h2, if_pos h3]
        refine R_ (o_ r_ (bl_ r_ r_ (fun bl => T_ (R_ (M_ r_ (M_ r_ (N_ r_ (F_ r_ (W_ 1 r_ (T_ (B_ (R_ (M_ r_ (o_ r_ (bi_ [0] r_ r_ (numbered_n g_ h1) (E_ r_ (T_ ?_)))))))))))))))))
        refine ap_ r_ r_ (R_ (M_ r_ (o_ r_ (bi_ [0] r_ r_ (has_y hl g_ h_) (E_ r_ (T_ (aq_ r_ r_ (am_ (R_ (M_ r_ (o_ r_ (bi_ [0] r_ r_ (numbered_y g_ h3) (T_ (aq_ r_ r_ (R_ (M_ r_ (o_ r_ (bi_ [0] r_ r_ (pnum_ok hl g_ h_) ?_))))))))))))))))))
        refine o_ r_ (ow_negW r_ (o_ r_ (bu_ r_ r_ r_ r_ r_ (M_ r_ (o_ r_ (bj_ r_ r_ g_ (o_ r_ (bu_ r_ r_ r_ r_ r_ (S_ 1 r_ (T_ (ar_ (aw_ (az_ (aw_ (jq_row 0 (PFX (some (.nu (ngI (numAt l (a + 1))), a + 2))) rfl ?_ ?_)))))))))))))))
        · (repeat (first | exact RowLe.nil | refine RowLe.cons (CLe.refl _) ?_ | refine RowLe.cons CLe.nil ?_))
        · exact jq_retRowS rfl rfl rfl rfl 0 rfl (fun K h => by rw [e] at h; exact h (a + 2) g_) (bc_ 1 r_ sub_end)
      | false =>
        have h3' : ¬ isNum l (a + 1) = true := by rw [h3]; decide
        have con := hS b (a + 1) (a + 1) (by omega) (by omega) (by unfold need; omega)
        cases hr : lx l F 3 (a + 1) with
        | none =>
          have e : lx l (F + 1) 3 a = none := by rw [lx, if_pos (Nat.le_refl _), if_neg h1', if_pos h2, if_neg h3', hr]
          rw [hr] at con
          refine R_ (o_ r_ (bl_ r_ r_ (fun bl => T_ (R_ (M_ r_ (M_ r_ (N_ r_ (F_ r_ (W_ 1 r_ (T_ (B_ (R_ (M_ r_ (o_ r_ (bi_ [0] r_ r_ (numbered_n g_ h1) (E_ r_ (T_ ?_)))))))))))))))))
          refine ap_ r_ r_ (R_ (M_ r_ (o_ r_ (bi_ [0] r_ r_ (has_y hl g_ h_) (E_ r_ (T_ (aq_ r_ r_ (am_ (R_ (M_ r_ (o_ r_ (bi_ [0] r_ r_ (numbered_n g_ h3) (T_ (ap_ r_ r_ (as_ (al_ (R_ ?_)))))))))))))))))
          refine M_ r_ (M_ r_ (o_ r_ (bj_ r_ r_ g_ (o_ r_ (bt_ [0] rfl rfl (con) (fun pp hpp => o_ r_ (bl_ r_ r_ (fun bl => S_ 0 r_ (T_ (am_ (R_ (F_ r_ (L_ 0 r_ (T_ (ap_ r_ r_ (as_ (al_ (R_ ?_))))))))))))))))))
          exact A_ 0 r_ (S_ 2 r_ (T_ (ar_ (az_ (aw_ (jq_retRowS rfl rfl rfl rfl 0 rfl (fun K h => by rw [e] at h; exact h pp hpp) (bc_ 2 r_ sub_end)))))))
        | some tb =>
          obtain ⟨t, c⟩ := tb
          have hc := lx_bd _ _ _ _ _ hr
          have e : lx l (F + 1) 3 a = some (.bn 2 (.nu 0) t, c) := by rw [lx, if_pos (Nat.le_refl _), if_neg h1', if_pos h2, if_neg h3', hr]
          rw [hr] at con
          have hB := binaryN_c 2 0 t
          refine R_ (o_ r_ (bl_ r_ r_ (fun bl => T_ (R_ (M_ r_ (M_ r_ (N_ r_ (F_ r_ (W_ 1 r_ (T_ (B_ (R_ (M_ r_ (o_ r_ (bi_ [0] r_ r_ (numbered_n g_ h1) (E_ r_ (T_ ?_)))))))))))))))))
          refine ap_ r_ r_ (R_ (M_ r_ (o_ r_ (bi_ [0] r_ r_ (has_y hl g_ h_) (E_ r_ (T_ (aq_ r_ r_ (am_ (R_ (M_ r_ (o_ r_ (bi_ [0] r_ r_ (numbered_n g_ h3) (T_ (ap_ r_ r_ (as_ (al_ (R_ ?_)))))))))))))))))
          refine M_ r_ (M_ r_ (o_ r_ (bj_ r_ r_ g_ (o_ r_ (bt_ [0] rfl rfl (con) (fun pp hpp => o_ r_ (bl_ r_ r_ (fun bl => S_ 0 r_ (T_ (am_ (R_ (F_ r_ (L_ 0 r_ (T_ (aq_ r_ r_ (an_ (o_ r_ (bu_ r_ r_ r_ r_ r_ (F_ r_ ?_)))))))))))))))))))
          exact o_ r_ (cp_ 0 r_ r_ r_ r_ r_ (o_ r_ (bm_ r_ (hB) (F_ r_ (ag_ (cm_ 0 r_ r_ r_ r_ r_ b_ r_ (T_ (R_ (A_ 0 r_ (S_ 2 r_ (T_ (ar_ (az_ (aw_ (jq_retRowS rfl rfl rfl rfl 0 rfl (fun K h => by rw [e] at h; exact h pp hpp) (bc_ 2 r_ sub_end))))))))))))))))
    | false =>
      have h2' : ¬ isA l a W45 = true := by rw [h2]; decide
      cases h3 : isNm l a with
      | true =>
        have hlt := isNm_lt h3
        cases h4 : isA l (a + 1) W91 with
        | true =>
          have hlt2 := isA_lt h4
          have con := hI b (a + 2) (a + 2) W93 (by omega) (by omega) (by unfold need; omega)
          cases hr : inx l W93 (lx l F 0 (a + 2)) with
          | none =>
            have e : lx l (F + 1) 3 a = some (.nm (txtAt l a), a + 1) := by rw [lx, if_pos (Nat.le_refl _), if_neg h1', if_neg h2', if_pos h3, if_pos h4, hr]
            rw [hr] at con
            refine R_ (o_ r_ (bl_ r_ r_ (fun bl => T_ (R_ (M_ r_ (M_ r_ (N_ r_ (F_ r_ (W_ 1 r_ (T_ (B_ (R_ (M_ r_ (o_ r_ (bi_ [0] r_ r_ (numbered_n g_ h1) (E_ r_ (T_ ?_)))))))))))))))))
            refine ap_ r_ r_ (R_ (M_ r_ (o_ r_ (bi_ [0] r_ r_ (has_n hl g_ h2) (E_ r_ (T_ (ap_ r_ r_ (R_ (M_ r_ (o_ r_ (bi_ [0] r_ r_ (named_y g_ h3) (o_ r_ (cd_ r_ (E_ r_ (T_ (ap_ r_ r_ (as_ (ay_ ?_))))))))))))))))))
            refine al_ (R_ (M_ r_ (o_ r_ (bi_ [0] r_ r_ (pname_ok hl g_ h3) (E_ r_ (T_ (am_ (R_ (M_ r_ (o_ r_ (bi_ [0] r_ r_ (has_y hl g_ h4) (T_ (aq_ r_ r_ (R_ (M_ r_ (M_ r_ (o_ r_ (bj_ r_ r_ g_ ?_))))))))))))))))))
            refine o_ r_ (bt_ [0] rfl rfl (con) (fun pp hpp => o_ r_ (bl_ r_ r_ (fun bl => S_ 0 r_ (T_ (R_ (F_ r_ (L_ 0 r_ (T_ (ap_ r_ r_ (as_ (al_ (R_ (M_ r_ (o_ r_ (bu_ r_ r_ r_ r_ r_ (M_ r_ (o_ r_ (bj_ r_ r_ g_ ?_)))))))))))))))))))
            refine o_ r_ (bu_ r_ r_ r_ r_ r_ (S_ 2 r_ (T_ (ar_ (jq_row 0 (PFX (some (.nm (txtAt l a), a + 1))) rfl ?_ ?_)))))
            · (repeat (first | exact RowLe.nil | refine RowLe.cons (CLe.refl _) ?_ | refine RowLe.cons CLe.nil ?_))
            · exact jq_retRowS rfl rfl rfl rfl 0 rfl (fun K h => by rw [e] at h; exact h pp hpp) (bc_ 2 r_ sub_end)
          | some tb =>
            obtain ⟨t, c⟩ := tb
            have e : lx l (F + 1) 3 a = some (.ix (txtAt l a) t, c) := by rw [lx, if_pos (Nat.le_refl _), if_neg h1', if_neg h2', if_pos h3, if_pos h4, hr]
            rw [hr] at con
            refine R_ (o_ r_ (bl_ r_ r_ (fun bl => T_ (R_ (M_ r_ (M_ r_ (N_ r_ (F_ r_ (W_ 1 r_ (T_ (B_ (R_ (M_ r_ (o_ r_ (bi_ [0] r_ r_ (numbered_n g_ h1) (E_ r_ (T_ ?_)))))))))))))))))
            refine ap_ r_ r_ (R_ (M_ r_ (o_ r_ (bi_ [0] r_ r_ (has_n hl g_ h2) (E_ r_ (T_ (ap_ r_ r_ (R_ (M_ r_ (o_ r_ (bi_ [0] r_ r_ (named_y g_ h3) (o_ r_ (cd_ r_ (E_ r_ (T_ (ap_ r_ r_ (as_ (ay_ ?_))))))))))))))))))
            refine al_ (R_ (M_ r_ (o_ r_ (bi_ [0] r_ r_ (pname_ok hl g_ h3) (E_ r_ (T_ (am_ (R_ (M_ r_ (o_ r_ (bi_ [0] r_ r_ (has_y hl g_ h4) (T_ (aq_ r_ r_ (R_ (M_ r_ (M_ r_ (o_ r_ (bj_ r_ r_ g_ ?_))))))))))))))))))
            refine o_ r_ (bt_ [0] rfl rfl (con) (fun pp hpp => o_ r_ (bl_ r_ r_ (fun bl => S_ 0 r_ (T_ (R_ (F_ r_ (L_ 0 r_ (T_ (aq_ r_ r_ (R_ (M_ r_ (F_ r_ (o_ r_ (cp_ 0 r_ r_ r_ r_ r_ (o_ r_ (bq_ r_ r_ b_ r_ r_ b_ (o_ r_ (bu_ r_ r_ r_ r_ r_ (F_ r_ ?_))))))))))))))))))))
            refine L_ 0 r_ (o_ r_ (bu_ r_ r_ r_ r_ r_ (S_ 2 r_ (T_ (ar_ (aw_ (jq_row 0 (PFX (some (.ix (txtAt l a) t, c))) rfl ?_ ?_)))))))
            · (repeat (first | exact RowLe.nil | refine RowLe.cons (CLe.refl _) ?_ | refine RowLe.cons CLe.nil ?_))
              refine RowLe.cons (CLe.eq (show C.list [t.row'] = C.list [t.row] by rw [T.row_eq])) ?_
              (repeat (first | exact RowLe.nil | refine RowLe.cons (CLe.refl _) ?_ | refine RowLe.cons CLe.nil ?_))
            · exact jq_retRowS rfl rfl rfl rfl 0 rfl (fun K h => by rw [e] at h; exact h pp hpp) (bc_ 2 r_ sub_end)
        | false =>
          have h4' : ¬ isA l (a + 1) W91 = true := by rw [h4]; decide
          have e : lx l (F + 1) 3 a = some (.nm (txtAt l a), a + 1) := by rw [lx, if_pos (Nat.le_refl _), if_neg h1', if_neg h2', if_pos h3, if_neg h4']
          refine R_ (o_ r_ (bl_ r_ r_ (fun bl => T_ (R_ (M_ r_ (M_ r_ (N_ r_ (F_ r_ (W_ 1 r_ (T_ (B_ (R_ (M_ r_ (o_ r_ (bi_ [0] r_ r_ (numbered_n g_ h1) (E_ r_ (T_ ?_)))))))))))))))))
          refine ap_ r_ r_ (R_ (M_ r_ (o_ r_ (bi_ [0] r_ r_ (has_n hl g_ h2) (E_ r_ (T_ (ap_ r_ r_ (R_ (M_ r_ (o_ r_ (bi_ [0] r_ r_ (named_y g_ h3) (o_ r_ (cd_ r_ (E_ r_ (T_ (ap_ r_ r_ (as_ (ay_ ?_))))))))))))))))))
          refine al_ (R_ (M_ r_ (o_ r_ (bi_ [0] r_ r_ (pname_ok hl g_ h3) (E_ r_ (T_ (am_ (R_ (M_ r_ (o_ r_ (bi_ [0] r_ r_ (has_n hl g_ h4) (T_ (ap_ r_ r_ (as_ (al_ (R_ (M_ r_ ?_)))))))))))))))))
          refine o_ r_ (bu_ r_ r_ r_ r_ r_ (M_ r_ (o_ r_ (bj_ r_ r_ g_ (o_ r_ (bu_ r_ r_ r_ r_ r_ (S_ 1 r_ (T_ (ar_ (jq_row 0 (PFX (some (.nm (txtAt l a), a + 1))) rfl ?_ ?_))))))))))
          · (repeat (first | exact RowLe.nil | refine RowLe.cons (CLe.refl _) ?_ | refine RowLe.cons CLe.nil ?_))
          · exact jq_retRowS rfl rfl rfl rfl 0 rfl (fun K h => by rw [e] at h; exact h (a + 1) g_) (bc_ 1 r_ sub_end)
      | false =>
        have h3' : ¬ isNm l a = true := by rw [h3]; decide
        cases h4 : isA l a W40 with
        | true =>
          have hlt2 := isA_lt h4
          have con := hI b (a + 1) (a + 1) W41 (by omega) (by omega) (by unfold need; omega)
          have e : lx l (F + 1) 3 a = inx l W41 (lx l F 0 (a + 1)) := by rw [lx, if_pos (Nat.le_refl _), if_neg h1', if_neg h2', if_neg h3', if_pos h4]
          rw [← e] at con
          cases hr : lx l (F + 1) 3 a with
          | none =>
            rw [hr] at con
            refine R_ (o_ r_ (bl_ r_ r_ (fun bl => T_ (R_ (M_ r_ (M_ r_ (N_ r_ (F_ r_ (W_ 1 r_ (T_ (B_ (R_ (M_ r_ (o_ r_ (bi_ [0] r_ r_ (numbered_n g_ h1) (E_ r_ (T_ ?_)))))))))))))))))
            refine ap_ r_ r_ (R_ (M_ r_ (o_ r_ (bi_ [0] r_ r_ (has_n hl g_ h2) (E_ r_ (T_ (ap_ r_ r_ (R_ (M_ r_ (o_ r_ (bi_ [0] r_ r_ (named_n g_ h3) (o_ r_ (cd_ r_ (E_ r_ (T_ (aq_ r_ r_ (am_ (R_ ?_))))))))))))))))))
            refine M_ r_ (o_ r_ (bi_ [0] r_ r_ (has_y hl g_ h4) (o_ r_ (cd_ r_ (T_ (ap_ r_ r_ (as_ (al_ (R_ (M_ r_ (M_ r_ (o_ r_ (bj_ r_ r_ g_ (o_ r_ (bt_ [0] rfl rfl (con) (fun pp hpp => S_ 1 r_ (T_ (ar_ (az_ ?_)))))))))))))))))))
            exact aw_ (jq_retRowS rfl rfl rfl rfl 0 rfl (fun K h => h pp hpp) (bc_ 1 r_ sub_end))
          | some tb =>
            obtain ⟨t, c⟩ := tb
            rw [hr] at con
            refine R_ (o_ r_ (bl_ r_ r_ (fun bl => T_ (R_ (M_ r_ (M_ r_ (N_ r_ (F_ r_ (W_ 1 r_ (T_ (B_ (R_ (M_ r_ (o_ r_ (bi_ [0] r_ r_ (numbered_n g_ h1) (E_ r_ (T_ ?_)))))))))))))))))
            refine ap_ r_ r_ (R_ (M_ r_ (o_ r_ (bi_ [0] r_ r_ (has_n hl g_ h2) (E_ r_ (T_ (ap_ r_ r_ (R_ (M_ r_ (o_ r_ (bi_ [0] r_ r_ (named_n g_ h3) (o_ r_ (cd_ r_ (E_ r_ (T_ (aq_ r_ r_ (am_ (R_ ?_))))))))))))))))))
            refine M_ r_ (o_ r_ (bi_ [0] r_ r_ (has_y hl g_ h4) (o_ r_ (cd_ r_ (T_ (ap_ r_ r_ (as_ (al_ (R_ (M_ r_ (M_ r_ (o_ r_ (bj_ r_ r_ g_ (o_ r_ (bt_ [0] rfl rfl (con) (fun pp hpp => S_ 1 r_ (T_ (ar_ (az_ ?_)))))))))))))))))))
            exact aw_ (jq_retRowS rfl rfl rfl rfl 0 rfl (fun K h => h pp hpp) (bc_ 1 r_ sub_end))
        | false =>
          have h4' : ¬ isA l a W40 = true := by rw [h4]; decide
          have e : lx l (F + 1) 3 a = none := by rw [lx, if_pos (Nat.le_refl _), if_neg h1', if_neg h2', if_neg h3', if_neg h4']
          refine R_ (o_ r_ (bl_ r_ r_ (fun bl => T_ (R_ (M_ r_ (M_ r_ (N_ r_ (F_ r_ (W_ 1 r_ (T_ (B_ (R_ (M_ r_ (o_ r_ (bi_ [0] r_ r_ (numbered_n g_ h1) (E_ r_ (T_ ?_)))))))))))))))))
          refine ap_ r_ r_ (R_ (M_ r_ (o_ r_ (bi_ [0] r_ r_ (has_n hl g_ h2) (E_ r_ (T_ (ap_ r_ r_ (R_ (M_ r_ (o_ r_ (bi_ [0] r_ r_ (named_n g_ h3) (o_ r_ (cd_ r_ (E_ r_ (T_ (aq_ r_ r_ (am_ (R_ ?_))))))))))))))))))
          exact M_ r_ (o_ r_ (bi_ [0] r_ r_ (has_n hl g_ h4) (o_ r_ (cd_ r_ (T_ (aq_ r_ r_ (R_ (o_ r_ (bu_ r_ r_ r_ r_ r_ (S_ 1 r_ (T_ (ar_ (aw_ (az_ (aw_ (jq_retRowS rfl rfl rfl rfl 0 rfl (fun K h => by rw [e] at h; exact h a g_) (bc_ 1 r_ sub_end)))))))))))))))))
theorem longest_step (F : Nat) (hG : LgP l F) : LtP l (F + 1) := by
  intro b a p ha hp hF
  unfold need at hF
  have con := hG b 0 a p (by omega) ha hp (by unfold need; omega)
  refine con_intro Tryd.func24 rfl rfl (Nat.le_of_ble_eq_true rfl) (fun c hc => ?_)
  cases hr : lx l F 1 a with
  | none =>
    have e : lx l (F + 1) 0 a = none := by rw [lx, if_neg (by omega), hr]
    rw [show 0 + 1 = 1 from rfl, hr] at con
    refine R_ (o_ r_ (bl_ r_ r_ (fun bl => T_ (R_ (M_ r_ (M_ r_ (o_ r_ (bt_ [1] rfl rfl (con) (fun pp hpp => o_ r_ (bl_ r_ r_ (fun bl => S_ 0 r_ (T_ (am_ (R_ (F_ r_ (L_ 0 r_ (o_ r_ (cd_ r_ (T_ ?_)))))))))))))))))))
    exact aq_ r_ r_ (R_ (A_ 0 r_ (S_ 2 r_ (T_ (ar_ (aw_ (jq_retRowS rfl rfl rfl rfl 0 rfl (fun K h => by rw [e] at h; exact h pp hpp) (bc_ 2 r_ sub_end))))))))
  | some tb =>
    obtain ⟨t, c⟩ := tb
    have hc := lx_bd _ _ _ _ _ hr
    rw [show 0 + 1 = 1 from rfl, hr] at con
    cases ho : opAt l cmpL c with
    | none =>
      have e : lx l (F + 1) 0 a = some (t, c) := by rw [lx, if_neg (by omega), hr]; show some (lpx l cmpL (lx l F 1) 1 t c) = _; rw [lpx_none ho]
      refine R_ (o_ r_ (bl_ r_ r_ (fun bl => T_ (R_ (M_ r_ (M_ r_ (o_ r_ (bt_ [1] rfl rfl (con) (fun pp hpp => o_ r_ (bl_ r_ r_ (fun bl => S_ 0 r_ (T_ (am_ (R_ (F_ r_ (L_ 0 r_ (o_ r_ (cd_ r_ (T_ ?_)))))))))))))))))))
      refine ap_ r_ r_ (as_ (al_ (R_ (M_ r_ (F_ r_ (L_ 0 r_ (N_ r_ (F_ r_ (W_ 1 r_ (T_ (am_ (R_ (M_ r_ (o_ r_ (dd_ gl_cmps r_ r_ r_ (o_ r_ (bt_ [] rfl rfl (one_c b cmpL) (fun pp hpp => ?_))))))))))))))))))
      refine o_ r_ (cx_ (cs := [Ptr _, Ptr _]) [0, 0, 0] rfl rfl (fun _ _ => ⟨_, _, rfl, ⟨rfl, rfl⟩, _, _, rfl, ⟨rfl, rfl⟩, rfl⟩) rfl (op1_none hl g_ ho _ _) (E_ r_ (T_ (R_ (M_ r_ (o_ r_ (bx_ r_ r_ (T_ (ap_ r_ r_ (as_ (al_ (R_ (A_ 3 r_ (S_ 4 r_ (T_ (ar_ (jq_retRowS rfl rfl rfl rfl 0 rfl (fun K h => by rw [e] at h; exact h c g_) ?_)))))))))))))))))
      exact bc_ 3 r_ sub_end
    | some o =>
      have ho0 : ¬ o = 0 := opAt_pos (k := 0) ho
      have hlt := opAt_lt ho
      have con2 := hG b 0 (c + 1) (c + 1) (by omega) (by omega) (by omega) (by unfold need; omega)
      cases hr2 : lx l F 1 (c + 1) with
      | none =>
        have e : lx l (F + 1) 0 a = some (t, c) := by rw [lx, if_neg (by omega), hr]; show some (lpx l cmpL (lx l F 1) 1 t c) = _; rw [lpx_stop hr2]
        rw [show 0 + 1 = 1 from rfl, hr2] at con2
        refine R_ (o_ r_ (bl_ r_ r_ (fun bl => T_ (R_ (M_ r_ (M_ r_ (o_ r_ (bt_ [1] rfl rfl (con) (fun pp hpp => o_ r_ (bl_ r_ r_ (fun bl => S_ 0 r_ (T_ (am_ (R_ (F_ r_ (L_ 0 r_ (o_ r_ (cd_ r_ (T_ ?_)))))))))))))))))))
        refine ap_ r_ r_ (as_ (al_ (R_ (M_ r_ (F_ r_ (L_ 0 r_ (N_ r_ (F_ r_ (W_ 1 r_ (T_ (am_ (R_ (M_ r_ (o_ r_ (dd_ gl_cmps r_ r_ r_ (o_ r_ (bt_ [] rfl rfl (one_c b cmpL) (fun pp hpp => ?_))))))))))))))))))
        refine o_ r_ (cx_ (cs := [Ptr _, Ptr _]) [0, 0, 0] rfl rfl (fun _ _ => ⟨_, _, rfl, ⟨rfl, rfl⟩, _, _, rfl, ⟨rfl, rfl⟩, rfl⟩) rfl (op1_some hl g_ ho _ _) (E_ r_ (T_ (R_ (M_ r_ (o_ r_ (bx_ r_ r_ (T_ (aq_ r_ u_ (R_ (M_ r_ (M_ r_ (N_ r_ (F_ r_ (L_ 2 r_ (o_ r_ (bt_ [2] rfl rfl (con2) (fun pp hpp => o_ r_ (bl_ r_ r_ (fun bl => ?_))))))))))))))))))))
        exact S_ 0 r_ (T_ (R_ (F_ r_ (L_ 0 r_ (T_ (ap_ r_ r_ (as_ (al_ (R_ (A_ 4 r_ (S_ 5 r_ (T_ (ar_ (jq_retRowS rfl rfl rfl rfl 0 rfl (fun K h => by rw [e] at h; exact h pp hpp) (bc_ 2 r_ sub_end)))))))))))))))
      | some tb =>
        obtain ⟨u, d⟩ := tb
        have hc2 := lx_bd _ _ _ _ _ hr2
        have e : lx l (F + 1) 0 a = some (.bn o t u, d) := by rw [lx, if_neg (by omega), hr]; show some (lpx l cmpL (lx l F 1) 1 t c) = _; rw [lpx_go ho hr2, lpx]
        rw [show 0 + 1 = 1 from rfl, hr2] at con2
        refine R_ (o_ r_ (bl_ r_ r_ (fun bl => T_ (R_ (M_ r_ (M_ r_ (o_ r_ (bt_ [1] rfl rfl (con) (fun pp hpp => o_ r_ (bl_ r_ r_ (fun bl => S_ 0 r_ (T_ (am_ (R_ (F_ r_ (L_ 0 r_ (o_ r_ (cd_ r_ (T_ ?_)))))))))))))))))))
        refine ap_ r_ r_ (as_ (al_ (R_ (M_ r_ (F_ r_ (L_ 0 r_ (N_ r_ (F_ r_ (W_ 1 r_ (T_ (am_ (R_ (M_ r_ (o_ r_ (dd_ gl_cmps r_ r_ r_ (o_ r_ (bt_ [] rfl rfl (one_c b cmpL) (fun pp hpp => ?_))))))))))))))))))
        refine o_ r_ (cx_ (cs := [Ptr _, Ptr _]) [0, 0, 0] rfl rfl (fun _ _ => ⟨_, _, rfl, ⟨rfl, rfl⟩, _, _, rfl, ⟨rfl, rfl⟩, rfl⟩) rfl (op1_some hl g_ ho _ _) (E_ r_ (T_ (R_ (M_ r_ (o_ r_ (bx_ r_ r_ (T_ (aq_ r_ u_ (R_ (M_ r_ (M_ r_ (N_ r_ (F_ r_ (L_ 2 r_ (o_ r_ (bt_ [2] rfl rfl (con2) (fun pp hpp => o_ r_ (bl_ r_ r_ (fun bl => ?_))))))))))))))))))))
        refine S_ 0 r_ ?_; refine T_ ?_; refine R_ ?_; refine F_ r_ ?_; refine L_ 0 r_ ?_; refine T_ ?_; refine aq_ r_ r_ ?_; refine am_ ?_; refine jc_anyB 9 none rfl k_ k_ ?_; refine yM_ r_ ?_; refine yF_ r_ ?_; refine aa_ (fun c => cp_ 4 r_ r_ r_ r_ r_ p_) ?_; refine yF_ r_ ?_; refine aa_ (fun c => cp_ 0 r_ r_ r_ r_ r_ p_) ?_; refine aa_ (fun c => bm_ r_ (binary_c o t u) p_) ?_; refine yF_ r_ ?_
        exact yL_ 0 r_ (aa_ (fun c => bu_ r_ r_ r_ r_ r_ p_) (ae_ (afin_none (S_ 5 r_ (T_ (ar_ (aw_ (jq_retRowS rfl rfl rfl rfl 0 rfl (fun K h => by rw [e] at h; exact h pp hpp) (bc_ 2 r_ sub_end)))))))))
omit hl in
theorem longer_top (F : Nat) (hS : ShP l F) (b a p : Nat) (ha : a ≤ l.length) (hp : p ≤ l.length) (hF : need l 3 a ≤ F) : Con Tryd.prog 41 [Ptr b, In .i64 (a : Int), In .i64 ((2 : Nat) : Int)] [Pz b l p] (fun K => ∀ q : Nat, q ≤ l.length → K (.row (PFX (lx l F 3 a))) [Pz b l q]) := by
  have con := hS b a p ha hp hF
  refine con_intro Tryd.func41 rfl rfl (Nat.le_of_ble_eq_true rfl) (fun c hc => ?_)
  cases hr : lx l F 3 a with
  | none =>
    rw [hr] at con
    refine R_ (o_ r_ (bl_ r_ r_ (fun bl => T_ (am_ (R_ (M_ r_ (o_ r_ (bn_ r_ r_ (T_ (aq_ r_ x_ (R_ (M_ r_ (M_ r_ (o_ r_ (bt_ [1] rfl rfl (con) (fun pp hpp => S_ 1 r_ (T_ (ar_ ?_))))))))))))))))))
    exact aw_ (jq_retRowS rfl rfl rfl rfl 0 rfl (fun K h => h pp hpp) (bc_ 1 r_ sub_end))
  | some tb =>
    obtain ⟨t, c⟩ := tb
    rw [hr] at con
    refine R_ (o_ r_ (bl_ r_ r_ (fun bl => T_ (am_ (R_ (M_ r_ (o_ r_ (bn_ r_ r_ (T_ (aq_ r_ x_ (R_ (M_ r_ (M_ r_ (o_ r_ (bt_ [1] rfl rfl (con) (fun pp hpp => S_ 1 r_ (T_ (ar_ ?_))))))))))))))))))
    exact aw_ (jq_retRowS rfl rfl rfl rfl 0 rfl (fun K h => h pp hpp) (bc_ 1 r_ sub_end))
theorem longer_step (F k b a p : Nat) (hk : k ≤ 1) (hG : ∀ a p, a ≤ l.length → p ≤ l.length → need l (k + 2) a ≤ F → Con Tryd.prog 41 [Ptr b, In .i64 (a : Int), In .i64 ((k + 1 : Nat) : Int)] [Pz b l p] (fun K => ∀ q : Nat, q ≤ l.length → K (.row (PFX (lx l F (k + 2) a))) [Pz b l q]))
    (ha : a ≤ l.length) (hp : p ≤ l.length) (hF : need l (k + 1) a ≤ F + 1) : Con Tryd.prog 41 [Ptr b, In .i64 (a : Int), In .i64 (k : Int)] [Pz b l p] (fun K => ∀ q : Nat, q ≤ l.length → K (.row (PFX (lx l (F + 1) (k + 1) a))) [Pz b l q]) := by
  unfold need at hF
  have con := hG a p ha hp (by unfold need; omega)
  have hk2 : ¬ (k : Int) = 2 := by omega
  refine con_intro Tryd.func41 rfl rfl (Nat.le_of_ble_eq_true rfl) (fun c hc => ?_)
  cases hr : lx l F (k + 2) a with
  | none =>
    have e : lx l (F + 1) (k + 1) a = none := by rw [lx, if_neg (by omega), hr]
    rw [hr] at con
    refine R_ (o_ r_ (bl_ r_ r_ (fun bl => T_ (am_ (R_ (M_ r_ (o_ r_ (bn_ r_ r_ (T_ (ap_ r_ w_ (as_ (al_ (R_ (M_ r_ (M_ r_ (M_ r_ (o_ r_ (bj_ r_ r_ g_ ?_))))))))))))))))))
    refine o_ r_ (bt_ [1] rfl rfl (con) (fun pp hpp => o_ r_ (bl_ r_ r_ (fun bl => S_ 0 r_ (T_ (B_ ?_))))))
    rename_i bR
    refine jc_loopS (ι := Unit) [] (fun _ => True) (fun _ => [(0, Ptr b), (2, In .i64 (k : Int)), (6, Ptr bR), (7, Ptr bl)]) (fun _ => [.blk bR 67 (PFX none), .blk bl 67 (PFX none), Pz b l pp]) (fun _ => 0) () trivial ?_ ?_ ?_
    · exact bc_ 2 r_ (bc_ 0 r_ (bc_ 0 r_ sub_end))
    · (repeat (first | exact True.intro | refine ⟨rfl, ?_⟩))
    · intro _ _
      refine jc_reset [(0, Ptr b), (2, In .i64 (k : Int)), (6, Ptr bR), (7, Ptr bl)] [.blk bR 67 (PFX none), .blk bl 67 (PFX none), Pz b l pp] ?_ ⟨[0, 0, 0], [], rfl⟩ ?_
      · (repeat (first | exact True.intro | refine ⟨rfl, ?_⟩))
      refine am_ (R_ (F_ r_ (L_ 1 r_ (T_ (ap_ r_ r_ (av_ (ax_ (ax_ (ba_ (al_ (R_ (A_ 1 r_ (S_ 0 r_ (T_ (ar_ ?_)))))))))))))))
      exact jq_retRowS rfl rfl rfl rfl 0 rfl (fun K h => by rw [e] at h; exact h pp hpp) (bc_ 2 r_ sub_end)
  | some tb =>
    obtain ⟨t0, c0⟩ := tb
    have hc0 := lx_bd _ _ _ _ _ hr
    have e : lx l (F + 1) (k + 1) a = some (lpx l (opsL (k + 1)) (lx l F (k + 2)) F t0 c0) := by rw [lx, if_neg (by omega), hr, if_neg (Nat.succ_ne_zero k)]
    rw [hr] at con
    refine R_ (o_ r_ (bl_ r_ r_ (fun bl => T_ (am_ (R_ (M_ r_ (o_ r_ (bn_ r_ r_ (T_ (ap_ r_ w_ (as_ (al_ (R_ (M_ r_ (M_ r_ (M_ r_ (o_ r_ (bj_ r_ r_ g_ ?_))))))))))))))))))
    refine o_ r_ (bt_ [1] rfl rfl (con) (fun pp hpp => o_ r_ (bl_ r_ r_ (fun bl => S_ 0 r_ (T_ (B_ ?_))))))
    rename_i bR
    refine jc_loopS (ι := T × Nat × Nat × Nat) [] (fun i => (a ≤ i.2.1 ∧ i.2.1 ≤ l.length) ∧ l.length - i.2.1 ≤ i.2.2.1 ∧ i.2.2.2 ≤ l.length ∧ lpx l (opsL (k + 1)) (lx l F (k + 2)) F t0 c0 = lpx l (opsL (k + 1)) (lx l F (k + 2)) i.2.2.1 i.1 i.2.1)
      (fun _ => [(0, Ptr b), (2, In .i64 (k : Int)), (6, Ptr bR), (7, Ptr bl)]) (fun i => [.blk bR 67 (PFX none), .blk bl 67 (PFX (some (i.1, i.2.1))), Pz b l i.2.2.2]) (fun i => l.length - i.2.1) (t0, c0, F, pp) ⟨⟨by dsimp only; omega, hc0.2⟩, by dsimp only; omega, hpp, rfl⟩ ?_ ?_ ?_
    · exact bc_ 2 r_ (bc_ 0 r_ (bc_ 0 r_ sub_end))
    · (repeat (first | exact True.intro | refine ⟨rfl, ?_⟩))
    · rintro ⟨t, c, n, q⟩ ⟨⟨hac, hcl⟩, hn, hq, hi⟩
      dsimp only at hac hcl hn hq hi ⊢
      clear hpp
      refine jc_reset [(0, Ptr b), (2, In .i64 (k : Int)), (6, Ptr bR), (7, Ptr bl)] [.blk bR 67 (PFX none), .blk bl 67 (PFX (some (t, c))), Pz b l q] ?_ ⟨[0, 0, 0], [], rfl⟩ ?_
      · (repeat (first | exact True.intro | refine ⟨rfl, ?_⟩))
      refine am_ (R_ (F_ r_ (L_ 1 r_ (T_ (aq_ r_ r_ (as_ (al_ (au_ (R_ (M_ r_ (F_ r_ (L_ 1 r_ (N_ r_ (F_ r_ (W_ 2 r_ ?_)))))))))))))))
      refine T_ (R_ (M_ r_ (M_ r_ (o_ r_ (de_ (n := 2) (e := 29) r_ r_ r_ g_ g_ (o_ r_ (dd_ (e := .list ((opsL (k + 1)).map Wrow)) gl_lines rfl rfl (by rcases (show k = 0 ∨ k = 1 by omega) with rfl | rfl <;> rfl) ?_)))))))
      cases ho : opAt l (opsL (k + 1)) c with
      | none =>
        rw [lpx_none ho] at hi
        refine o_ r_ (bt_ [] rfl rfl (one_c b (opsL (k + 1))) (fun pp hpp => o_ r_ (cx_ (cs := [Ptr _, Ptr _]) [0, 0, 0] rfl rfl (fun _ _ => ⟨_, _, rfl, ⟨rfl, rfl⟩, _, _, rfl, ⟨rfl, rfl⟩, rfl⟩) rfl (op1_none hl g_ ho _ _) (E_ r_ (T_ (am_ (R_ (M_ r_ (o_ r_ (bn_ r_ r_ (T_ (aq_ r_ x_ (av_ (ax_ (bb_ r_ (ax_ (ba_ (al_ ?_))))))))))))))))))
        exact R_ (A_ 4 r_ (S_ 3 r_ (T_ (ar_ (jq_retRowS rfl rfl rfl rfl 0 rfl (fun K h => by rw [e, hi] at h; exact h c hcl) (bc_ 3 r_ sub_end))))))
      | some o =>
        have ho0 : ¬ o = 0 := opAt_pos ho
        have hlt := opAt_lt ho
        have con2 := hG (c + 1) (c + 1) (by omega) (by omega) (by unfold need; omega)
        cases hr2 : lx l F (k + 2) (c + 1) with
        | none =>
          rw [lpx_stop hr2] at hi
          rw [hr2] at con2
          refine o_ r_ (bt_ [] rfl rfl (one_c b (opsL (k + 1))) (fun pp hpp => o_ r_ (cx_ (cs := [Ptr _, Ptr _]) [0, 0, 0] rfl rfl (fun _ _ => ⟨_, _, rfl, ⟨rfl, rfl⟩, _, _, rfl, ⟨rfl, rfl⟩, rfl⟩) rfl (op1_some hl g_ ho _ _) (E_ r_ (T_ (am_ (R_ (M_ r_ (o_ r_ (bn_ r_ r_ (T_ (ap_ r_ w_ (as_ (al_ (R_ (M_ r_ (M_ r_ (N_ r_ ?_))))))))))))))))))
          refine F_ r_ (L_ 2 r_ (M_ r_ (o_ r_ (bj_ r_ r_ g_ (o_ r_ (bt_ [2] rfl rfl (con2) (fun pp hpp => o_ r_ (bl_ r_ r_ (fun bl => S_ 0 r_ (T_ (am_ (R_ (F_ r_ (L_ 0 r_ (o_ r_ (cd_ r_ (T_ (aq_ r_ r_ (av_ ?_)))))))))))))))))))
          exact ax_ (bb_ r_ (ax_ (ba_ (al_ (R_ (A_ 5 r_ (S_ 4 r_ (T_ (ar_ (jq_retRowS rfl rfl rfl rfl 0 rfl (fun K h => by rw [e, hi] at h; exact h pp hpp) (bc_ 2 r_ sub_end)))))))))))
        | some tb =>
          obtain ⟨u, d⟩ := tb
          have hc2 := lx_bd _ _ _ _ _ hr2
          rw [hr2] at con2
          obtain ⟨n, rfl⟩ : ∃ m, n = m + 1 := ⟨n - 1, by omega⟩
          rw [lpx_go ho hr2] at hi
          refine o_ r_ (bt_ [] rfl rfl (one_c b (opsL (k + 1))) (fun pp hpp => o_ r_ (cx_ (cs := [Ptr _, Ptr _]) [0, 0, 0] rfl rfl (fun _ _ => ⟨_, _, rfl, ⟨rfl, rfl⟩, _, _, rfl, ⟨rfl, rfl⟩, rfl⟩) rfl (op1_some hl g_ ho _ _) (E_ r_ (T_ (am_ (R_ (M_ r_ (o_ r_ (bn_ r_ r_ (T_ (ap_ r_ w_ (as_ (al_ (R_ (M_ r_ (M_ r_ (N_ r_ ?_))))))))))))))))))
          refine F_ r_ (L_ 2 r_ (M_ r_ (o_ r_ (bj_ r_ r_ g_ (o_ r_ (bt_ [2] rfl rfl (con2) (fun pp hpp => o_ r_ (bl_ r_ r_ (fun bl => S_ 0 r_ (T_ (am_ (R_ (F_ r_ (L_ 0 r_ (o_ r_ (cd_ r_ (T_ (ap_ r_ r_ (as_ ?_)))))))))))))))))))
          refine al_ ?_; refine jc_anyB 9 none rfl k_ k_ ?_; refine yM_ r_ ?_; refine yF_ r_ ?_; refine aa_ (fun c => cp_ 5 r_ r_ r_ r_ r_ p_) ?_; refine yF_ r_ ?_; refine aa_ (fun c => cp_ 0 r_ r_ r_ r_ r_ p_) ?_; refine aa_ (fun c => bm_ r_ (binary_c o t u) p_) ?_; refine yF_ r_ ?_; refine yL_ 0 r_ ?_; refine aa_ (fun c => bu_ r_ r_ r_ r_ r_ p_) ?_; refine ae_ ?_; refine afin_none ?_; refine S_ 5 r_ ?_; refine ak_ ?_; refine ay_ ?_
          refine jq_againS (i := (t, c, n + 1, q)) ((T.bn o t u, d, n, pp) : T × Nat × Nat × Nat) ⟨⟨by dsimp only; omega, hc2.2⟩, by dsimp only; omega, hpp, hi⟩ (by dsimp only; omega) ?_ ?_
          · exact bc_ 5 r_ (bc_ 0 r_ (bc_ 1 r_ sub_end))
          · (repeat (first | exact True.intro | refine ⟨rfl, ?_⟩))
/-- All of it. -/
theorem long_all : ∀ F : Nat, ShP l F ∧ LtP l F ∧ LgP l F
  | 0 => ⟨fun b a p ha hp h => absurd h (by unfold need; omega), fun b a p ha hp h => absurd h (by unfold need; omega), fun b k a p hk ha hp h => absurd h (by unfold need; omega)⟩
  | F + 1 => by
    obtain ⟨h1, h2, h3⟩ := long_all F
    have i1 := inner_step hl F h2
    have s1 := shortest_step hl F h1 i1
    refine ⟨s1, longest_step hl F h3, ?_⟩
    intro b k a p hk ha hp hF
    rcases (show k = 0 ∨ k = 1 ∨ k = 2 by omega) with rfl | rfl | rfl
    · exact longer_step hl F 0 b a p g_ (fun a p ha hp h => h3 b 1 a p g_ ha hp h) ha hp hF
    · exact longer_step hl F 1 b a p g_ (fun a p ha hp h => h3 b 2 a p g_ ha hp h) ha hp hF
    · exact longer_top (F + 1) s1 b a p ha hp hF
end
end Go.Proofs.YtlniadfidfmckaaDoor
end

section
namespace Go.Proofs.YtlniadfidfmckaaDoor
open Go.Vc
attribute [local irreducible] JL JC JQ OpWp Con ConN Pan ConE OpPan HP HT HOk hasW idxW isA isNum isNm numAt txtAt lineAt opAt lx lpx sx sxp
set_option maxHeartbeats 4000000

def finT (l : List Tok) (b : Nat) : R T → Fin
  | .ok t c => .ret (fun K => K (.row t.row') [Pz b l c])
  | .er code p => .pan (stopV l code p)
def JnP (l : List Tok) (F : Nat) : Prop := ∀ b k a, k ≤ 2 → a ≤ l.length → need l (k + 1) a ≤ F → ConE Tryd.prog 93 [Ptr b, In .i64 (k : Int)] [Pz b l a] (finT l b (sx false l F (k + 1) a))
def ExP (l : List Tok) (F : Nat) : Prop := ∀ b a, a ≤ l.length → need l 0 a ≤ F → ConE Tryd.prog 79 [Ptr b] [Pz b l a] (finT l b (sx false l F 0 a))
def FaP (l : List Tok) (F : Nat) : Prop := ∀ b a, a ≤ l.length → need l 3 a ≤ F → ConE Tryd.prog 102 [Ptr b] [Pz b l a] (finT l b (sx false l F 3 a))
theorem finT_ok {l : List Tok} {b : Nat} {P : Program} [Gl P] {f : FuncId} {args : List S} {Hin : List Ch} {r : R T} {t : T} {c : Nat} (h : ConE P f args Hin (finT l b r)) (e : r = .ok t c) : Con P f args Hin (fun K => K (.row t.row') [Pz b l c]) := by subst e; unfold finT ConE at h; exact h
theorem finT_er {l : List Tok} {b : Nat} {P : Program} [Gl P] {f : FuncId} {args : List S} {Hin : List Ch} {r : R T} {code : Int} {p : Nat} (h : ConE P f args Hin (finT l b r)) (e : r = .er code p) : Pan P f args Hin (stopV l code p) := by subst e; unfold finT ConE at h; exact h
theorem dpr_y {fr : Bool} {t : T} (h : ¬ (fr = false ∧ 8 < t.dep)) (a : Nat) : dpR fr t a = .ok t a := by unfold dpR; rw [if_neg h]
theorem dpr_n {fr : Bool} {t : T} (h : fr = false ∧ 8 < t.dep) (a : Nat) : dpR fr t a = .er 4 (a - 1) := by unfold dpR; rw [if_pos h]
section
variable {l : List Tok} {a b : Nat} (hl : l.length ≤ 1000000)
theorem pnode_y (t : T) (h : ¬ 8 < t.dep) : Con Tryd.prog 94 [Ptr b, .row t.row'] [Pz b l a] (fun K => K (.row t.row') [Pz b l a]) := by
  have hD := Depth_c 8 t (by omega)
  rw [dl_eq] at hD
  have hd' : ¬ ((min t.dep (8 + 1) : Nat) : Int) > 8 := by omega
  refine con_intro Tryd.func94 rfl rfl (Nat.le_of_ble_eq_true rfl) (fun c hc => R_ (o_ r_ (ci_ r_ (fun bx => o_ r_ (bl_ r_ r_ (fun bl => T_ (am_ (R_ (A_ 1 r_ (o_ r_ (bm_ r_ (hD) (o_ r_ (bz_ r_ r_ (T_ (ap_ r_ w_ (as_ (al_ (R_ (A_ 1 r_ ?_)))))))))))))))))))
  exact S_ 0 r_ (T_ (ar_ (jq_retRowS rfl rfl rfl rfl 0 rfl (fun K h => h) (bc_ 2 r_ sub_end))))
include hl
theorem pnode_n (t : T) (h : 8 < t.dep) (ha1 : 1 ≤ a) (ha : a ≤ l.length) : Pan Tryd.prog 94 [Ptr b, .row t.row'] [Pz b l a] (stopV l 4 (a - 1)) := by
  have hD := Depth_c 8 t (by omega)
  rw [dl_eq] at hD
  have hd' : ((min t.dep (8 + 1) : Nat) : Int) > 8 := by omega
  have hF := pfail_c (a := a) (b := b) hl 4 (a - 1) (by omega)
  rw [show ((a - 1 : Nat) : Int) = (a : Int) - 1 by omega] at hF
  refine pan_intro Tryd.func94 rfl rfl (Nat.le_of_ble_eq_true rfl) (fun c hc => R_ (o_ r_ (ci_ r_ (fun bx => o_ r_ (bl_ r_ r_ (fun bl => T_ (am_ (R_ (A_ 1 r_ (o_ r_ (bm_ r_ (hD) (o_ r_ (bz_ r_ r_ (T_ (aq_ r_ u_ (an_ (M_ r_ (M_ r_ (N_ r_ ?_)))))))))))))))))))
  refine F_ r_ (L_ 2 r_ (o_ r_ (cg_ r_ r_ g_ ?_)))
  exact jl_pan (op_pan [2] rfl rfl (hF)) (by (repeat (first | refine pq_then ?_ | refine pq_block ?_)); exact pq_fin (by first | rfl | assumption))
theorem pexpr_step (F : Nat) (hJ : JnP l F) : ExP l (F + 1) := by
  intro b a ha hN
  unfold need at hN
  have con := hJ b 0 a (by omega) ha (by unfold need; omega)
  refine con_introE Tryd.func79 rfl rfl (Nat.le_of_ble_eq_true rfl) (fun c hc => ?_)
  cases hs : sx false l F 1 a with
  | er code p =>
    have e : finT l b (sx false l (F + 1) 0 a) = .pan (stopV l code p) := by rw [sx, if_neg (by omega), hs]; rfl
    have con := finT_er con hs
    refine R_ (o_ r_ (bl_ r_ r_ (fun bl => T_ (R_ (M_ r_ ?_)))))
    exact jl_pan (op_pan [1] rfl rfl (con)) (by (repeat (first | refine pq_then ?_ | refine pq_block ?_)); exact pq_fin (by first | rfl | assumption))
  | ok x c =>
    have hbd := sx_bd _ _ _ _ _ hs
    have con := finT_ok con hs
    cases ho : opAt l cmpL c with
    | none =>
      have e : finT l b (sx false l (F + 1) 0 a) = .ret (fun K => K (.row x.row') [Pz b l c]) := by rw [sx, if_neg (by omega), hs]; show finT l b (sxp false l cmpL (sx false l F 1) 1 x c) = _; rw [sxp, ho]; rfl
      refine R_ (o_ r_ (bl_ r_ r_ (fun bl => T_ (R_ (M_ r_ (o_ r_ (bi_ [1] r_ r_ (con) (o_ r_ (bl_ r_ r_ (fun bl => S_ 0 r_ (T_ (am_ (R_ (M_ r_ (o_ r_ (dd_ gl_cmps r_ r_ r_ (o_ r_ (bt_ [] rfl rfl (one_c b cmpL) (fun pp hpp => o_ r_ (cx_ (cs := [Ptr _, Ptr _]) [0, 0, 1] rfl rfl (fun _ _ => ⟨_, _, rfl, ⟨rfl, rfl⟩, _, _, rfl, ⟨rfl, rfl⟩, rfl⟩) rfl (op1_none hl g_ ho _ _) (E_ r_ ?_)))))))))))))))))))))
      exact T_ (R_ (M_ r_ (o_ r_ (bx_ r_ r_ (T_ (ap_ r_ r_ (as_ (al_ (R_ (A_ 3 r_ (S_ 4 r_ (T_ (ar_ (jq_fin e (jq_retRowS rfl rfl rfl rfl 0 rfl (fun K h => h) (bc_ 3 r_ sub_end))))))))))))))))
    | some o =>
      have ho0 : ¬ o = 0 := opAt_pos (k := 0) ho
      have hlt := opAt_lt ho
      have con2 := hJ b 0 (c + 1) (by omega) (by omega) (by unfold need; omega)
      refine R_ (o_ r_ (bl_ r_ r_ (fun bl => T_ (R_ (M_ r_ (o_ r_ (bi_ [1] r_ r_ (con) (o_ r_ (bl_ r_ r_ (fun bl => S_ 0 r_ (T_ (am_ (R_ (M_ r_ (o_ r_ (dd_ gl_cmps r_ r_ r_ (o_ r_ (bt_ [] rfl rfl (one_c b cmpL) (fun pp hpp => o_ r_ (cx_ (cs := [Ptr _, Ptr _]) [0, 0, 1] rfl rfl (fun _ _ => ⟨_, _, rfl, ⟨rfl, rfl⟩, _, _, rfl, ⟨rfl, rfl⟩, rfl⟩) rfl (op1_some hl g_ ho _ _) (E_ r_ ?_)))))))))))))))))))))
      refine T_ (R_ (M_ r_ (o_ r_ (bx_ r_ r_ (T_ (aq_ r_ u_ ?_))))))
      cases hs2 : sx false l F 1 (c + 1) with
      | er code p =>
        have e : finT l b (sx false l (F + 1) 0 a) = .pan (stopV l code p) := by rw [sx, if_neg (by omega), hs]; show finT l b (sxp false l cmpL (sx false l F 1) 1 x c) = _; rw [sxp, ho]; dsimp only; rw [hs2]; rfl
        have con2 := finT_er con2 hs2
        refine jc_hp1 7 (n := 8) rfl 3 k_ rfl (fun cs1 hcs1 => ?_)
        obtain ⟨u10, u11, u12, u13, u14, rfl⟩ := len5 hcs1
        refine df_ (i := 0) rfl k_ k_ k_ b_ (by (repeat (first | refine pani_then ?_ | refine pani_block ?_)); exact pani_body) (dk_ rfl) ?_
        refine df_ (i := 1) rfl k_ k_ k_ b_ (by (repeat (first | refine pani_then ?_ | refine pani_block ?_)); exact pani_body) (dk_ rfl) ?_
        refine df_ (i := 2) rfl k_ k_ k_ b_ (by (repeat (first | refine pani_then ?_ | refine pani_block ?_)); exact pani_body) (dn_ 3 rfl rfl rfl mem0 rfl) ?_
        refine df_ (i := 3) rfl k_ k_ k_ b_ (by (repeat (first | refine pani_then ?_ | refine pani_block ?_)); exact pani_body) (dk_ rfl) ?_
        refine hp_exact 3 rfl mem0 ?_
        exact hp_pan (i := 4) rfl k_ (op_pan [3] rfl rfl (con2)) (by (repeat (first | refine pq_then ?_ | refine pq_block ?_)); exact pq_fin (by first | rfl | assumption))
      | ok y d =>
        have hbd2 := sx_bd _ _ _ _ _ hs2
        have con2 := finT_ok con2 hs2
        by_cases hd : 8 < (T.bn o x y).dep
        · have e : finT l b (sx false l (F + 1) 0 a) = .pan (stopV l 4 (d - 1)) := by rw [sx, if_neg (by omega), hs]; show finT l b (sxp false l cmpL (sx false l F 1) 1 x c) = _; rw [sxp, ho]; dsimp only; rw [hs2]; dsimp only; rw [dpr_n ⟨rfl, hd⟩]; rfl
          refine jc_hp1 7 (n := 8) rfl 3 k_ rfl (fun cs1 hcs1 => ?_)
          obtain ⟨u10, u11, u12, u13, u14, rfl⟩ := len5 hcs1
          refine df_ (i := 0) rfl k_ k_ k_ b_ (by (repeat (first | refine pani_then ?_ | refine pani_block ?_)); exact pani_body) (dk_ rfl) ?_
          refine df_ (i := 1) rfl k_ k_ k_ b_ (by (repeat (first | refine pani_then ?_ | refine pani_block ?_)); exact pani_body) (dk_ rfl) ?_
          refine df_ (i := 2) rfl k_ k_ k_ b_ (by (repeat (first | refine pani_then ?_ | refine pani_block ?_)); exact pani_body) (dn_ 3 rfl rfl rfl mem0 rfl) ?_
          refine df_ (i := 3) rfl k_ k_ k_ b_ (by (repeat (first | refine pani_then ?_ | refine pani_block ?_)); exact pani_body) (dk_ rfl) ?_
          refine hp_exact 3 rfl mem0 (dg_ (i := 4) r_ k_ b_ (bi_ [3] r_ r_ (con2) ⟨?_, ?_⟩))
          exact keep1 1 rfl
          refine dg_ (i := 5) r_ k_ b_ (bm_ r_ (binary_c o x y) ⟨?_, ?_⟩)
          exact keep1 1 rfl
          exact hp_pan (i := 6) rfl k_ (op_pan [0] rfl rfl (pnode_n hl _ hd g_ g_)) (by (repeat (first | refine pq_then ?_ | refine pq_block ?_)); exact pq_fin (by first | rfl | assumption))
        · have e : finT l b (sx false l (F + 1) 0 a) = .ret (fun K => K (.row (T.bn o x y).row') [Pz b l d]) := by rw [sx, if_neg (by omega), hs]; show finT l b (sxp false l cmpL (sx false l F 1) 1 x c) = _; rw [sxp, ho]; dsimp only; rw [hs2]; dsimp only; rw [dpr_y (fun h => hd h.2)]; dsimp only; rw [sxp]; rfl
          refine jc_hp1 7 (n := 8) rfl 3 k_ rfl (fun cs1 hcs1 => ?_)
          obtain ⟨u10, u11, u12, u13, u14, rfl⟩ := len5 hcs1
          refine df_ (i := 0) rfl k_ k_ k_ b_ (by (repeat (first | refine pani_then ?_ | refine pani_block ?_)); exact pani_body) (dk_ rfl) ?_
          refine df_ (i := 1) rfl k_ k_ k_ b_ (by (repeat (first | refine pani_then ?_ | refine pani_block ?_)); exact pani_body) (dk_ rfl) ?_
          refine df_ (i := 2) rfl k_ k_ k_ b_ (by (repeat (first | refine pani_then ?_ | refine pani_block ?_)); exact pani_body) (dn_ 3 rfl rfl rfl mem0 rfl) ?_
          refine df_ (i := 3) rfl k_ k_ k_ b_ (by (repeat (first | refine pani_then ?_ | refine pani_block ?_)); exact pani_body) (dk_ rfl) ?_
          refine hp_exact 3 rfl mem0 (dg_ (i := 4) r_ k_ b_ (bi_ [3] r_ r_ (con2) ⟨?_, ?_⟩))
          exact keep1 1 rfl
          refine dg_ (i := 5) r_ k_ b_ (bm_ r_ (binary_c o x y) ⟨?_, ?_⟩)
          exact keep1 1 rfl
          refine dg_ (i := 6) r_ k_ b_ (bi_ [0] r_ r_ (pnode_y _ hd) ⟨?_, ?_⟩)
          exact keep1 1 rfl
          exact hp_tail (dj_ (i := 7) rfl k_ (by decide) (bk_ 1 rfl rfl rfl rfl rfl rfl (ht_done k_ (al_ (R_ (A_ 0 r_ (S_ 4 r_ (T_ (ar_ (jq_fin e (jq_retRowS rfl rfl rfl rfl 0 rfl (fun K h => h) (bc_ 2 r_ sub_end))))))))))))
omit hl in
theorem pjoined_top (F b a : Nat) (hF : FaP l F) (ha : a ≤ l.length) (hN : need l 3 a ≤ F) : ConE Tryd.prog 93 [Ptr b, In .i64 ((2 : Nat) : Int)] [Pz b l a] (finT l b (sx false l F 3 a)) := by
  have con := hF b a ha hN
  refine con_introE Tryd.func93 rfl rfl (Nat.le_of_ble_eq_true rfl) (fun c hc => ?_)
  cases hs : sx false l F 3 a with
  | er code p =>
    have e : finT l b (.er code p) = .pan (stopV l code p) := rfl
    have con := finT_er con hs
    refine R_ (o_ r_ (bl_ r_ r_ (fun bl => T_ (am_ (R_ (M_ r_ (o_ r_ (bn_ r_ r_ (T_ (aq_ r_ x_ (R_ (M_ r_ ?_))))))))))))
    exact jl_pan (op_pan [1] rfl rfl (con)) (by (repeat (first | refine pq_then ?_ | refine pq_block ?_)); exact pq_fin (by first | rfl | assumption))
  | ok x c =>
    have e : finT l b (.ok x c) = .ret (fun K => K (.row x.row') [Pz b l c]) := rfl
    have con := finT_ok con hs
    refine R_ (o_ r_ (bl_ r_ r_ (fun bl => T_ (am_ (R_ (M_ r_ (o_ r_ (bn_ r_ r_ (T_ (aq_ r_ x_ (R_ (M_ r_ (o_ r_ (bi_ [1] r_ r_ (con) (S_ 1 r_ (T_ (ar_ (aw_ ?_))))))))))))))))))
    exact jq_fin e (jq_retRowS rfl rfl rfl rfl 0 rfl (fun K h => h) (bc_ 1 r_ sub_end))
theorem pjoined_step (F k b a : Nat) (hk : k ≤ 1) (hJ : ∀ a, a ≤ l.length → need l (k + 2) a ≤ F → ConE Tryd.prog 93 [Ptr b, In .i64 ((k : Int) + 1)] [Pz b l a] (finT l b (sx false l F (k + 2) a)))
    (ha : a ≤ l.length) (hN : need l (k + 1) a ≤ F + 1) : ConE Tryd.prog 93 [Ptr b, In .i64 (k : Int)] [Pz b l a] (finT l b (sx false l (F + 1) (k + 1) a)) := by
  unfold need at hN
  have con := hJ a ha (by unfold need; omega)
  have hk2 : ¬ (k : Int) = 2 := by omega
  refine con_introE Tryd.func93 rfl rfl (Nat.le_of_ble_eq_true rfl) (fun c hc => R_ (o_ r_ (bl_ r_ r_ (fun bl => T_ (am_ (R_ (M_ r_ (o_ r_ (bn_ r_ r_ (T_ (ap_ r_ w_ (as_ (al_ (R_ (M_ r_ (M_ r_ (o_ r_ (de_ (n := 2) (e := 29) r_ r_ r_ g_ g_ ?_))))))))))))))))))
  refine o_ r_ (dd_ (e := .list ((opsL (k + 1)).map Wrow)) gl_lines rfl rfl (by rcases (show k = 0 ∨ k = 1 by omega) with rfl | rfl <;> rfl) ?_)
  cases hs : sx false l F (k + 2) a with
  | er code p =>
    have e : finT l b (sx false l (F + 1) (k + 1) a) = .pan (stopV l code p) := by rw [sx, if_neg (by omega), hs]; rfl
    have con := finT_er con hs
    refine o_ r_ (bt_ [] rfl rfl (one_c b (opsL (k + 1))) (fun pp hpp => E_ r_ (T_ (R_ (M_ r_ (M_ r_ (o_ r_ (bj_ r_ r_ g_ ?_))))))))
    exact jl_pan (op_pan [3] rfl rfl (con)) (by (repeat (first | refine pq_then ?_ | refine pq_block ?_)); exact pq_fin (by first | rfl | assumption))
  | ok x0 c0 =>
    have hbd := sx_bd _ _ _ _ _ hs
    have con := finT_ok con hs
    have e : sx false l (F + 1) (k + 1) a = sxp false l (opsL (k + 1)) (sx false l F (k + 2)) F x0 c0 := by rw [sx, if_neg (by omega), hs]; dsimp only; rw [if_neg (Nat.succ_ne_zero k)]
    generalize hr : sx false l (F + 1) (k + 1) a = r at e ⊢
    clear hr
    obtain ⟨o0, q0, ho0⟩ : ∃ (o0 : Int) (q0 : Nat), (opAt l (opsL (k + 1)) c0 = none ∧ o0 = 0 ∧ q0 = c0) ∨ (opAt l (opsL (k + 1)) c0 = some o0 ∧ ¬ o0 = 0 ∧ q0 = c0 + 1) := by
      cases h : opAt l (opsL (k + 1)) c0 with
      | none => exact ⟨0, c0, .inl ⟨rfl, rfl, rfl⟩⟩
      | some o => exact ⟨o, c0 + 1, .inr ⟨rfl, opAt_pos h, rfl⟩⟩
    have con1 : ∀ p q : Nat, Con Tryd.prog 65 [Ptr p, Ptr q] [Cap1 p (opsL (k + 1)), Cap2 q b, Pz b l c0] (fun K => K (In .i64 o0) [Cap1 p (opsL (k + 1)), Cap2 q b, Pz b l q0]) := by
      intro p q
      rcases ho0 with ⟨h, rfl, rfl⟩ | ⟨h, _, rfl⟩
      · exact op1_none hl g_ h p q
      · exact op1_some hl g_ h p q
    refine o_ r_ (bt_ [] rfl rfl (one_c b (opsL (k + 1))) (fun pp hpp => E_ r_ (T_ (R_ (M_ r_ (M_ r_ (o_ r_ (bj_ r_ r_ g_ (o_ r_ (bi_ [3] r_ r_ (con) (o_ r_ (bl_ r_ r_ (fun bl => S_ 0 r_ (T_ (am_ (R_ (M_ r_ (o_ r_ (cx_ (cs := [Ptr _, Ptr _]) [2, 2, 1] rfl rfl (fun _ _ => ⟨_, _, rfl, ⟨rfl, rfl⟩, _, _, rfl, ⟨rfl, rfl⟩, rfl⟩) rfl (con1 _ _) (E_ r_ ?_))))))))))))))))))))
    refine T_ (au_ ?_)
    rename_i bR
    clear con1 con
    refine jc_loopS (ι := T × Nat × Nat × Int × Nat) [] (fun i => (a < i.2.1 ∧ i.2.1 ≤ l.length) ∧ l.length - i.2.1 ≤ i.2.2.1 ∧ ((opAt l (opsL (k + 1)) i.2.1 = none ∧ i.2.2.2.1 = 0 ∧ i.2.2.2.2 = i.2.1) ∨ (opAt l (opsL (k + 1)) i.2.1 = some i.2.2.2.1 ∧ ¬ i.2.2.2.1 = 0 ∧ i.2.2.2.2 = i.2.1 + 1)) ∧ r = sxp false l (opsL (k + 1)) (sx false l F (k + 2)) i.2.2.1 i.1 i.2.1)
      (fun i => [(0, Ptr b), (1, In .i64 (k : Int)), (4, Ptr bR), (5, .cell (.val (.func (.func 65) #[] #[.pointer (some ⟨pp.1, 0, none⟩), .pointer (some ⟨pp.2, 0, none⟩)]))), (6, Ptr bl), (7, In .i64 i.2.2.2.1)])
      (fun i => [Cap1 pp.1 (opsL (k + 1)), Cap2 pp.2 b, Pz b l i.2.2.2.2, .blk bl 47 i.1.row', .blk bR 47 [.val (.int .i64 0), .val (.int .i64 0), .val (.string ⟨#[]⟩), .val (.int .i64 0), .val (.slice none 0 0)]]) (fun i => l.length - i.2.1) (x0, c0, F, o0, q0) ⟨hbd, by dsimp only; omega, ho0, e⟩ ?_ ?_ ?_
    · exact bc_ 0 r_ (bc_ 0 r_ (bc_ 0 r_ (bc_ 0 r_ (bc_ 0 r_ sub_end))))
    · (repeat (first | exact True.intro | refine ⟨rfl, ?_⟩))
    clear ho0 hpp e
    rintro ⟨x, c, n, o, q⟩ ⟨⟨hac, hcl⟩, hn, ho, hi⟩
    dsimp only at hac hcl hn ho hi ⊢
    refine jc_reset [(0, Ptr b), (1, In .i64 (k : Int)), (4, Ptr bR), (5, .cell (.val (.func (.func 65) #[] #[.pointer (some ⟨pp.1, 0, none⟩), .pointer (some ⟨pp.2, 0, none⟩)]))), (6, Ptr bl), (7, In .i64 o)] [Cap1 pp.1 (opsL (k + 1)), Cap2 pp.2 b, Pz b l q, .blk bl 47 x.row', .blk bR 47 [.val (.int .i64 0), .val (.int .i64 0), .val (.string ⟨#[]⟩), .val (.int .i64 0), .val (.slice none 0 0)]] ?_ ⟨[0, 0, 0, 0, 0], [], rfl⟩ ?_
    · (repeat (first | exact True.intro | refine ⟨rfl, ?_⟩))
    rcases ho with ⟨ho, rfl, rfl⟩ | ⟨ho, hn0, rfl⟩
    · have e : finT l b r = .ret (fun K => K (.row x.row') [Pz b l q]) := by rw [hi]; cases n <;> rw [sxp] <;> (try rw [ho]) <;> rfl
      refine am_ (R_ (M_ r_ (o_ r_ (bx_ r_ r_ (T_ (ap_ r_ r_ (av_ (ax_ (ax_ (ba_ (al_ (R_ (A_ 3 r_ (S_ 4 r_ (T_ (ar_ ?_))))))))))))))))
      exact jq_fin e (jq_retRowS rfl rfl rfl rfl 0 rfl (fun K h => h) (bc_ 3 r_ sub_end))
    · have hlt := opAt_lt ho
      obtain ⟨n, rfl⟩ : ∃ m, n = m + 1 := ⟨n - 1, by omega⟩
      have con2 := hJ (c + 1) (by omega) (by unfold need; omega)
      refine am_ (R_ (M_ r_ (o_ r_ (bx_ r_ r_ (T_ (aq_ r_ u_ (as_ (al_ (B_ ?_)))))))))
      cases hs2 : sx false l F (k + 2) (c + 1) with
      | er code p =>
        have e : finT l b r = .pan (stopV l code p) := by rw [hi, sxp, ho]; dsimp only; rw [hs2]; rfl
        have con2 := finT_er con2 hs2
        refine jc_hp1 9 (n := 10) rfl 3 k_ rfl (fun cs1 hcs1 => ?_)
        obtain ⟨u10, u11, u12, u13, u14, rfl⟩ := len5 hcs1
        refine df_ (i := 0) rfl k_ k_ k_ b_ (by (repeat (first | refine pani_then ?_ | refine pani_block ?_)); exact pani_body) (dk_ rfl) ?_
        refine df_ (i := 1) rfl k_ k_ k_ b_ (by (repeat (first | refine pani_then ?_ | refine pani_block ?_)); exact pani_body) (dk_ rfl) ?_
        refine df_ (i := 2) rfl k_ k_ k_ b_ (by (repeat (first | refine pani_then ?_ | refine pani_block ?_)); exact pani_body) (dn_ 3 rfl rfl rfl mem0 rfl) ?_
        refine df_ (i := 3) rfl k_ k_ k_ b_ (by (repeat (first | refine pani_then ?_ | refine pani_block ?_)); exact pani_body) (dk_ rfl) ?_
        refine df_ (i := 4) rfl k_ k_ k_ b_ (by (repeat (first | refine pani_then ?_ | refine pani_block ?_)); exact pani_body) (dk_ rfl) ?_
        refine df_ (i := 5) rfl k_ k_ k_ b_ (by (repeat (first | refine pani_then ?_ | refine pani_block ?_)); exact pani_body) (do_ rfl rfl g_) ?_
        refine hp_exact 3 rfl mem0 ?_
        exact hp_pan (i := 6) rfl k_ (op_pan [3] rfl rfl (con2)) (by (repeat (first | refine pq_then ?_ | refine pq_block ?_)); exact pq_fin (by first | rfl | assumption))
      | ok y d =>
        have hbd2 := sx_bd _ _ _ _ _ hs2
        have con2 := finT_ok con2 hs2
        by_cases hd : 8 < (T.bn o x y).dep
        · have e : finT l b r = .pan (stopV l 4 (d - 1)) := by rw [hi, sxp, ho]; dsimp only; rw [hs2]; dsimp only; rw [dpr_n ⟨rfl, hd⟩]; rfl
          refine jc_hp1 9 (n := 10) rfl 3 k_ rfl (fun cs1 hcs1 => ?_)
          obtain ⟨u10, u11, u12, u13, u14, rfl⟩ := len5 hcs1
          refine df_ (i := 0) rfl k_ k_ k_ b_ (by (repeat (first | refine pani_then ?_ | refine pani_block ?_)); exact pani_body) (dk_ rfl) ?_
          refine df_ (i := 1) rfl k_ k_ k_ b_ (by (repeat (first | refine pani_then ?_ | refine pani_block ?_)); exact pani_body) (dk_ rfl) ?_
          refine df_ (i := 2) rfl k_ k_ k_ b_ (by (repeat (first | refine pani_then ?_ | refine pani_block ?_)); exact pani_body) (dn_ 3 rfl rfl rfl mem0 rfl) ?_
          refine df_ (i := 3) rfl k_ k_ k_ b_ (by (repeat (first | refine pani_then ?_ | refine pani_block ?_)); exact pani_body) (dk_ rfl) ?_
          refine df_ (i := 4) rfl k_ k_ k_ b_ (by (repeat (first | refine pani_then ?_ | refine pani_block ?_)); exact pani_body) (dk_ rfl) ?_
          refine df_ (i := 5) rfl k_ k_ k_ b_ (by (repeat (first | refine pani_then ?_ | refine pani_block ?_)); exact pani_body) (do_ rfl rfl g_) ?_
          refine hp_exact 3 rfl mem0 (dg_ (i := 6) r_ k_ b_ (bi_ [3] r_ r_ (con2) ⟨?_, ?_⟩))
          exact keep1 1 rfl
          refine dg_ (i := 7) r_ k_ b_ (bm_ r_ (binary_c o x y) ⟨?_, ?_⟩)
          exact keep1 1 rfl
          exact hp_pan (i := 8) rfl k_ (op_pan [0] rfl rfl (pnode_n hl _ hd g_ g_)) (by (repeat (first | refine pq_then ?_ | refine pq_block ?_)); exact pq_fin (by first | rfl | assumption))
        · have e : r = sxp false l (opsL (k + 1)) (sx false l F (k + 2)) n (.bn o x y) d := by rw [hi, sxp, ho]; dsimp only; rw [hs2]; dsimp only; rw [dpr_y (fun h => hd h.2)]
          refine jc_hp1 9 (n := 10) rfl 3 k_ rfl (fun cs1 hcs1 => ?_)
          obtain ⟨u10, u11, u12, u13, u14, rfl⟩ := len5 hcs1
          refine df_ (i := 0) rfl k_ k_ k_ b_ (by (repeat (first | refine pani_then ?_ | refine pani_block ?_)); exact pani_body) (dk_ rfl) ?_
          refine df_ (i := 1) rfl k_ k_ k_ b_ (by (repeat (first | refine pani_then ?_ | refine pani_block ?_)); exact pani_body) (dk_ rfl) ?_
          refine df_ (i := 2) rfl k_ k_ k_ b_ (by (repeat (first | refine pani_then ?_ | refine pani_block ?_)); exact pani_body) (dn_ 3 rfl rfl rfl mem0 rfl) ?_
          refine df_ (i := 3) rfl k_ k_ k_ b_ (by (repeat (first | refine pani_then ?_ | refine pani_block ?_)); exact pani_body) (dk_ rfl) ?_
          refine df_ (i := 4) rfl k_ k_ k_ b_ (by (repeat (first | refine pani_then ?_ | refine pani_block ?_)); exact pani_body) (dk_ rfl) ?_
          refine df_ (i := 5) rfl k_ k_ k_ b_ (by (repeat (first | refine pani_then ?_ | refine pani_block ?_)); exact pani_body) (do_ rfl rfl g_) ?_
          refine hp_exact 3 rfl mem0 (dg_ (i := 6) r_ k_ b_ (bi_ [3] r_ r_ (con2) ⟨?_, ?_⟩))
          exact keep1 1 rfl
          refine dg_ (i := 7) r_ k_ b_ (bm_ r_ (binary_c o x y) ⟨?_, ?_⟩)
          exact keep1 1 rfl
          refine dg_ (i := 8) r_ k_ b_ (bi_ [0] r_ r_ (pnode_y _ hd) ⟨?_, ?_⟩)
          exact keep1 1 rfl
          refine hp_tail (dj_ (i := 9) rfl k_ (by decide) (bk_ 1 rfl rfl rfl rfl rfl rfl (ht_done k_ ?_)))
          cases ho2 : opAt l (opsL (k + 1)) d with
          | none =>
            refine ay_ (al_ (an_ (M_ r_ (o_ r_ (cx_ (cs := [Ptr _, Ptr _]) [2, 2, 1] rfl rfl (fun _ _ => ⟨_, _, rfl, ⟨rfl, rfl⟩, _, _, rfl, ⟨rfl, rfl⟩, rfl⟩) rfl (op1_none hl g_ ho2 _ _) (E_ r_ (ak_ (jq_againS (i := (x, c, n + 1, o, c + 1)) ((T.bn o x y, d, n, 0, d) : T × Nat × Nat × Int × Nat) ⟨⟨by dsimp only; omega, hbd2.2⟩, by dsimp only; omega, .inl ⟨ho2, rfl, rfl⟩, e⟩ (by dsimp only; omega) ?_ ?_))))))))
            · exact bc_ 0 r_ (bc_ 0 r_ (bc_ 0 r_ (bc_ 0 r_ (bc_ 0 r_ sub_end))))
            · (repeat (first | exact True.intro | refine ⟨rfl, ?_⟩))
          | some o2 =>
            have hlt2 := opAt_lt ho2
            refine ay_ (al_ (an_ (M_ r_ (o_ r_ (cx_ (cs := [Ptr _, Ptr _]) [2, 2, 1] rfl rfl (fun _ _ => ⟨_, _, rfl, ⟨rfl, rfl⟩, _, _, rfl, ⟨rfl, rfl⟩, rfl⟩) rfl (op1_some hl g_ ho2 _ _) (E_ r_ (ak_ (jq_againS (i := (x, c, n + 1, o, c + 1)) ((T.bn o x y, d, n, o2, d + 1) : T × Nat × Nat × Int × Nat) ⟨⟨by dsimp only; omega, hbd2.2⟩, by dsimp only; omega, .inr ⟨ho2, opAt_pos ho2, rfl⟩, e⟩ (by dsimp only; omega) ?_ ?_))))))))
            · exact bc_ 0 r_ (bc_ 0 r_ (bc_ 0 r_ (bc_ 0 r_ (bc_ 0 r_ sub_end))))
            · (repeat (first | exact True.intro | refine ⟨rfl, ?_⟩))
omit hl in
theorem ix_row (s : ByteArray) (x : T) : (T.ix s x).row' = [.val (.int .i64 3), .val (.int .i64 0), .val (.string s), .val (.int .i64 0), .list [x.row']] := by
  rw [← T.row_eq x]; rfl
theorem pfactor_step (F : Nat) (hF : FaP l F) (hX : ExP l F) : FaP l (F + 1) := by
  intro b a ha hN
  unfold need at hN
  refine con_introE Tryd.func102 rfl rfl (Nat.le_of_ble_eq_true rfl) (fun c hc => ?_)
  cases h1 : isNum l a with
  | true =>
    have e : finT l b (sx false l (F + 1) 3 a) = .ret (fun K => K (.row (T.nu (numAt l a)).row') [Pz b l (a + 1)]) := by rw [sx, if_pos (Nat.le_refl _), if_pos h1]; rfl
    refine R_ (o_ r_ (bl_ r_ r_ (fun bl => T_ (B_ (R_ (M_ r_ (o_ r_ (bi_ [1] r_ r_ (numbered_y ha h1) (E_ r_ (T_ (aq_ r_ r_ (R_ (M_ r_ (o_ r_ (bi_ [0] r_ r_ (pnum_ok hl ha h1) (o_ r_ (bu_ r_ r_ r_ r_ r_ (S_ 1 r_ (T_ ?_)))))))))))))))))))
    refine ar_ (az_ (aw_ (jq_fin e (jq_row 0 (T.nu (numAt l a)).row' rfl ?_ ?_))))
    · (repeat (first | exact RowLe.nil | refine RowLe.cons (CLe.refl _) ?_ | refine RowLe.cons CLe.nil ?_))
    · exact jq_retRowS rfl rfl rfl rfl 0 rfl (fun K h => h) (bc_ 1 r_ sub_end)
  | false =>
    have h1' : ¬ isNum l a = true := by rw [h1]; decide
    cases h2 : isA l a W45 with
    | true =>
      have hlt := isA_lt h2
      cases h3 : isNum l (a + 1) with
      | true =>
        have e : finT l b (sx false l (F + 1) 3 a) = .ret (fun K => K (.row (T.nu (ngI (numAt l (a + 1)))).row') [Pz b l (a + 2)]) := by rw [sx, if_pos (Nat.le_refl _), if_neg h1', if_pos h2, if_pos h3]; rfl
        refine R_ (o_ r_ (bl_ r_ r_ (fun bl => T_ (B_ (R_ (M_ r_ (o_ r_ (bi_ [1] r_ r_ (numbered_n ha h1) (E_ r_ (T_ (ap_ r_ r_ (R_ (M_ r_ (o_ r_ (bi_ [0] r_ r_ (has_y hl ha h2) (E_ r_ (T_ (aq_ r_ r_ ?_))))))))))))))))))
        refine am_ (R_ (M_ r_ (o_ r_ (bi_ [0] r_ r_ (numbered_y g_ h3) (T_ (aq_ r_ r_ (R_ (M_ r_ (o_ r_ (bi_ [0] r_ r_ (pnum_ok hl g_ h3) (o_ r_ (ow_negW r_ (o_ r_ (bu_ r_ r_ r_ r_ r_ (S_ 1 r_ (T_ (ar_ (aw_ (az_ ?_)))))))))))))))))))
        refine aw_ (jq_fin e (jq_row 0 (T.nu (ngI (numAt l (a + 1)))).row' rfl ?_ ?_))
        · (repeat (first | exact RowLe.nil | refine RowLe.cons (CLe.refl _) ?_ | refine RowLe.cons CLe.nil ?_))
        · exact jq_retRowS rfl rfl rfl rfl 0 rfl (fun K h => h) (bc_ 1 r_ sub_end)
      | false =>
        have h3' : ¬ isNum l (a + 1) = true := by rw [h3]; decide
        have con := hF b (a + 1) (by omega) (by unfold need; omega)
        cases hr : sx false l F 3 (a + 1) with
        | er code p =>
          have e : finT l b (sx false l (F + 1) 3 a) = .pan (stopV l code p) := by rw [sx, if_pos (Nat.le_refl _), if_neg h1', if_pos h2, if_neg h3', hr]; rfl
          have con := finT_er con hr
          refine R_ (o_ r_ (bl_ r_ r_ (fun bl => T_ (B_ (R_ (M_ r_ (o_ r_ (bi_ [1] r_ r_ (numbered_n ha h1) (E_ r_ (T_ (ap_ r_ r_ (R_ (M_ r_ (o_ r_ (bi_ [0] r_ r_ (has_y hl ha h2) (E_ r_ (T_ (aq_ r_ r_ ?_))))))))))))))))))
          refine am_ (R_ (M_ r_ (o_ r_ (bi_ [0] r_ r_ (numbered_n g_ h3) (T_ (ap_ r_ r_ (as_ (al_ (R_ (M_ r_ (o_ r_ (bu_ r_ r_ r_ r_ r_ (M_ r_ ?_)))))))))))))
          exact jl_pan (op_pan [0] rfl rfl (con)) (by (repeat (first | refine pq_then ?_ | refine pq_block ?_)); exact pq_fin (by first | rfl | assumption))
        | ok x c =>
          have hbd := sx_bd _ _ _ _ _ hr
          have con := finT_ok con hr
          by_cases hd : 8 < (T.bn 2 (.nu 0) x).dep
          · have e : finT l b (sx false l (F + 1) 3 a) = .pan (stopV l 4 (c - 1)) := by rw [sx, if_pos (Nat.le_refl _), if_neg h1', if_pos h2, if_neg h3', hr]; dsimp only; rw [dpr_n ⟨rfl, hd⟩]; rfl
            refine R_ (o_ r_ (bl_ r_ r_ (fun bl => T_ (B_ (R_ (M_ r_ (o_ r_ (bi_ [1] r_ r_ (numbered_n ha h1) (E_ r_ (T_ (ap_ r_ r_ (R_ (M_ r_ (o_ r_ (bi_ [0] r_ r_ (has_y hl ha h2) (E_ r_ (T_ (aq_ r_ r_ ?_))))))))))))))))))
            refine am_ (R_ (M_ r_ (o_ r_ (bi_ [0] r_ r_ (numbered_n g_ h3) (T_ (ap_ r_ r_ (as_ (al_ (R_ (M_ r_ (o_ r_ (bu_ r_ r_ r_ r_ r_ (M_ r_ (o_ r_ (bi_ [0] r_ r_ (con) (o_ r_ (bm_ r_ (binaryN_c 2 0 x) ?_)))))))))))))))))
            exact jl_pan (op_pan [0] rfl rfl (pnode_n hl _ hd g_ g_)) (by (repeat (first | refine pq_then ?_ | refine pq_block ?_)); exact pq_fin (by first | rfl | assumption))
          · have e : finT l b (sx false l (F + 1) 3 a) = .ret (fun K => K (.row (T.bn 2 (.nu 0) x).row') [Pz b l c]) := by rw [sx, if_pos (Nat.le_refl _), if_neg h1', if_pos h2, if_neg h3', hr]; dsimp only; rw [dpr_y (fun h => hd h.2)]; rfl
            refine R_ (o_ r_ (bl_ r_ r_ (fun bl => T_ (B_ (R_ (M_ r_ (o_ r_ (bi_ [1] r_ r_ (numbered_n ha h1) (E_ r_ (T_ (ap_ r_ r_ (R_ (M_ r_ (o_ r_ (bi_ [0] r_ r_ (has_y hl ha h2) (E_ r_ (T_ (aq_ r_ r_ ?_))))))))))))))))))
            refine am_ (R_ (M_ r_ (o_ r_ (bi_ [0] r_ r_ (numbered_n g_ h3) (T_ (ap_ r_ r_ (as_ (al_ (R_ (M_ r_ (o_ r_ (bu_ r_ r_ r_ r_ r_ (M_ r_ (o_ r_ (bi_ [0] r_ r_ (con) (o_ r_ (bm_ r_ (binaryN_c 2 0 x) (o_ r_ (bi_ [0] r_ r_ (pnode_y _ hd) (S_ 1 r_ ?_))))))))))))))))))))
            exact T_ (ar_ (az_ (aw_ (jq_fin e (jq_retRowS rfl rfl rfl rfl 0 rfl (fun K h => h) (bc_ 1 r_ sub_end))))))
    | false =>
      have h2' : ¬ isA l a W45 = true := by rw [h2]; decide
      cases h3 : isNm l a with
      | true =>
        have hlt := isNm_lt h3
        cases h4 : isA l (a + 1) W91 with
        | true =>
          have hlt2 := isA_lt h4
          have con := hX b (a + 2) (by omega) (by unfold need; omega)
          cases hr : sx false l F 0 (a + 2) with
          | er code p =>
            have e : finT l b (sx false l (F + 1) 3 a) = .pan (stopV l code p) := by rw [sx, if_pos (Nat.le_refl _), if_neg h1', if_neg h2', if_pos h3, if_pos h4, hr]; rfl
            have con := finT_er con hr
            refine R_ (o_ r_ (bl_ r_ r_ (fun bl => T_ (B_ (R_ (M_ r_ (o_ r_ (bi_ [1] r_ r_ (numbered_n ha h1) (E_ r_ (T_ (ap_ r_ r_ (R_ (M_ r_ (o_ r_ (bi_ [0] r_ r_ (has_n hl ha h2) (E_ r_ (T_ (ap_ r_ r_ ?_))))))))))))))))))
            refine R_ (M_ r_ (o_ r_ (bi_ [0] r_ r_ (named_y ha h3) (o_ r_ (cd_ r_ (E_ r_ (T_ (ap_ r_ r_ (as_ (ay_ (al_ (R_ (M_ r_ (o_ r_ (bi_ [0] r_ r_ (pname_ok hl ha h3) (E_ r_ (T_ (am_ ?_))))))))))))))))))
            refine R_ (M_ r_ (o_ r_ (bi_ [0] r_ r_ (has_y hl g_ h4) (o_ r_ (cd_ r_ (T_ (ap_ r_ r_ (as_ (al_ (R_ (M_ r_ ?_)))))))))))
            exact jl_pan (op_pan [0] rfl rfl (con)) (by (repeat (first | refine pq_then ?_ | refine pq_block ?_)); exact pq_fin (by first | rfl | assumption))
          | ok x c =>
            have hbd := sx_bd _ _ _ _ _ hr
            have con := finT_ok con hr
            cases h5 : isA l c W93 with
            | true =>
              have hlt5 := isA_lt h5
              by_cases hd : 8 < (T.ix (txtAt l a) x).dep
              · have e : finT l b (sx false l (F + 1) 3 a) = .pan (stopV l 4 c) := by rw [sx, if_pos (Nat.le_refl _), if_neg h1', if_neg h2', if_pos h3, if_pos h4, hr]; dsimp only; rw [if_pos h5, dpr_n ⟨rfl, hd⟩]; rfl
                have hN := pnode_n (b := b) (a := c + 1) hl _ hd (by omega) (by omega)
                rw [show c + 1 - 1 = c by omega, ix_row] at hN
                refine R_ (o_ r_ (bl_ r_ r_ (fun bl => T_ (B_ (R_ (M_ r_ (o_ r_ (bi_ [1] r_ r_ (numbered_n ha h1) (E_ r_ (T_ (ap_ r_ r_ (R_ (M_ r_ (o_ r_ (bi_ [0] r_ r_ (has_n hl ha h2) (E_ r_ (T_ (ap_ r_ r_ ?_))))))))))))))))))
                refine R_ (M_ r_ (o_ r_ (bi_ [0] r_ r_ (named_y ha h3) (o_ r_ (cd_ r_ (E_ r_ (T_ (ap_ r_ r_ (as_ (ay_ (al_ (R_ (M_ r_ (o_ r_ (bi_ [0] r_ r_ (pname_ok hl ha h3) (E_ r_ (T_ (am_ ?_))))))))))))))))))
                refine R_ (M_ r_ (o_ r_ (bi_ [0] r_ r_ (has_y hl g_ h4) (o_ r_ (cd_ r_ (T_ (ap_ r_ r_ (as_ (al_ (R_ (M_ r_ (o_ r_ (bi_ [0] r_ r_ (con) (o_ r_ (bl_ r_ r_ (fun bl => S_ 0 r_ (T_ (R_ (M_ r_ ?_)))))))))))))))))))
                refine o_ r_ (bi_ [1] r_ r_ (pword_ok hl g_ _ h5) (T_ (R_ (M_ r_ (M_ r_ (A_ 1 r_ (o_ r_ (bq_ r_ r_ b_ r_ r_ b_ (o_ r_ (bu_ r_ r_ r_ r_ r_ ?_))))))))))
                exact jl_pan (op_pan [0] rfl rfl (hN)) (by (repeat (first | refine pq_then ?_ | refine pq_block ?_)); exact pq_fin (by first | rfl | assumption))
              · have e : finT l b (sx false l (F + 1) 3 a) = .ret (fun K => K (.row (T.ix (txtAt l a) x).row') [Pz b l (c + 1)]) := by rw [sx, if_pos (Nat.le_refl _), if_neg h1', if_neg h2', if_pos h3, if_pos h4, hr]; dsimp only; rw [if_pos h5, dpr_y (fun h => hd h.2)]; rfl
                have hN := pnode_y (b := b) (l := l) (a := c + 1) _ hd
                rw [ix_row] at e hN
                refine R_ (o_ r_ (bl_ r_ r_ (fun bl => T_ (B_ (R_ (M_ r_ (o_ r_ (bi_ [1] r_ r_ (numbered_n ha h1) (E_ r_ (T_ (ap_ r_ r_ (R_ (M_ r_ (o_ r_ (bi_ [0] r_ r_ (has_n hl ha h2) (E_ r_ (T_ (ap_ r_ r_ ?_))))))))))))))))))
                refine R_ (M_ r_ (o_ r_ (bi_ [0] r_ r_ (named_y ha h3) (o_ r_ (cd_ r_ (E_ r_ (T_ (ap_ r_ r_ (as_ (ay_ (al_ (R_ (M_ r_ (o_ r_ (bi_ [0] r_ r_ (pname_ok hl ha h3) (E_ r_ (T_ (am_ ?_))))))))))))))))))
                refine R_ (M_ r_ (o_ r_ (bi_ [0] r_ r_ (has_y hl g_ h4) (o_ r_ (cd_ r_ (T_ (ap_ r_ r_ (as_ (al_ (R_ (M_ r_ (o_ r_ (bi_ [0] r_ r_ (con) (o_ r_ (bl_ r_ r_ (fun bl => S_ 0 r_ (T_ (R_ (M_ r_ ?_)))))))))))))))))))
                exact o_ r_ (bi_ [1] r_ r_ (pword_ok hl g_ _ h5) (T_ (R_ (M_ r_ (M_ r_ (A_ 1 r_ (o_ r_ (bq_ r_ r_ b_ r_ r_ b_ (o_ r_ (bu_ r_ r_ r_ r_ r_ (o_ r_ (bi_ [0] r_ r_ (hN) (S_ 2 r_ (T_ (ar_ (jq_fin e (jq_retRowS rfl rfl rfl rfl 0 rfl (fun K h => h) (bc_ 1 r_ sub_end))))))))))))))))))
            | false =>
              have h5' : ¬ isA l c W93 = true := by rw [h5]; decide
              have e : finT l b (sx false l (F + 1) 3 a) = .pan (stopV l 1 c) := by rw [sx, if_pos (Nat.le_refl _), if_neg h1', if_neg h2', if_pos h3, if_pos h4, hr]; dsimp only; rw [if_neg h5']; rfl
              refine R_ (o_ r_ (bl_ r_ r_ (fun bl => T_ (B_ (R_ (M_ r_ (o_ r_ (bi_ [1] r_ r_ (numbered_n ha h1) (E_ r_ (T_ (ap_ r_ r_ (R_ (M_ r_ (o_ r_ (bi_ [0] r_ r_ (has_n hl ha h2) (E_ r_ (T_ (ap_ r_ r_ ?_))))))))))))))))))
              refine R_ (M_ r_ (o_ r_ (bi_ [0] r_ r_ (named_y ha h3) (o_ r_ (cd_ r_ (E_ r_ (T_ (ap_ r_ r_ (as_ (ay_ (al_ (R_ (M_ r_ (o_ r_ (bi_ [0] r_ r_ (pname_ok hl ha h3) (E_ r_ (T_ (am_ ?_))))))))))))))))))
              refine R_ (M_ r_ (o_ r_ (bi_ [0] r_ r_ (has_y hl g_ h4) (o_ r_ (cd_ r_ (T_ (ap_ r_ r_ (as_ (al_ (R_ (M_ r_ (o_ r_ (bi_ [0] r_ r_ (con) (o_ r_ (bl_ r_ r_ (fun bl => S_ 0 r_ (T_ (R_ (M_ r_ ?_)))))))))))))))))))
              exact jl_pan (op_pan [1] rfl rfl (pword_er hl g_ _ h5)) (by (repeat (first | refine pq_then ?_ | refine pq_block ?_)); exact pq_fin (by first | rfl | assumption))
        | false =>
          have h4' : ¬ isA l (a + 1) W91 = true := by rw [h4]; decide
          have e : finT l b (sx false l (F + 1) 3 a) = .ret (fun K => K (.row (T.nm (txtAt l a)).row') [Pz b l (a + 1)]) := by rw [sx, if_pos (Nat.le_refl _), if_neg h1', if_neg h2', if_pos h3, if_neg h4']; rfl
          refine R_ (o_ r_ (bl_ r_ r_ (fun bl => T_ (B_ (R_ (M_ r_ (o_ r_ (bi_ [1] r_ r_ (numbered_n ha h1) (E_ r_ (T_ (ap_ r_ r_ (R_ (M_ r_ (o_ r_ (bi_ [0] r_ r_ (has_n hl ha h2) (E_ r_ (T_ (ap_ r_ r_ ?_))))))))))))))))))
          refine R_ (M_ r_ (o_ r_ (bi_ [0] r_ r_ (named_y ha h3) (o_ r_ (cd_ r_ (E_ r_ (T_ (ap_ r_ r_ (as_ (ay_ (al_ (R_ (M_ r_ (o_ r_ (bi_ [0] r_ r_ (pname_ok hl ha h3) (E_ r_ (T_ (am_ ?_))))))))))))))))))
          refine R_ (M_ r_ (o_ r_ (bi_ [0] r_ r_ (has_n hl g_ h4) (o_ r_ (cd_ r_ (T_ (aq_ r_ r_ (R_ (M_ r_ (o_ r_ (bu_ r_ r_ r_ r_ r_ (S_ 1 r_ (T_ (ar_ (aw_ (jq_fin e (jq_row 0 (T.nm (txtAt l a)).row' rfl ?_ ?_)))))))))))))))))
          · (repeat (first | exact RowLe.nil | refine RowLe.cons (CLe.refl _) ?_ | refine RowLe.cons CLe.nil ?_))
          · exact jq_retRowS rfl rfl rfl rfl 0 rfl (fun K h => h) (bc_ 1 r_ sub_end)
      | false =>
        have h3' : ¬ isNm l a = true := by rw [h3]; decide
        cases h4 : isA l a W40 with
        | true =>
          have hlt := isA_lt h4
          have con := hX b (a + 1) (by omega) (by unfold need; omega)
          cases hr : sx false l F 0 (a + 1) with
          | er code p =>
            have e : finT l b (sx false l (F + 1) 3 a) = .pan (stopV l code p) := by rw [sx, if_pos (Nat.le_refl _), if_neg h1', if_neg h2', if_neg h3', if_pos h4, hr]; rfl
            have con := finT_er con hr
            refine R_ (o_ r_ (bl_ r_ r_ (fun bl => T_ (B_ (R_ (M_ r_ (o_ r_ (bi_ [1] r_ r_ (numbered_n ha h1) (E_ r_ (T_ (ap_ r_ r_ (R_ (M_ r_ (o_ r_ (bi_ [0] r_ r_ (has_n hl ha h2) (E_ r_ (T_ (ap_ r_ r_ ?_))))))))))))))))))
            refine R_ (M_ r_ (o_ r_ (bi_ [0] r_ r_ (named_n ha h3) (o_ r_ (cd_ r_ (E_ r_ (T_ (aq_ r_ r_ (R_ (M_ r_ (o_ r_ (bi_ [0] r_ r_ (pword_ok hl ha _ h4) (T_ (R_ (M_ r_ ?_)))))))))))))))
            exact jl_pan (op_pan [0] rfl rfl (con)) (by (repeat (first | refine pq_then ?_ | refine pq_block ?_)); exact pq_fin (by first | rfl | assumption))
          | ok x c =>
            have hbd := sx_bd _ _ _ _ _ hr
            have con := finT_ok con hr
            cases h5 : isA l c W41 with
            | true =>
              have e : finT l b (sx false l (F + 1) 3 a) = .ret (fun K => K (.row x.row') [Pz b l (c + 1)]) := by rw [sx, if_pos (Nat.le_refl _), if_neg h1', if_neg h2', if_neg h3', if_pos h4, hr]; dsimp only; rw [if_pos h5]; rfl
              refine R_ (o_ r_ (bl_ r_ r_ (fun bl => T_ (B_ (R_ (M_ r_ (o_ r_ (bi_ [1] r_ r_ (numbered_n ha h1) (E_ r_ (T_ (ap_ r_ r_ (R_ (M_ r_ (o_ r_ (bi_ [0] r_ r_ (has_n hl ha h2) (E_ r_ (T_ (ap_ r_ r_ ?_))))))))))))))))))
              refine R_ (M_ r_ (o_ r_ (bi_ [0] r_ r_ (named_n ha h3) (o_ r_ (cd_ r_ (E_ r_ (T_ (aq_ r_ r_ (R_ (M_ r_ (o_ r_ (bi_ [0] r_ r_ (pword_ok hl ha _ h4) (T_ (R_ (M_ r_ (o_ r_ (bi_ [0] r_ r_ (con) (o_ r_ (bl_ r_ r_ (fun bl => S_ 0 r_ ?_))))))))))))))))))))
              exact T_ (R_ (M_ r_ (o_ r_ (bi_ [1] r_ r_ (pword_ok hl g_ _ h5) (T_ (R_ (A_ 1 r_ (S_ 2 r_ (T_ (ar_ (az_ (aw_ (jq_fin e (jq_retRowS rfl rfl rfl rfl 0 rfl (fun K h => h) (bc_ 1 r_ sub_end)))))))))))))))
            | false =>
              have h5' : ¬ isA l c W41 = true := by rw [h5]; decide
              have e : finT l b (sx false l (F + 1) 3 a) = .pan (stopV l 1 c) := by rw [sx, if_pos (Nat.le_refl _), if_neg h1', if_neg h2', if_neg h3', if_pos h4, hr]; dsimp only; rw [if_neg h5']; rfl
              refine R_ (o_ r_ (bl_ r_ r_ (fun bl => T_ (B_ (R_ (M_ r_ (o_ r_ (bi_ [1] r_ r_ (numbered_n ha h1) (E_ r_ (T_ (ap_ r_ r_ (R_ (M_ r_ (o_ r_ (bi_ [0] r_ r_ (has_n hl ha h2) (E_ r_ (T_ (ap_ r_ r_ ?_))))))))))))))))))
              refine R_ (M_ r_ (o_ r_ (bi_ [0] r_ r_ (named_n ha h3) (o_ r_ (cd_ r_ (E_ r_ (T_ (aq_ r_ r_ (R_ (M_ r_ (o_ r_ (bi_ [0] r_ r_ (pword_ok hl ha _ h4) (T_ (R_ (M_ r_ (o_ r_ (bi_ [0] r_ r_ (con) (o_ r_ (bl_ r_ r_ (fun bl => S_ 0 r_ ?_))))))))))))))))))))
              refine T_ (R_ (M_ r_ ?_))
              exact jl_pan (op_pan [1] rfl rfl (pword_er hl g_ _ h5)) (by (repeat (first | refine pq_then ?_ | refine pq_block ?_)); exact pq_fin (by first | rfl | assumption))
        | false =>
          have h4' : ¬ isA l a W40 = true := by rw [h4]; decide
          have e : finT l b (sx false l (F + 1) 3 a) = .pan (stopV l 1 a) := by rw [sx, if_pos (Nat.le_refl _), if_neg h1', if_neg h2', if_neg h3', if_neg h4']; rfl
          refine R_ (o_ r_ (bl_ r_ r_ (fun bl => T_ (B_ (R_ (M_ r_ (o_ r_ (bi_ [1] r_ r_ (numbered_n ha h1) (E_ r_ (T_ (ap_ r_ r_ (R_ (M_ r_ (o_ r_ (bi_ [0] r_ r_ (has_n hl ha h2) (E_ r_ (T_ (ap_ r_ r_ ?_))))))))))))))))))
          refine R_ (M_ r_ (o_ r_ (bi_ [0] r_ r_ (named_n ha h3) (o_ r_ (cd_ r_ (E_ r_ (T_ (aq_ r_ r_ (R_ (M_ r_ ?_))))))))))
          exact jl_pan (op_pan [0] rfl rfl (pword_er hl ha _ h4)) (by (repeat (first | refine pq_then ?_ | refine pq_block ?_)); exact pq_fin (by first | rfl | assumption))
/-- The strict parser of expressions is the program's. -/
theorem pexpr_all : ∀ F : Nat, FaP l F ∧ ExP l F ∧ JnP l F
  | 0 => ⟨fun b a ha h => absurd h (by unfold need; omega), fun b a ha h => absurd h (by unfold need; omega), fun b k a hk ha h => absurd h (by unfold need; omega)⟩
  | F + 1 => by
    obtain ⟨h1, h2, h3⟩ := pexpr_all F
    have f1 := pfactor_step hl F h1 h2
    refine ⟨f1, pexpr_step hl F h3, ?_⟩
    intro b k a hk ha hN
    rcases (show k = 0 ∨ k = 1 ∨ k = 2 by omega) with rfl | rfl | rfl
    · exact pjoined_step hl F 0 b a g_ (fun a ha h => h3 b 1 a g_ ha h) ha hN
    · exact pjoined_step hl F 1 b a g_ (fun a ha h => h3 b 2 a g_ ha h) ha hN
    · exact pjoined_top (F + 1) b a f1 ha hN
theorem exG_c (ha : a ≤ l.length) : ConE Tryd.prog 79 [Ptr b] [Pz b l a] (finT l b (exG l a)) := (pexpr_all hl (5 * l.length + 4)).2.1 b a ha (by unfold need; omega)
end
end Go.Proofs.YtlniadfidfmckaaDoor
end

section
namespace Go.Proofs.YtlniadfidfmckaaDoor
open Go.Vc
def finR {α : Type} (l : List Tok) (b : Nat) (g : α → S) : R α → Fin
  | .ok x c => .ret (fun K => K (g x) [Pz b l c])
  | .er code p => .pan (stopV l code p)
section
variable {α : Type} {l : List Tok} {b : Nat} {g : α → S} {f : FuncId} {args : List S} {Hin : List Ch} {r : R α}
theorem finR_con {x : α} {c : Nat} (h : ConE Tryd.prog f args Hin (finR l b g (.ok x c))) : Con Tryd.prog f args Hin (fun K => K (g x) [Pz b l c]) := h
theorem finR_pan {code : Int} {p : Nat} (h : ConE Tryd.prog f args Hin (finR l b g (.er code p))) : Pan Tryd.prog f args Hin (stopV l code p) := h
theorem con_finR {x : α} {c : Nat} (e : r = .ok x c) (h : Con Tryd.prog f args Hin (fun K => K (g x) [Pz b l c])) : ConE Tryd.prog f args Hin (finR l b g r) := by subst e; exact h
theorem pan_finR {code : Int} {p : Nat} (e : r = .er code p) (h : Pan Tryd.prog f args Hin (stopV l code p)) : ConE Tryd.prog f args Hin (finR l b g r) := by subst e; exact h
end
attribute [local irreducible] JL JC JQ OpWp Con ConN Pan ConE OpPan HP HT HOk hasW idxW isA isNum isNm numAt txtAt lineAt opAt lx lpx sx sxp exG
set_option maxHeartbeats 4000000

structure PC {α : Type} (f : FuncId) (l : List Tok) (b : Nat) (args : List S) (a : Nat) (g : α → S) (r : R α) : Prop where
  con : ConE Tryd.prog f (Ptr b :: args) [Pz b l a] (finR l b g r)
  bd : ∀ x c, r = .ok x c → a < c ∧ c ≤ l.length
theorem jl_bindE {nt : Nat} {c : Cx Tryd.prog nt} {env : Env} {H Hr : List Ch} {ops : Array Oper} {ls : List Oper} {Q : Exit → Act → World → Prop} {α β : Type} {gA : α → S} {gB : β → S} {l : List Tok} {b a : Nat} {r : R α} {f : α → Nat → R β} {fin0 : Fin} {fid : FuncId} [FI Tryd.prog fid] {args : List S} {xs : Array Operand} {at_ : Array TypeId} {d : Tmp} {ty : TypeId} {pos : String} {af : Array Edge} (is : List Nat)
    (hx : env.evs xs.toList = some (Ptr b :: args)) (hp : pick is H = some ([Pz b l a], Hr)) (con : PC fid l b args a gA r) (he : fin0 = finR l b gB (r.bind f)) (hq : ∀ v, fin0 = .pan v → PanQ c Q v) (hd : d < nt)
    (h : ∀ x c', r = .ok x c' → a < c' ∧ c' ≤ l.length → fin0 = finR l b gB (f x c') → JL c ops Q ls ((d, gA x) :: env) ([Pz b l c'] ++ Hr)) : JL c ops Q (⟨some d, .call { callee := .value (.func fid), args := xs, argTypes := at_ }, ty, pos, af, none⟩ :: ls) env H := by
  obtain ⟨con, bd⟩ := con
  cases r with
  | ok x c' => exact jl_op (ow_call1 is hx hp (finR_con con) (h x c' rfl (bd _ _ rfl) he)) hd
  | er code p => exact jl_pan (op_pan is hx hp (finR_pan con)) (hq _ he)
theorem hp_bindE {nt : Nat} {c : Cx Tryd.prog nt} {env : Env} {H Hr : List Ch} {ops : Array Oper} {Q : Exit → Act → World → Prop} {Sw : World → Prop} {m fuel : Nat} {listed : Array Bool} {i : Nat} {α β : Type} {gA : α → S} {gB : β → S} {l : List Tok} {b a : Nat} {r : R α} {f : α → Nat → R β} {fin0 : Fin} {fid : FuncId} [FI Tryd.prog fid] {args : List S} {xs : Array Operand} {at_ : Array TypeId} {d : Tmp} {ty : TypeId} {pos : String} {af : Array Edge}
    (hi : ops[i]? = some ⟨some d, .call { callee := .value (.func fid), args := xs, argTypes := at_ }, ty, pos, af, none⟩) (hr : Region.ready .any ops listed = [i]) (hd : d < nt) (is : List Nat)
    (hx : env.evs xs.toList = some (Ptr b :: args)) (hp : pick is H = some ([Pz b l a], Hr)) (con : PC fid l b args a gA r) (he : fin0 = finR l b gB (r.bind f)) (hq : ∀ v, fin0 = .pan v → PanQ c Q v)
    (h : ∀ x c', r = .ok x c' → a < c' ∧ c' ≤ l.length → fin0 = finR l b gB (f x c') → (∀ w, StW c ([Pz b l c'] ++ Hr) w → Sw w) ∧ HP c ops Q Sw m fuel (listed.setIfInBounds i true) ((d, gA x) :: env) ([Pz b l c'] ++ Hr)) : HP c ops Q Sw m (fuel + 1) listed env H := by
  obtain ⟨con, bd⟩ := con
  cases r with
  | ok x c' => exact hp_op hi hr hd (ow_call1 is hx hp (finR_con con) (h x c' rfl (bd _ _ rfl) he))
  | er code p => exact hp_pan hi hr (op_pan is hx hp (finR_pan con)) (hq _ he)
theorem R.bind_ok {α : Type} (r : R α) : (r.bind fun x b => .ok x b) = r := by cases r <;> rfl
section
variable {l : List Tok} {a b : Nat} (hl : l.length ≤ 1000000) (ha : a ≤ l.length)
include hl ha
theorem pword_p (w : ByteArray) : PC 38 l b [Str w] a (fun _ : Unit => .tup []) (wdG l w a) := by
  unfold wdG
  cases h : isA l a w with
  | true => exact ⟨con_finR (if_pos rfl) (pword_ok hl ha w h), fun x c e => by have := isA_lt h; rw [if_pos rfl] at e; cases e; omega⟩
  | false => exact ⟨pan_finR (if_neg Bool.false_ne_true) (pword_er hl ha w h), fun x c e => by rw [if_neg Bool.false_ne_true] at e; cases e⟩
theorem pname_p : PC 36 l b [] a (fun s : ByteArray => Str s) (nmG l a) := by
  unfold nmG
  cases h : isNm l a with
  | true => exact ⟨con_finR (if_pos rfl) (pname_ok hl ha h), fun x c e => by have := isNm_lt h; rw [if_pos rfl] at e; cases e; omega⟩
  | false => exact ⟨pan_finR (if_neg Bool.false_ne_true) (pname_er hl ha h), fun x c e => by rw [if_neg Bool.false_ne_true] at e; cases e⟩
theorem pnum_p : PC 37 l b [] a (fun n : Int => In .i64 n) (nuG l a) := by
  unfold nuG
  cases h : isNum l a with
  | true => exact ⟨con_finR (if_pos rfl) (pnum_ok hl ha h), fun x c e => by have := isNum_lt h; rw [if_pos rfl] at e; cases e; omega⟩
  | false => exact ⟨pan_finR (if_neg Bool.false_ne_true) (pnum_er hl ha h), fun x c e => by rw [if_neg Bool.false_ne_true] at e; cases e⟩
theorem pexpr_p : PC 79 l b [] a (fun t : T => .row t.row') (exG l a) := by
  refine ⟨?_, fun x c e => by unfold exG at e; exact sx_bd _ _ _ _ _ e⟩
  have := exG_c (b := b) hl ha
  cases h : exG l a with
  | ok t c => exact con_finR rfl (finT_ok this h)
  | er code p => exact pan_finR rfl (finT_er this h)
theorem pnumber_p : PC 62 l b [] a (fun n : Int => In .i64 n) (nbG l a) := by
  have hbd : ∀ x c, nbG l a = .ok x c → a < c ∧ c ≤ l.length := by
    intro x c e
    unfold nbG at e
    split at e
    · rename_i h
      have := isA_lt h
      cases h2 : nuG l (a + 1) with
      | ok y d =>
        rw [h2] at e
        have := (pnum_p (b := b) hl (show a + 1 ≤ l.length by omega)).bd _ _ h2
        simp only [R.bind] at e
        cases e
        omega
      | er code p => rw [h2] at e; cases e
    · exact (pnum_p (b := b) hl ha).bd _ _ e
  refine ⟨(con_introE Tryd.func62 rfl rfl (Nat.le_of_ble_eq_true rfl) (fun c hc => ?_)), hbd⟩
  generalize hfin : finR l b (fun n : Int => In .i64 n) (nbG l a) = fin0
  have e := hfin.symm
  cases h : isA l a W45 with
  | true =>
    have hlt := isA_lt h
    rw [nbG, if_pos h] at e
    refine R_ (E_ r_ (T_ (am_ (R_ (M_ r_ (o_ r_ (bi_ [0] r_ r_ (has_y hl ha h) (T_ (aq_ r_ r_ (R_ (M_ r_ (jl_bindE [0] rfl rfl (pnum_p hl g_) e (fun v hv => by (repeat (first | refine pq_then ?_ | refine pq_block ?_)); exact pq_fin hv) (nb rfl) (fun n c h2 g2 e => ?_)))))))))))))
    exact o_ r_ (ow_negW r_ (E_ r_ (T_ (ar_ (aw_ (jq_fin e (jq_ret1S rfl rfl (fun K h => h) (bc_ 0 r_ sub_end))))))))
  | false =>
    rw [nbG, if_neg (by rw [h]; decide), ← R.bind_ok (nuG l a)] at e
    refine R_ (E_ r_ (T_ (am_ (R_ (M_ r_ (o_ r_ (bi_ [0] r_ r_ (has_n hl ha h) (T_ (ap_ r_ r_ (as_ (al_ (R_ (M_ r_ (jl_bindE [0] rfl rfl (pnum_p hl ha) e (fun v hv => by (repeat (first | refine pq_then ?_ | refine pq_block ?_)); exact pq_fin hv) (nb rfl) (fun n c h2 g2 e => ?_)))))))))))))))
    exact E_ r_ (T_ (ar_ (jq_fin e (jq_ret1S rfl rfl (fun K h => h) (bc_ 0 r_ sub_end)))))
end
end Go.Proofs.YtlniadfidfmckaaDoor
end

section
namespace Go.Proofs.YtlniadfidfmckaaDoor
open Go.Vc
attribute [local irreducible] JL JC JQ OpWp Con ConN Pan ConE OpPan HP HT HOk hasW idxW isA isNum isNm numAt txtAt lineAt opAt lx lpx sx sxp exG
set_option maxHeartbeats 4000000

/-- No name is a brace (so it is with the tokens of a text). -/
def NmOk (l : List Tok) : Prop := ∀ a, isNm l a = true → isA l a Kcb = false
theorem kw_nm {l : List Tok} {a : Nat} {w : ByteArray} (h : isA l a w = true) (hw : hasW w = true) : isNm l a = false := by
  have hlt := isA_lt h
  rw [isA_get w hlt] at h
  rw [isNm_get hlt]
  simp only [Bool.and_eq_true, decide_eq_true_eq] at h
  rw [h.2, hw]; simp
theorem isA_ne {l : List Tok} {a : Nat} {w u : ByteArray} (h : isA l a w = true) (hw : ¬ w = u) : isA l a u = false := by
  have hlt := isA_lt h
  rw [isA_get w hlt] at h
  rw [isA_get u hlt]
  simp only [Bool.and_eq_true, decide_eq_true_eq] at h
  rw [h.2, decide_eq_false hw]; simp
theorem start_n {l : List Tok} {a : Nat} (h : startA l a = false) : isA l a Kif = false ∧ isA l a Kwhile = false ∧ isA l a Klock = false ∧ isNm l a = false := by
  unfold startA at h
  simp only [Bool.or_eq_false_iff] at h
  exact ⟨h.1.1.1, h.1.1.2, h.1.2, h.2⟩
theorem start_lt {l : List Tok} {a : Nat} (h : startA l a = true) : a < l.length := by
  rcases Nat.lt_or_ge a l.length with h' | h'
  · exact h'
  · rw [startA, isA_end _ (by omega), isA_end _ (by omega), isA_end _ (by omega), isNm_end (by omega)] at h; cases h
theorem start_cb {l : List Tok} (hN : NmOk l) {a : Nat} (h : isA l a Kcb = true) : startA l a = false := by
  rw [startA, isA_ne h (by decide), isA_ne h (by decide), isA_ne h (by decide)]
  cases h2 : isNm l a with
  | true => rw [hN a h2] at h; cases h
  | false => rfl
/-- The program's statement: as the reference's, but that it is looked at first. -/
def stG (l : List Tok) (F w a : Nat) : R Sm := if startA l a = true then (if 8 ≤ w then .er 4 a else stmtG l F w a) else .er 1 a
abbrev SmS (s : Sm) : S := .row s.row'
abbrev SlS (ss : List Sm) : S := .cell (.list (ss.map Sm.row))
theorem bind_okE {α β : Type} (x : α) (a : Nat) (f : α → Nat → R β) : (R.ok x a : R α).bind f = f x a := rfl
/-- What a composed step gives: first the one, then the other. -/
theorem bind_bd {α β : Type} {l : List Tok} {a : Nat} {r : R α} {f : α → Nat → R β} (h : ∀ x c, r = .ok x c → a < c ∧ c ≤ l.length) (k : ∀ x c, r = .ok x c → ∀ y d, f x c = .ok y d → c ≤ d ∧ d ≤ l.length) : ∀ y d, r.bind f = .ok y d → a < d ∧ d ≤ l.length := by
  intro y d e
  cases r with
  | ok x c =>
    have h1 := h x c rfl
    have h2 := k x c rfl y d e
    omega
  | er code p => cases e
theorem wdG_bd {l : List Tok} {w : ByteArray} {a : Nat} : ∀ x c, wdG l w a = .ok x c → a < c ∧ c ≤ l.length := by
  intro x c e
  unfold wdG at e
  split at e
  · rename_i h; have := isA_lt h; cases e; omega
  · cases e
theorem nmG_bd {l : List Tok} {a : Nat} : ∀ x c, nmG l a = .ok x c → a < c ∧ c ≤ l.length := by
  intro x c e
  unfold nmG at e
  split at e
  · rename_i h; have := isNm_lt h; cases e; omega
  · cases e
theorem nuG_bd {l : List Tok} {a : Nat} : ∀ x c, nuG l a = .ok x c → a < c ∧ c ≤ l.length := by
  intro x c e
  unfold nuG at e
  split at e
  · rename_i h; have := isNum_lt h; cases e; omega
  · cases e
theorem exG_bd {l : List Tok} {a : Nat} : ∀ x c, exG l a = .ok x c → a < c ∧ c ≤ l.length := by
  intro x c e
  unfold exG at e
  exact sx_bd _ _ _ _ _ e
theorem stmtsL_bd {l : List Tok} {st : Nat → R Sm} {w : Nat} (hs : ∀ a x c, st a = .ok x c → a < c ∧ c ≤ l.length) : ∀ (n a : Nat) (acc ss : List Sm) (c : Nat), a ≤ l.length → stmtsL l st w n a acc = .ok ss c → a ≤ c ∧ c ≤ l.length
  | 0, a, acc, ss, c, h, e => by simp only [stmtsL, R.ok.injEq] at e; omega
  | n + 1, a, acc, ss, c, h, e => by
    rw [stmtsL] at e
    split at e
    · split at e
      · cases e
      · cases h1 : st a with
        | er code p => rw [h1] at e; cases e
        | ok x b =>
          rw [h1] at e
          have h2 := hs _ _ _ h1
          have h3 := stmtsL_bd hs n b _ _ _ h2.2 e
          omega
    · simp only [R.ok.injEq] at e; omega
theorem blkG_bd {l : List Tok} {st : Nat → R Sm} {w n a : Nat} (hs : ∀ a x c, st a = .ok x c → a < c ∧ c ≤ l.length) : ∀ x c, blkG l st w n a = .ok x c → a < c ∧ c ≤ l.length :=
  bind_bd wdG_bd fun _ b hb y d e => by
    have h0 := wdG_bd _ _ hb
    cases h1 : stmtsL l st w n b [] with
    | er code p => rw [h1] at e; cases e
    | ok ss c =>
      rw [h1] at e
      have h2 := stmtsL_bd hs n b _ _ _ h0.2 h1
      cases h3 : wdG l Kcb c with
      | er code p => rw [bind_okE, h3] at e; cases e
      | ok u d' =>
        rw [bind_okE, h3, bind_okE] at e
        have h4 := wdG_bd _ _ h3
        cases e
        omega
theorem ok_bd {α : Type} {l : List Tok} {x : α} {a : Nat} (ha : a ≤ l.length) : ∀ y d, R.ok x a = .ok y d → a ≤ d ∧ d ≤ l.length := by
  intro y d e; cases e; omega
theorem bd_le {α : Type} {l : List Tok} {a : Nat} {r : R α} (h : ∀ x c, r = .ok x c → a < c ∧ c ≤ l.length) : ∀ x c, r = .ok x c → a ≤ c ∧ c ≤ l.length := fun x c e => by have := h x c e; omega
theorem stmtG_bd {l : List Tok} : ∀ (F w a : Nat) (x : Sm) (c : Nat), stmtG l F w a = .ok x c → a < c ∧ c ≤ l.length
  | 0, _, _, _, _, e => by simp [stmtG] at e
  | F + 1, w, a, x, c, e => by
    have ih := stmtG_bd (l := l) F
    have hB : ∀ b, ∀ x c, blkG l (stmtG l F (w + 1)) (w + 1) F b = .ok x c → b < c ∧ c ≤ l.length := fun b => blkG_bd (fun a x c => ih (w + 1) a x c)
    rw [stmtG] at e
    split at e
    · have h := bind_bd exG_bd (fun _ b _ => bd_le (bind_bd wdG_bd (fun _ b _ => bd_le (bind_bd nuG_bd (fun _ b _ => bd_le (bind_bd (hB _) (fun _ b hb => by
        have := hB _ _ _ hb
        split
        · rename_i h
          have := isA_lt h
          exact fun y d e => by have := bind_bd (a := b) (fun x c e => by have := hB _ _ _ e; omega) (fun _ b hb => ok_bd (hB _ _ _ hb).2) y d e; omega
        · exact ok_bd this.2))))))) x c e
      omega
    · split at e
      · have h := bind_bd exG_bd (fun _ b _ => bd_le (bind_bd wdG_bd (fun _ b _ => bd_le (bind_bd nuG_bd (fun _ b _ => bd_le (bind_bd wdG_bd (fun _ b _ => bd_le (bind_bd nuG_bd (fun _ b _ => bd_le (bind_bd (hB _) (fun _ b hb => ok_bd (hB _ _ _ hb).2)))))))))) ) x c e
        omega
      · split at e
        · have h := bind_bd nmG_bd (fun _ b _ => bd_le (bind_bd (hB _) (fun _ b hb => ok_bd (hB _ _ _ hb).2))) x c e
          omega
        · refine bind_bd nmG_bd (fun _ b _ => ?_) x c e
          split
          · exact fun y d e => by
              have := bind_bd exG_bd (fun _ b _ => bd_le (bind_bd wdG_bd (fun _ b _ => bd_le (bind_bd wdG_bd (fun _ b _ => bd_le (bind_bd exG_bd (fun _ b hb => ok_bd (exG_bd _ _ hb).2))))))) y d e
              omega
          · exact bd_le (bind_bd wdG_bd (fun _ b _ => bd_le (bind_bd exG_bd (fun _ b hb => ok_bd (exG_bd _ _ hb).2))))
end Go.Proofs.YtlniadfidfmckaaDoor
end

section
namespace Go.Proofs.YtlniadfidfmckaaDoor
open Go.Vc
attribute [local irreducible] JL JC JQ OpWp Con ConN Pan ConE OpPan HP HT HOk hasW idxW isA isNum isNm numAt txtAt lineAt opAt lx lpx sx sxp exG startA stmtG stmtsL blkG wdG nmG nuG nbG
set_option maxHeartbeats 4000000

def StP (l : List Tok) (F : Nat) : Prop := ∀ (b w a : Nat) (d : Int), d = (w : Int) + 1 → w ≤ 8 → a ≤ l.length → l.length - a + 1 ≤ F → PC 63 l b [In .i64 d] a SmS (stG l F w a)
def BkP (l : List Tok) (F : Nat) : Prop := ∀ (b w a : Nat) (d : Int), d = (w : Int) + 1 → w ≤ 8 → a ≤ l.length → l.length - a ≤ F → PC 80 l b [In .i64 d] a SlS (blkG l (stmtG l F w) w F a)
theorem cle_T1 (x : T) : CLe (.list [x.row']) (.list ([x].map T.row)) := CLe.eq (by simp [T.row_eq])
section
variable {l : List Tok} {a b : Nat} (hl : l.length ≤ 1000000)
include hl
theorem pstmt_step (F : Nat) (hB : BkP l F) : StP l (F + 1) := by
  intro b w a d hd hw ha hF
  refine ⟨?_, fun x c e => by
    unfold stG at e
    split at e
    · split at e
      · cases e
      · exact stmtG_bd _ _ _ _ _ e
    · cases e⟩
  refine con_introE Tryd.func63 rfl rfl (Nat.le_of_ble_eq_true rfl) (fun c hc => ?_)
  generalize hfin : finR l b SmS (stG l (F + 1) w a) = fin0
  have e := hfin.symm
  rw [stG] at e
  cases hst : startA l a with
  | false =>
    rw [if_neg (by rw [hst]; decide)] at e
    have e : fin0 = .pan (stopV l 1 a) := e
    obtain ⟨h1, h2, h3, h4⟩ := start_n hst
    refine R_ (o_ r_ (bl_ r_ r_ (fun bl => T_ (am_ (R_ (M_ r_ (o_ r_ (bi_ [1] r_ r_ (named_n ha h4) (o_ r_ (cd_ r_ (M_ r_ (ah_ r_ r_ b_ (bd_ r_ (ah_ r_ r_ b_ (bi_ [0] r_ r_ (is_n ha h1) (ah_ r_ r_ b_ (cd_ r_ (o_ r_ (bp_ r_ r_ r_ (M_ r_ (ah_ r_ r_ b_ (bd_ r_ (ah_ r_ r_ b_ (bi_ [0] r_ r_ (is_n ha h2) ?_))))))))))))))))))))))))
    refine ah_ r_ r_ b_ (cd_ r_ (o_ r_ (bp_ r_ r_ r_ (M_ r_ (ah_ r_ r_ b_ (bd_ r_ (ah_ r_ r_ b_ (bi_ [0] r_ r_ (is_n ha h3) (ah_ r_ r_ b_ (cd_ r_ (o_ r_ (bp_ r_ r_ r_ (T_ (aq_ r_ r_ (an_ (M_ r_ (M_ r_ (N_ r_ (F_ r_ (L_ 0 r_ ?_))))))))))))))))))))
    exact jl_pan (op_pan [0] rfl rfl (pfail_c hl 1 a g_)) (by (repeat (first | refine pq_then ?_ | refine pq_block ?_)); exact pq_fin (by first | rfl | assumption))
  | true =>
    have hlt := start_lt hst
    rw [if_pos hst] at e
    by_cases hw8 : 8 ≤ w
    · rw [if_pos hw8] at e
      have e : fin0 = .pan (stopV l 4 a) := e
      have hd8 : d > 8 := by omega
      cases h4 : isNm l a with
      | true =>
        refine R_ (o_ r_ (bl_ r_ r_ (fun bl => T_ (am_ (R_ (M_ r_ (o_ r_ (bi_ [1] r_ r_ (named_y ha h4) (o_ r_ (cd_ r_ (M_ r_ (ai_ r_ r_ b_ (ai_ r_ r_ b_ (ai_ r_ r_ b_ (o_ r_ (bv_ r_ r_ r_ (M_ r_ (ai_ r_ r_ b_ (ai_ r_ r_ b_ ?_)))))))))))))))))))
        refine ai_ r_ r_ b_ (o_ r_ (bv_ r_ r_ r_ (M_ r_ (ai_ r_ r_ b_ (ai_ r_ r_ b_ (ai_ r_ r_ b_ (o_ r_ (bv_ r_ r_ r_ (T_ (ap_ r_ r_ (as_ (al_ (am_ (R_ (M_ r_ (o_ r_ (bz_ r_ r_ (T_ ?_))))))))))))))))))
        refine aq_ r_ u_ (an_ (M_ r_ (M_ r_ (N_ r_ (F_ r_ (L_ 0 r_ ?_))))))
        exact jl_pan (op_pan [0] rfl rfl (pfail_c hl 4 a g_)) (by (repeat (first | refine pq_then ?_ | refine pq_block ?_)); exact pq_fin (by first | rfl | assumption))
      | false =>
        cases h1 : isA l a Kif with
        | true =>
          refine R_ (o_ r_ (bl_ r_ r_ (fun bl => T_ (am_ (R_ (M_ r_ (o_ r_ (bi_ [1] r_ r_ (named_n ha h4) (o_ r_ (cd_ r_ (M_ r_ (ah_ r_ r_ b_ (bd_ r_ (ah_ r_ r_ b_ (bi_ [0] r_ r_ (is_y ha h1) (ah_ r_ r_ b_ (cd_ r_ (o_ r_ (bp_ r_ r_ r_ (M_ r_ (ai_ r_ r_ b_ (ai_ r_ r_ b_ ?_))))))))))))))))))))))
          refine ai_ r_ r_ b_ (o_ r_ (bv_ r_ r_ r_ (M_ r_ (ai_ r_ r_ b_ (ai_ r_ r_ b_ (ai_ r_ r_ b_ (o_ r_ (bv_ r_ r_ r_ (T_ (ap_ r_ r_ (as_ (al_ (am_ (R_ (M_ r_ (o_ r_ (bz_ r_ r_ (T_ ?_))))))))))))))))))
          refine aq_ r_ u_ (an_ (M_ r_ (M_ r_ (N_ r_ (F_ r_ (L_ 0 r_ ?_))))))
          exact jl_pan (op_pan [0] rfl rfl (pfail_c hl 4 a g_)) (by (repeat (first | refine pq_then ?_ | refine pq_block ?_)); exact pq_fin (by first | rfl | assumption))
        | false =>
          cases h2 : isA l a Kwhile with
          | true =>
            refine R_ (o_ r_ (bl_ r_ r_ (fun bl => T_ (am_ (R_ (M_ r_ (o_ r_ (bi_ [1] r_ r_ (named_n ha h4) (o_ r_ (cd_ r_ (M_ r_ (ah_ r_ r_ b_ (bd_ r_ (ah_ r_ r_ b_ (bi_ [0] r_ r_ (is_n ha h1) (ah_ r_ r_ b_ (cd_ r_ (o_ r_ (bp_ r_ r_ r_ (M_ r_ (ah_ r_ r_ b_ (bd_ r_ (ah_ r_ r_ b_ (bi_ [0] r_ r_ (is_y ha h2) ?_))))))))))))))))))))))))
            refine ah_ r_ r_ b_ (cd_ r_ (o_ r_ (bp_ r_ r_ r_ (M_ r_ (ai_ r_ r_ b_ (ai_ r_ r_ b_ (ai_ r_ r_ b_ (o_ r_ (bv_ r_ r_ r_ (T_ (ap_ r_ r_ (as_ (al_ (am_ (R_ (M_ r_ (o_ r_ (bz_ r_ r_ (T_ ?_)))))))))))))))))))
            refine aq_ r_ u_ (an_ (M_ r_ (M_ r_ (N_ r_ (F_ r_ (L_ 0 r_ ?_))))))
            exact jl_pan (op_pan [0] rfl rfl (pfail_c hl 4 a g_)) (by (repeat (first | refine pq_then ?_ | refine pq_block ?_)); exact pq_fin (by first | rfl | assumption))
          | false =>
            have h3 : isA l a Klock = true := by rw [startA, h1, h2, h4] at hst; simpa using hst
            refine R_ (o_ r_ (bl_ r_ r_ (fun bl => T_ (am_ (R_ (M_ r_ (o_ r_ (bi_ [1] r_ r_ (named_n ha h4) (o_ r_ (cd_ r_ (M_ r_ (ah_ r_ r_ b_ (bd_ r_ (ah_ r_ r_ b_ (bi_ [0] r_ r_ (is_n ha h1) (ah_ r_ r_ b_ (cd_ r_ (o_ r_ (bp_ r_ r_ r_ (M_ r_ (ah_ r_ r_ b_ (bd_ r_ (ah_ r_ r_ b_ (bi_ [0] r_ r_ (is_n ha h2) ?_))))))))))))))))))))))))
            refine ah_ r_ r_ b_ (cd_ r_ (o_ r_ (bp_ r_ r_ r_ (M_ r_ (ah_ r_ r_ b_ (bd_ r_ (ah_ r_ r_ b_ (bi_ [0] r_ r_ (is_y ha h3) (ah_ r_ r_ b_ (cd_ r_ (o_ r_ (bp_ r_ r_ r_ (T_ (ap_ r_ r_ (as_ (al_ (am_ (R_ (M_ r_ (o_ r_ (bz_ r_ r_ (T_ ?_))))))))))))))))))))))
            refine aq_ r_ u_ (an_ (M_ r_ (M_ r_ (N_ r_ (F_ r_ (L_ 0 r_ ?_))))))
            exact jl_pan (op_pan [0] rfl rfl (pfail_c hl 4 a g_)) (by (repeat (first | refine pq_then ?_ | refine pq_block ?_)); exact pq_fin (by first | rfl | assumption))
    · rw [if_neg hw8, stmtG] at e
      have hd8 : ¬ d > 8 := by omega
      cases h1 : isA l a Kif with
      | true =>
        rw [if_pos h1] at e
        have h4 := kw_nm h1 (by decide +kernel)
        refine R_ (o_ r_ (bl_ r_ r_ (fun bl => T_ (am_ (R_ (M_ r_ (o_ r_ (bi_ [1] r_ r_ (named_n ha h4) (o_ r_ (cd_ r_ (M_ r_ (ah_ r_ r_ b_ (bd_ r_ (ah_ r_ r_ b_ (bi_ [0] r_ r_ (is_y ha h1) (ah_ r_ r_ b_ (cd_ r_ (o_ r_ (bp_ r_ r_ r_ (M_ r_ (ai_ r_ r_ b_ (ai_ r_ r_ b_ ?_))))))))))))))))))))))
        refine ai_ r_ r_ b_ (o_ r_ (bv_ r_ r_ r_ (M_ r_ (ai_ r_ r_ b_ (ai_ r_ r_ b_ (ai_ r_ r_ b_ (o_ r_ (bv_ r_ r_ r_ (T_ (ap_ r_ r_ (as_ (al_ (am_ (R_ (M_ r_ (o_ r_ (bz_ r_ r_ (T_ ?_))))))))))))))))))
        refine ap_ r_ w_ (as_ (al_ (B_ (R_ (M_ r_ (o_ r_ (bi_ [0] r_ r_ (has_y hl ha h1) (E_ r_ (T_ (aq_ r_ r_ (R_ (M_ r_ (jl_bindE [0] rfl rfl (pexpr_p hl g_) e (fun v hv => by (repeat (first | refine pq_then ?_ | refine pq_block ?_)); exact pq_fin hv) (nb rfl) (fun x b1 k1 g1 e => ?_))))))))))))))
        refine o_ r_ (bq_ r_ r_ b_ r_ r_ b_ (o_ r_ (bu_ r_ r_ r_ r_ r_ (o_ r_ (bl_ r_ r_ (fun bl => S_ 0 r_ (T_ (R_ (M_ r_ (jl_bindE [1] rfl rfl (pword_p hl g_ Klabel) e (fun v hv => by (repeat (first | refine pq_then ?_ | refine pq_block ?_)); exact pq_fin hv) (nb rfl) (fun u b2 k2 g2 e => ?_)))))))))))
        refine T_ (R_ (M_ r_ (jl_bindE [0] rfl rfl (pnum_p hl g_) e (fun v hv => by (repeat (first | refine pq_then ?_ | refine pq_block ?_)); exact pq_fin hv) (nb rfl) (fun n b3 k3 g3 e => ?_))))
        refine F_ r_ (W_ 1 r_ (T_ (R_ (M_ r_ (M_ r_ (o_ r_ (bj_ r_ r_ g_ (jl_bindE [1] rfl rfl (hB b (w + 1) b3 _ g_ g_ g_ g_) e (fun v hv => by (repeat (first | refine pq_then ?_ | refine pq_block ?_)); exact pq_fin hv) (nb rfl) (fun t b4 k4 g4 e => ?_)))))))))
        refine F_ r_ (W_ 1 r_ (T_ (am_ (am_ ?_))))
        cases h5 : isA l b4 Kelse with
        | true =>
          have hlt5 := isA_lt h5
          rw [if_pos h5] at e
          refine an_ (M_ r_ (o_ r_ (bi_ [1] r_ r_ (has_y hl g_ h5) (T_ (aq_ r_ r_ (an_ (M_ r_ (M_ r_ (o_ r_ (bj_ r_ r_ g_ (jl_bindE [0] rfl rfl (hB b (w + 1) (b4 + 1) _ g_ g_ g_ g_) e (fun v hv => by (repeat (first | refine pq_then ?_ | refine pq_block ?_)); exact pq_fin hv) (nb rfl) (fun t2 b5 k5 g5 e => ?_))))))))))))
          refine F_ r_ (W_ 1 r_ (T_ (R_ (A_ 0 r_ (S_ 2 r_ (T_ (ar_ (az_ (aw_ (jq_row 0 (Sm.mk 3 ⟨#[]⟩ [] [x] 0 n t t2).row' rfl ?_ ?_))))))))))
          · (repeat (first | exact RowLe.nil | refine RowLe.cons (CLe.refl _) ?_ | refine RowLe.cons CLe.nil ?_))
            refine RowLe.cons (cle_T1 _) ?_
            (repeat (first | exact RowLe.nil | refine RowLe.cons (CLe.refl _) ?_ | refine RowLe.cons CLe.nil ?_))
          exact jq_fin e (jq_retRowS rfl rfl rfl rfl 0 rfl (fun K h => h) (bc_ 2 r_ sub_end))
        | false =>
          rw [if_neg (by rw [h5]; decide)] at e
          refine an_ (M_ r_ (o_ r_ (bi_ [1] r_ r_ (has_n hl g_ h5) (T_ (ap_ r_ r_ (as_ (al_ (R_ (A_ 1 r_ (S_ 2 r_ (T_ (ar_ (az_ (aw_ (jq_row 0 (Sm.mk 3 ⟨#[]⟩ [] [x] 0 n t []).row' rfl ?_ ?_)))))))))))))))
          · (repeat (first | exact RowLe.nil | refine RowLe.cons (CLe.refl _) ?_ | refine RowLe.cons CLe.nil ?_))
            refine RowLe.cons (cle_T1 _) ?_
            (repeat (first | exact RowLe.nil | refine RowLe.cons (CLe.refl _) ?_ | refine RowLe.cons CLe.nil ?_))
          exact jq_fin e (jq_retRowS rfl rfl rfl rfl 0 rfl (fun K h => h) (bc_ 1 r_ sub_end))
      | false =>
        rw [if_neg (by rw [h1]; decide)] at e
        cases h2 : isA l a Kwhile with
        | true =>
          rw [if_pos h2] at e
          have h4 := kw_nm h2 (by decide +kernel)
          refine R_ (o_ r_ (bl_ r_ r_ (fun bl => T_ (am_ (R_ (M_ r_ (o_ r_ (bi_ [1] r_ r_ (named_n ha h4) (o_ r_ (cd_ r_ (M_ r_ (ah_ r_ r_ b_ (bd_ r_ (ah_ r_ r_ b_ (bi_ [0] r_ r_ (is_n ha h1) (ah_ r_ r_ b_ (cd_ r_ (o_ r_ (bp_ r_ r_ r_ (M_ r_ (ah_ r_ r_ b_ (bd_ r_ (ah_ r_ r_ b_ (bi_ [0] r_ r_ (is_y ha h2) ?_))))))))))))))))))))))))
          refine ah_ r_ r_ b_ (cd_ r_ (o_ r_ (bp_ r_ r_ r_ (M_ r_ (ai_ r_ r_ b_ (ai_ r_ r_ b_ (ai_ r_ r_ b_ (o_ r_ (bv_ r_ r_ r_ (T_ (ap_ r_ r_ (as_ (al_ (am_ (R_ (M_ r_ (o_ r_ (bz_ r_ r_ (T_ ?_)))))))))))))))))))
          refine ap_ r_ w_ (as_ (al_ (B_ (R_ (M_ r_ (o_ r_ (bi_ [0] r_ r_ (has_n hl ha h1) (E_ r_ (T_ (ap_ r_ r_ (R_ (M_ r_ (o_ r_ (bi_ [0] r_ r_ (has_y hl ha h2) (E_ r_ (T_ (aq_ r_ r_ ?_)))))))))))))))))
          refine R_ (M_ r_ (jl_bindE [0] rfl rfl (pexpr_p hl g_) e (fun v hv => by (repeat (first | refine pq_then ?_ | refine pq_block ?_)); exact pq_fin hv) (nb rfl) (fun x b1 k1 g1 e => ?_)))
          refine o_ r_ (bq_ r_ r_ b_ r_ r_ b_ (o_ r_ (bu_ r_ r_ r_ r_ r_ (o_ r_ (bl_ r_ r_ (fun bl => S_ 0 r_ (T_ (R_ (M_ r_ (jl_bindE [1] rfl rfl (pword_p hl g_ Kmax) e (fun v hv => by (repeat (first | refine pq_then ?_ | refine pq_block ?_)); exact pq_fin hv) (nb rfl) (fun u b2 k2 g2 e => ?_)))))))))))
          refine T_ (R_ (M_ r_ (jl_bindE [0] rfl rfl (pnum_p hl g_) e (fun v hv => by (repeat (first | refine pq_then ?_ | refine pq_block ?_)); exact pq_fin hv) (nb rfl) (fun m b3 k3 g3 e => ?_))))
          refine F_ r_ (W_ 1 r_ (T_ (R_ (M_ r_ (jl_bindE [1] rfl rfl (pword_p hl g_ Klabel) e (fun v hv => by (repeat (first | refine pq_then ?_ | refine pq_block ?_)); exact pq_fin hv) (nb rfl) (fun v b4 k4 g4 e => ?_))))))
          refine T_ (R_ (M_ r_ (jl_bindE [0] rfl rfl (pnum_p hl g_) e (fun v hv => by (repeat (first | refine pq_then ?_ | refine pq_block ?_)); exact pq_fin hv) (nb rfl) (fun n b5 k5 g5 e => ?_))))
          refine F_ r_ (W_ 1 r_ (T_ (R_ (M_ r_ (M_ r_ (o_ r_ (bj_ r_ r_ g_ (jl_bindE [1] rfl rfl (hB b (w + 1) b5 _ g_ g_ g_ g_) e (fun v hv => by (repeat (first | refine pq_then ?_ | refine pq_block ?_)); exact pq_fin hv) (nb rfl) (fun t b6 k6 g6 e => ?_)))))))))
          refine F_ r_ (W_ 1 r_ (T_ (R_ (A_ 0 r_ (S_ 2 r_ (T_ (ar_ (az_ (aw_ (jq_row 0 (Sm.mk 4 ⟨#[]⟩ [] [x] m n t []).row' rfl ?_ ?_))))))))))
          · (repeat (first | exact RowLe.nil | refine RowLe.cons (CLe.refl _) ?_ | refine RowLe.cons CLe.nil ?_))
            refine RowLe.cons (cle_T1 _) ?_
            (repeat (first | exact RowLe.nil | refine RowLe.cons (CLe.refl _) ?_ | refine RowLe.cons CLe.nil ?_))
          exact jq_fin e (jq_retRowS rfl rfl rfl rfl 0 rfl (fun K h => h) (bc_ 2 r_ sub_end))
        | false =>
          rw [if_neg (by rw [h2]; decide)] at e
          cases h3 : isA l a Klock with
          | true =>
            rw [if_pos h3] at e
            have h4 := kw_nm h3 (by decide +kernel)
            refine R_ (o_ r_ (bl_ r_ r_ (fun bl => T_ (am_ (R_ (M_ r_ (o_ r_ (bi_ [1] r_ r_ (named_n ha h4) (o_ r_ (cd_ r_ (M_ r_ (ah_ r_ r_ b_ (bd_ r_ (ah_ r_ r_ b_ (bi_ [0] r_ r_ (is_n ha h1) (ah_ r_ r_ b_ (cd_ r_ (o_ r_ (bp_ r_ r_ r_ (M_ r_ (ah_ r_ r_ b_ (bd_ r_ (ah_ r_ r_ b_ (bi_ [0] r_ r_ (is_n ha h2) ?_))))))))))))))))))))))))
            refine ah_ r_ r_ b_ (cd_ r_ (o_ r_ (bp_ r_ r_ r_ (M_ r_ (ah_ r_ r_ b_ (bd_ r_ (ah_ r_ r_ b_ (bi_ [0] r_ r_ (is_y ha h3) (ah_ r_ r_ b_ (cd_ r_ (o_ r_ (bp_ r_ r_ r_ (T_ (ap_ r_ r_ (as_ (al_ (am_ (R_ (M_ r_ (o_ r_ (bz_ r_ r_ (T_ ?_))))))))))))))))))))))
            refine ap_ r_ w_ (as_ (al_ (B_ (R_ (M_ r_ (o_ r_ (bi_ [0] r_ r_ (has_n hl ha h1) (E_ r_ (T_ (ap_ r_ r_ (R_ (M_ r_ (o_ r_ (bi_ [0] r_ r_ (has_n hl ha h2) (E_ r_ (T_ (ap_ r_ r_ ?_)))))))))))))))))
            refine R_ (M_ r_ (o_ r_ (bi_ [0] r_ r_ (has_y hl ha h3) (E_ r_ (T_ (aq_ r_ r_ (R_ (M_ r_ (jl_bindE [0] rfl rfl (pname_p hl g_) e (fun v hv => by (repeat (first | refine pq_then ?_ | refine pq_block ?_)); exact pq_fin hv) (nb rfl) (fun s b1 k1 g1 e => ?_))))))))))
            refine o_ r_ (bu_ r_ r_ r_ r_ r_ (o_ r_ (bl_ r_ r_ (fun bl => S_ 0 r_ (T_ (R_ (M_ r_ (M_ r_ (o_ r_ (bj_ r_ r_ g_ (jl_bindE [1] rfl rfl (hB b (w + 1) b1 _ g_ g_ g_ g_) e (fun v hv => by (repeat (first | refine pq_then ?_ | refine pq_block ?_)); exact pq_fin hv) (nb rfl) (fun t b6 k6 g6 e => ?_))))))))))))
            refine F_ r_ (W_ 1 r_ (T_ (R_ (A_ 0 r_ (S_ 2 r_ (T_ (ar_ (az_ (aw_ (jq_row 0 (Sm.mk 5 s [] [] 0 0 t []).row' rfl ?_ ?_))))))))))
            · (repeat (first | exact RowLe.nil | refine RowLe.cons (CLe.refl _) ?_ | refine RowLe.cons CLe.nil ?_))
            exact jq_fin e (jq_retRowS rfl rfl rfl rfl 0 rfl (fun K h => h) (bc_ 2 r_ sub_end))
          | false =>
            rw [if_neg (by rw [h3]; decide)] at e
            have h4 : isNm l a = true := by rw [startA, h1, h2, h3] at hst; simpa using hst
            refine R_ (o_ r_ (bl_ r_ r_ (fun bl => T_ (am_ (R_ (M_ r_ (o_ r_ (bi_ [1] r_ r_ (named_y ha h4) (o_ r_ (cd_ r_ (M_ r_ (ai_ r_ r_ b_ (ai_ r_ r_ b_ (ai_ r_ r_ b_ (o_ r_ (bv_ r_ r_ r_ (M_ r_ (ai_ r_ r_ b_ (ai_ r_ r_ b_ ?_)))))))))))))))))))
            refine ai_ r_ r_ b_ (o_ r_ (bv_ r_ r_ r_ (M_ r_ (ai_ r_ r_ b_ (ai_ r_ r_ b_ (ai_ r_ r_ b_ (o_ r_ (bv_ r_ r_ r_ (T_ (ap_ r_ r_ (as_ (al_ (am_ (R_ (M_ r_ (o_ r_ (bz_ r_ r_ (T_ ?_))))))))))))))))))
            refine ap_ r_ w_ (as_ (al_ (B_ (R_ (M_ r_ (o_ r_ (bi_ [0] r_ r_ (has_n hl ha h1) (E_ r_ (T_ (ap_ r_ r_ (R_ (M_ r_ (o_ r_ (bi_ [0] r_ r_ (has_n hl ha h2) (E_ r_ (T_ (ap_ r_ r_ ?_)))))))))))))))))
            refine R_ (M_ r_ (o_ r_ (bi_ [0] r_ r_ (has_n hl ha h3) (E_ r_ (T_ (ap_ r_ r_ (as_ (ay_ (al_ (R_ (M_ r_ (jl_bindE [0] rfl rfl (pname_p hl ha) e (fun v hv => by (repeat (first | refine pq_then ?_ | refine pq_block ?_)); exact pq_fin hv) (nb rfl) (fun s b1 k1 g1 e => ?_)))))))))))))
            refine o_ r_ (bu_ r_ r_ r_ r_ r_ (o_ r_ (bl_ r_ r_ (fun bl => S_ 0 r_ (T_ (am_ (am_ ?_)))))))
            cases h5 : isA l b1 W91 with
            | true =>
              have hlt5 := isA_lt h5
              rw [if_pos h5] at e
              refine an_ (M_ r_ (o_ r_ (bi_ [1] r_ r_ (has_y hl g_ h5) (T_ (aq_ r_ r_ (R_ (M_ r_ (jl_bindE [0] rfl rfl (pexpr_p hl g_) e (fun v hv => by (repeat (first | refine pq_then ?_ | refine pq_block ?_)); exact pq_fin hv) (nb rfl) (fun i b2 k2 g2 e => ?_)))))))))
              refine o_ r_ (bq_ r_ r_ b_ r_ r_ b_ (F_ r_ (W_ 1 r_ (F_ r_ (W_ 0 r_ (T_ (an_ (M_ r_ (jl_bindE [1] rfl rfl (pword_p hl g_ W93) e (fun v hv => by (repeat (first | refine pq_then ?_ | refine pq_block ?_)); exact pq_fin hv) (nb rfl) (fun u b3 k3 g3 e => ?_))))))))))
              refine T_ (R_ (M_ r_ (jl_bindE [0] rfl rfl (pword_p hl g_ Keq) e (fun v hv => by (repeat (first | refine pq_then ?_ | refine pq_block ?_)); exact pq_fin hv) (nb rfl) (fun u2 b4 k4 g4 e => ?_))))
              refine T_ (R_ (M_ r_ (jl_bindE [0] rfl rfl (pexpr_p hl g_) e (fun v hv => by (repeat (first | refine pq_then ?_ | refine pq_block ?_)); exact pq_fin hv) (nb rfl) (fun v b5 k5 g5 e => ?_))))
              refine o_ r_ (bq_ r_ r_ b_ r_ r_ b_ (F_ r_ (W_ 1 r_ (T_ (R_ (A_ 0 r_ (S_ 2 r_ (T_ (ar_ (jq_row 0 (Sm.mk 2 s [i] [v] 0 0 [] []).row' rfl ?_ ?_))))))))))
              · (repeat (first | exact RowLe.nil | refine RowLe.cons (CLe.refl _) ?_ | refine RowLe.cons CLe.nil ?_))
                refine RowLe.cons (cle_T1 _) (RowLe.cons (cle_T1 _) ?_)
                (repeat (first | exact RowLe.nil | refine RowLe.cons (CLe.refl _) ?_ | refine RowLe.cons CLe.nil ?_))
              exact jq_fin e (jq_retRowS rfl rfl rfl rfl 0 rfl (fun K h => h) (bc_ 2 r_ sub_end))
            | false =>
              rw [if_neg (by rw [h5]; decide)] at e
              refine an_ (M_ r_ (o_ r_ (bi_ [1] r_ r_ (has_n hl g_ h5) (T_ (ap_ r_ r_ (as_ (al_ (R_ (M_ r_ (jl_bindE [0] rfl rfl (pword_p hl g_ Keq) e (fun v hv => by (repeat (first | refine pq_then ?_ | refine pq_block ?_)); exact pq_fin hv) (nb rfl) (fun u2 b4 k4 g4 e => ?_)))))))))))
              refine T_ (R_ (M_ r_ (jl_bindE [0] rfl rfl (pexpr_p hl g_) e (fun v hv => by (repeat (first | refine pq_then ?_ | refine pq_block ?_)); exact pq_fin hv) (nb rfl) (fun v b5 k5 g5 e => ?_))))
              refine o_ r_ (bq_ r_ r_ b_ r_ r_ b_ (F_ r_ (W_ 1 r_ (T_ (R_ (A_ 0 r_ (S_ 2 r_ (T_ (ar_ (jq_row 0 (Sm.mk 1 s [] [v] 0 0 [] []).row' rfl ?_ ?_))))))))))
              · (repeat (first | exact RowLe.nil | refine RowLe.cons (CLe.refl _) ?_ | refine RowLe.cons CLe.nil ?_))
                refine RowLe.cons (cle_T1 _) ?_
                (repeat (first | exact RowLe.nil | refine RowLe.cons (CLe.refl _) ?_ | refine RowLe.cons CLe.nil ?_))
              exact jq_fin e (jq_retRowS rfl rfl rfl rfl 0 rfl (fun K h => h) (bc_ 2 r_ sub_end))
omit hl in
theorem smrows (ss : List Sm) : ss.map Sm.row' = ss.map Sm.row := by rw [show Sm.row' = Sm.row from funext fun s => (Sm.row_eq s).symm]
omit hl in
theorem stmtsL_stop {st : Nat → R Sm} {w a : Nat} (h : startA l a = false) (n : Nat) (acc : List Sm) : stmtsL l st w n a acc = .ok acc a := by
  cases n with
  | zero => rw [stmtsL]
  | succ n => rw [stmtsL, if_neg (by rw [h]; decide)]
omit hl in
theorem wdG_y {w : ByteArray} {a : Nat} (h : isA l a w = true) : wdG l w a = .ok () (a + 1) := by rw [wdG, if_pos h]
omit hl in
theorem wdG_n {w : ByteArray} {a : Nat} (h : isA l a w = false) : wdG l w a = .er 1 a := by rw [wdG, if_neg (by rw [h]; decide)]
omit hl in
/-- What the program does at a place where the block does not end. -/
theorem stmts_go {F w c n : Nat} {kw : ByteArray} {acc : List Sm} (h : isA l c kw = false) (hn : l.length - c ≤ n) : ((stmtsL l (stmtG l F w) w n c acc).bind fun ss c => (wdG l kw c).bind fun _ d => .ok ss d) = (stG l F w c).bind fun s d => (stmtsL l (stmtG l F w) w (n - 1) d (acc ++ [s])).bind fun ss c => (wdG l kw c).bind fun _ d => .ok ss d := by
  cases hs : startA l c with
  | false => rw [stmtsL_stop hs, bind_okE, wdG_n h, stG, if_neg (by rw [hs]; decide)]; rfl
  | true =>
    have := start_lt hs
    obtain ⟨n, rfl⟩ : ∃ m, n = m + 1 := ⟨n - 1, by omega⟩
    rw [stmtsL, if_pos hs, stG, if_pos hs]
    by_cases hw : 8 ≤ w
    · rw [if_pos hw, if_pos hw]; rfl
    · rw [if_neg hw, if_neg hw]
      cases stmtG l F w c <;> rfl
theorem pblock_of (hN : NmOk l) (F : Nat) (hS : StP l F) : BkP l F := by
  intro b w a d hd hw ha hF
  refine ⟨(con_introE Tryd.func80 rfl rfl (Nat.le_of_ble_eq_true rfl) (fun c hc => ?_)), fun x c e => blkG_bd (fun a x c => stmtG_bd _ _ _ _ _) x c e⟩
  generalize hfin : finR l b SlS (blkG l (stmtG l F w) w F a) = fin0
  have e := hfin.symm
  rw [blkG] at e
  refine R_ (E_ r_ (T_ (R_ (M_ r_ (jl_bindE [0] rfl rfl (pword_p hl ha Kob) e (fun v hv => by (repeat (first | refine pq_then ?_ | refine pq_block ?_)); exact pq_fin hv) (nb rfl) (fun u b1 k1 g1 e => ?_))))))
  refine T_ (R_ (E_ r_ (T_ (B_ (jc_ownNil 111 8 g_ ?_)))))
  refine jc_loopS (ι := List Sm × Nat × Nat × Value) [] (fun i => (b1 ≤ i.2.1 ∧ i.2.1 ≤ l.length) ∧ l.length - i.2.1 ≤ i.2.2.1 ∧ i.1.length ≤ i.2.1 ∧ fin0 = finR l b SlS ((stmtsL l (stmtG l F w) w i.2.2.1 i.2.1 i.1).bind fun ss c => (wdG l Kcb c).bind fun _ d => .ok ss d))
    (fun i => [(0, Ptr b), (1, In .i64 d), (5, .cell (.val i.2.2.2))]) (fun i => [Pz b l i.2.1, .own i.2.2.2 111 8 (i.1.map Sm.row')]) (fun i => l.length + 1 - i.2.1) ([], b1, F, .slice none 0 0) ⟨⟨Nat.le_refl _, g1.2⟩, by dsimp only; omega, Nat.zero_le _, e⟩ ?_ ?_ ?_
  · exact bc_ 1 r_ (bc_ 0 r_ sub_end)
  · (repeat (first | exact True.intro | refine ⟨rfl, ?_⟩))
  clear e
  rintro ⟨acc, c, n, v⟩ ⟨⟨h1, h2⟩, hn, hacc, e⟩
  dsimp only at h1 h2 hn hacc e ⊢
  refine jc_reset [(0, Ptr b), (1, In .i64 d), (5, .cell (.val v))] [Pz b l c, .own v 111 8 (acc.map Sm.row')] ?_ ⟨[0, 0], [], rfl⟩ ?_
  · (repeat (first | exact True.intro | refine ⟨rfl, ?_⟩))
  cases h : isA l c Kcb with
  | true =>
    rw [stmtsL_stop (start_cb hN h), bind_okE, wdG_y h, bind_okE] at e
    refine am_ (R_ (M_ r_ (o_ r_ (bi_ [0] r_ r_ (has_y hl h2 h) (o_ r_ (cd_ r_ (T_ (ap_ r_ r_ (av_ (ax_ (ax_ (ba_ (al_ (R_ (M_ r_ (E_ r_ (T_ ?_)))))))))))))))))
    exact ar_ (jq_freeze 4 1 rfl rfl (by rw [hc]; simp [hb, Ch.bs]) (jq_fin e (jq_ret1S rfl rfl (fun K h => by rw [smrows]; exact h) (bc_ 0 r_ sub_end))))
  | false =>
    rw [stmts_go h hn] at e
    refine am_ (R_ (M_ r_ (o_ r_ (bi_ [0] r_ r_ (has_n hl h2 h) (o_ r_ (cd_ r_ (T_ (aq_ r_ r_ (as_ (al_ (au_ (an_ (M_ r_ (M_ r_ (M_ r_ (jl_bindE [0] rfl rfl (hS b w c _ hd hw h2 g_) e (fun v hv => by (repeat (first | refine pq_then ?_ | refine pq_block ?_)); exact pq_fin hv) (nb rfl) (fun s c2 k2 g2 e => ?_)))))))))))))))))
    refine o_ r_ (bq_ r_ r_ b_ r_ r_ b_ (o_ r_ (ow_append1 1 (s) rfl rfl rfl rfl rfl rfl rfl (fun s => rfl) (by show (_ + _) * 136 ≤ _; first | omega | (simp only [List.length_append]; omega)) (by first | omega | (simp only [List.length_append]; omega)) (fun v2 hv2 => E_ r_ (ak_ (ay_ ?_))))))
    refine jq_againS (i := (acc, c, n, v)) ((acc ++ [s], c2, n - 1, v2) : List Sm × Nat × Nat × Value) ⟨⟨by dsimp only; omega, g2.2⟩, by dsimp only; omega, by dsimp only; simp only [List.length_append, List.length_singleton]; omega, e⟩ (by dsimp only; omega) ?_ ?_
    · exact bc_ 1 r_ (bc_ 0 r_ sub_end)
    · (repeat (first | exact True.intro | refine ⟨rfl, ?_⟩))
theorem pstmt_all (hN : NmOk l) : ∀ F : Nat, StP l F
  | 0 => fun b w a d hd hw ha h => absurd h (by omega)
  | F + 1 => pstmt_step hl F (pblock_of hl hN F (pstmt_all hN F))
end
end Go.Proofs.YtlniadfidfmckaaDoor
end

section
namespace Go.Proofs.YtlniadfidfmckaaDoor
open Go.Vc
set_option maxHeartbeats 4000000

section
variable (l : List Tok) (nm : ByteArray) (pe de pr ji : Int)
def tkF (i : List Inp) (v : List ByteArray) (ar : List Arr) (m : List Md) (c : List Clm) (b : Nat) : R Tk := (bodyG l b).bind fun ss b => .ok ⟨nm, pe, de, pr, ji, i, v, ar, m, c, ss⟩ b
def tkE (i : List Inp) (v : List ByteArray) (ar : List Arr) (m : List Md) (b : Nat) : R Tk := (lpG l Knever (clG l) (l.length + 1) b []).bind fun c b => tkF l nm pe de pr ji i v ar m c b
def tkD (i : List Inp) (v : List ByteArray) (ar : List Arr) (b : Nat) : R Tk := (lpG l Kmode (mdG l) (l.length + 1) b []).bind fun m b => tkE l nm pe de pr ji i v ar m b
def tkC (i : List Inp) (v : List ByteArray) (b : Nat) : R Tk := (lpG l Karray (arG l) (l.length + 1) b []).bind fun ar b => tkD l nm pe de pr ji i v ar b
def tkB (i : List Inp) (b : Nat) : R Tk := (lpG l Kvar (nmG l) (l.length + 1) b []).bind fun v b => tkC l nm pe de pr ji i v b
def tkA (b : Nat) : R Tk := (lpG l Kinput (inG l) (l.length + 1) b []).bind fun i b => tkB l nm pe de pr ji i b
def tk4 (b : Nat) : R Tk := (dcG l Kjitter b).bind fun ji b => tkA l nm pe de pr ji b
def tk3 (b : Nat) : R Tk := (dcG l Kpriority b).bind fun pr b => tk4 l nm pe de pr b
def tk2 (b : Nat) : R Tk := (dcG l Kdeadline b).bind fun de b => tk3 l nm pe de b
def tk1 (b : Nat) : R Tk := (dcG l Kperiod b).bind fun pe b => tk2 l nm pe b
end
theorem taskG_eq (l : List Tok) (a : Nat) : taskG l a = (nmG l a).bind fun nm b => tk1 l nm b := rfl
theorem R.bind_assoc {α β γ : Type} (r : R α) (f : α → Nat → R β) (g : β → Nat → R γ) : (r.bind f).bind g = r.bind fun x a => (f x a).bind g := by cases r <;> rfl
theorem lpG_stop {α : Type} {l : List Tok} {kw : ByteArray} {one : Nat → R α} {a : Nat} (h : isA l a kw = false) (n : Nat) (acc : List α) : lpG l kw one n a acc = .ok acc a := by
  cases n with
  | zero => rw [lpG]
  | succ n => rw [lpG, if_neg (by rw [h]; decide)]
theorem lpG_go {α β : Type} {l : List Tok} {kw : ByteArray} {one : Nat → R α} {a n : Nat} (h : isA l a kw = true) (hn : l.length - a ≤ n) (acc : List α) (K : List α → Nat → R β) : (lpG l kw one n a acc).bind K = (one (a + 1)).bind fun x b => (lpG l kw one (n - 1) b (acc ++ [x])).bind K := by
  have := isA_lt h
  obtain ⟨n, rfl⟩ : ∃ m, n = m + 1 := ⟨n - 1, by omega⟩
  rw [lpG, if_pos h, R.bind_assoc]
  rfl
theorem stmts_goK {β : Type} {l : List Tok} {F w c n : Nat} {kw : ByteArray} {acc : List Sm} (h : isA l c kw = false) (hn : l.length - c ≤ n) (K : List Sm → Nat → R β) : ((stmtsL l (stmtG l F w) w n c acc).bind fun ss c => (wdG l kw c).bind fun _ d => K ss d) = (stG l F w c).bind fun s d => (stmtsL l (stmtG l F w) w (n - 1) d (acc ++ [s])).bind fun ss c => (wdG l kw c).bind fun _ d => K ss d := by
  cases hs : startA l c with
  | false => rw [stmtsL_stop hs, bind_okE, wdG_n h, stG, if_neg (by rw [hs]; decide)]; rfl
  | true =>
    have := start_lt hs
    obtain ⟨n, rfl⟩ : ∃ m, n = m + 1 := ⟨n - 1, by omega⟩
    rw [stmtsL, if_pos hs, stG, if_pos hs]
    by_cases hw : 8 ≤ w
    · rw [if_pos hw, if_pos hw]; rfl
    · rw [if_neg hw, if_neg hw]
      cases stmtG l F w c <;> rfl
theorem bind_le {α β : Type} {l : List Tok} {a : Nat} {r : R α} {f : α → Nat → R β} (h : ∀ x c, r = .ok x c → a ≤ c ∧ c ≤ l.length) (k : ∀ x c, c ≤ l.length → ∀ y d, f x c = .ok y d → c ≤ d ∧ d ≤ l.length) : ∀ y d, r.bind f = .ok y d → a ≤ d ∧ d ≤ l.length := by
  intro y d e
  cases r with
  | ok x c =>
    have h1 := h x c rfl
    have h2 := k x c h1.2 y d e
    omega
  | er code p => cases e
theorem nbG_bd {l : List Tok} {a : Nat} : ∀ x c, nbG l a = .ok x c → a < c ∧ c ≤ l.length := by
  unfold nbG
  split
  · rename_i h
    have := isA_lt h
    exact fun y d e => by
      have := bind_bd (a := a + 1) nuG_bd (fun _ b hb => ok_bd (nuG_bd _ _ hb).2) y d e
      omega
  · exact nuG_bd
theorem lpG_bd {α : Type} {l : List Tok} {kw : ByteArray} {one : Nat → R α} (hs : ∀ a x c, one a = .ok x c → a < c ∧ c ≤ l.length) : ∀ (n a : Nat) (acc ss : List α) (c : Nat), a ≤ l.length → lpG l kw one n a acc = .ok ss c → a ≤ c ∧ c ≤ l.length
  | 0, a, acc, ss, c, h, e => by simp only [lpG, R.ok.injEq] at e; omega
  | n + 1, a, acc, ss, c, h, e => by
    rw [lpG] at e
    split at e
    · cases h1 : one (a + 1) with
      | er code p => rw [h1] at e; cases e
      | ok x b =>
        rw [h1] at e
        have h2 := hs _ _ _ h1
        have h3 := lpG_bd hs n b _ _ _ h2.2 e
        omega
    · simp only [R.ok.injEq] at e; omega
theorem dcG_bd {l : List Tok} {kw : ByteArray} {a : Nat} : ∀ x c, dcG l kw a = .ok x c → a < c ∧ c ≤ l.length := bind_bd wdG_bd fun _ _ _ => bd_le nuG_bd
theorem inG_bd {l : List Tok} (a : Nat) : ∀ x c, inG l a = .ok x c → a < c ∧ c ≤ l.length := bind_bd nmG_bd fun _ _ _ => bd_le (bind_bd nbG_bd fun _ _ _ => bd_le (bind_bd nbG_bd fun _ _ hb => ok_bd (nbG_bd _ _ hb).2))
theorem arG_bd {l : List Tok} (a : Nat) : ∀ x c, arG l a = .ok x c → a < c ∧ c ≤ l.length := bind_bd nmG_bd fun _ _ _ => bd_le (bind_bd nuG_bd fun _ _ hb => ok_bd (nuG_bd _ _ hb).2)
theorem mdG_bd {l : List Tok} (a : Nat) : ∀ x c, mdG l a = .ok x c → a < c ∧ c ≤ l.length := bind_bd nmG_bd fun _ _ _ => bd_le (bind_bd nmG_bd fun _ _ _ => bd_le (bind_bd nbG_bd fun _ _ _ => bd_le (bind_bd nbG_bd fun _ _ hb => ok_bd (nbG_bd _ _ hb).2)))
theorem clG_bd {l : List Tok} (a : Nat) : ∀ x c, clG l a = .ok x c → a < c ∧ c ≤ l.length := bind_bd nuG_bd fun _ _ _ => bd_le (bind_bd nuG_bd fun _ _ hb => ok_bd (nuG_bd _ _ hb).2)
theorem shG_bd {l : List Tok} (a : Nat) : ∀ x c, shG l a = .ok x c → a < c ∧ c ≤ l.length := bind_bd nmG_bd fun _ _ _ => bd_le (bind_bd nuG_bd fun _ _ _ => bd_le (bind_bd nmG_bd fun _ _ hb => ok_bd (nmG_bd _ _ hb).2))
theorem bodyG_bd {l : List Tok} {a : Nat} : ∀ x c, bodyG l a = .ok x c → a < c ∧ c ≤ l.length :=
  bind_bd wdG_bd fun _ _ hb => bind_le (fun _ _ e => stmtsL_bd (fun _ _ _ => stmtG_bd _ _ _ _ _) _ _ _ _ _ (wdG_bd _ _ hb).2 e) fun _ _ _ => bd_le (bind_bd wdG_bd fun _ _ hd => ok_bd (wdG_bd _ _ hd).2)
theorem taskG_bd {l : List Tok} {a : Nat} : ∀ x c, taskG l a = .ok x c → a < c ∧ c ≤ l.length :=
  bind_bd nmG_bd fun _ _ _ => bind_le (bd_le dcG_bd) fun _ _ _ => bind_le (bd_le dcG_bd) fun _ _ _ => bind_le (bd_le dcG_bd) fun _ _ _ => bind_le (bd_le dcG_bd) fun _ _ h =>
    bind_le (fun _ _ e => lpG_bd inG_bd _ _ _ _ _ h e) fun _ _ h => bind_le (fun _ _ e => lpG_bd (fun _ => nmG_bd) _ _ _ _ _ h e) fun _ _ h => bind_le (fun _ _ e => lpG_bd arG_bd _ _ _ _ _ h e) fun _ _ h => bind_le (fun _ _ e => lpG_bd mdG_bd _ _ _ _ _ h e) fun _ _ h =>
      bind_le (fun _ _ e => lpG_bd clG_bd _ _ _ _ _ h e) fun _ _ _ => bind_le (bd_le bodyG_bd) fun _ _ h => ok_bd h
theorem start_end {l : List Tok} {a : Nat} (h : isA l a Kend = true) : startA l a = false := by
  rw [startA, isA_ne h (by decide), isA_ne h (by decide), isA_ne h (by decide), kw_nm h (by decide +kernel)]; rfl
abbrev TkS (t : Tk) : S := .row t.row
abbrev zSm : List C := [.val (.int .i64 0), .val (.string ⟨#[]⟩), .val (.slice none 0 0), .val (.slice none 0 0), .val (.int .i64 0), .val (.int .i64 0), .val (.slice none 0 0), .val (.slice none 0 0)]
abbrev zSmV : List Value := [.int .i64 0, .string ⟨#[]⟩, .slice none 0 0, .slice none 0 0, .int .i64 0, .int .i64 0, .slice none 0 0, .slice none 0 0]
theorem set_snoc.{u} {α : Type u} (l : List α) (x y : α) (n : Nat) (h : n = l.length) : (l ++ [x]).set n y = l ++ [y] := by subst h; simp
theorem get_snoc.{u} {α : Type u} (l : List α) (x : α) (n : Nat) (h : n = l.length) : (l ++ [x])[n]? = some x := by subst h; simp
end Go.Proofs.YtlniadfidfmckaaDoor
end

section
namespace Go.Proofs.YtlniadfidfmckaaDoor
open Go.Vc
set_option maxHeartbeats 1000000

/-- A result, and that of another list: the same, if it is had ahead of N; and no place of it is ahead of a. -/
def RelR {α : Type} (N a : Nat) (r s : R α) : Prop := match r with
  | .ok x b => a ≤ b ∧ (b < N → s = .ok x b)
  | .er c p => c = 4 ∨ (c = 1 ∧ a ≤ p ∧ (p < N → s = .er 1 p))
theorem RelR.far {α : Type} {N a : Nat} {r s t : R α} (h : RelR N a r s) (hN : N ≤ a) : RelR N a r t := by
  cases r with
  | ok x b => exact ⟨h.1, fun hb => by have := h.1; omega⟩
  | er c p =>
    rcases h with h | ⟨h1, h2, _⟩
    · exact .inl h
    · exact .inr ⟨h1, h2, fun hp => by omega⟩
theorem RelR.le {α : Type} {N a a' : Nat} {r s : R α} (h : RelR N a' r s) (ha : a ≤ a') : RelR N a r s := by
  cases r with
  | ok x b => exact ⟨Nat.le_trans ha h.1, h.2⟩
  | er c p =>
    rcases h with h | ⟨h1, h2, h3⟩
    · exact .inl h
    · exact .inr ⟨h1, Nat.le_trans ha h2, h3⟩
theorem RelR.bind {α β : Type} {N a : Nat} {r s : R α} {f g : α → Nat → R β} (h : RelR N a r s) (k : ∀ x b, r = .ok x b → RelR N b (f x b) (g x b)) : RelR N a (r.bind f) (s.bind g) := by
  cases r with
  | er c p =>
    rcases h with h | ⟨h1, h2, h3⟩
    · exact .inl h
    · exact .inr ⟨h1, h2, fun hp => by rw [h3 hp]; rfl⟩
  | ok x b =>
    have hk := k x b rfl
    by_cases hb : b < N
    · rw [h.2 hb]; exact hk.le h.1
    · exact (hk.far (by omega)).le h.1
theorem RelR.ite {α : Type} {N a : Nat} {c c' : Prop} [Decidable c] [Decidable c'] {r1 r2 s1 s2 : R α} (hc : a < N → (c ↔ c')) (h1 : c → RelR N a r1 s1) (h2 : ¬ c → RelR N a r2 s2) : RelR N a (if c then r1 else r2) (if c' then s1 else s2) := by
  by_cases h : c
  · rw [if_pos h]
    by_cases ha : a < N
    · rw [if_pos ((hc ha).1 h)]; exact h1 h
    · exact (h1 h).far (by omega)
  · rw [if_neg h]
    by_cases ha : a < N
    · rw [if_neg (fun h' => h ((hc ha).2 h'))]; exact h2 h
    · exact (h2 h).far (by omega)
theorem RelR.ok {α : Type} {N a b : Nat} {x : α} (h : a ≤ b) : RelR N a (.ok x b) (.ok x b) := ⟨h, fun _ => rfl⟩
theorem RelR.er {α : Type} {N a p : Nat} (h : a ≤ p) : RelR (α := α) N a (.er 1 p) (.er 1 p) := .inr ⟨rfl, h, fun _ => rfl⟩
theorem RelR.er4 {α : Type} {N a p : Nat} {s : R α} : RelR N a (.er 4 p) s := .inl rfl
/-- Lists that begin alike. -/
structure Ag (l m : List Tok) (N : Nat) : Prop where
  ag : ∀ i, i < N → l[i]? = m[i]?
  hl : N ≤ l.length
  hm : N ≤ m.length
section
variable {l m : List Tok} {N : Nat} (h : Ag l m N)
include h
theorem isA_ag {a : Nat} (w : ByteArray) (ha : a < N) : (isA l a w = true) ↔ (isA m a w = true) := by rw [isA_eq (h.ag a ha)]
theorem wdG_r (w : ByteArray) (a : Nat) : RelR N a (wdG l w a) (wdG m w a) := by
  unfold wdG
  exact .ite (isA_ag h w) (fun _ => .ok (by omega)) (fun _ => .er (Nat.le_refl _))
theorem nmG_r (a : Nat) : RelR N a (nmG l a) (nmG m a) := by
  unfold nmG
  exact .ite (fun ha => by rw [isNm_eq (h.ag a ha)]) (fun _ => ⟨by omega, fun hb => by rw [txtAt_eq (h.ag a (by omega))]⟩) (fun _ => .er (Nat.le_refl _))
theorem nuG_r (a : Nat) : RelR N a (nuG l a) (nuG m a) := by
  unfold nuG
  exact .ite (fun ha => by rw [isNum_eq (h.ag a ha)]) (fun _ => ⟨by omega, fun hb => by rw [numAt_eq (h.ag a (by omega))]⟩) (fun _ => .er (Nat.le_refl _))
theorem nbG_r (a : Nat) : RelR N a (nbG l a) (nbG m a) := by
  unfold nbG
  exact .ite (isA_ag h W45) (fun _ => ((nuG_r h (a + 1)).bind fun _ _ _ => .ok (Nat.le_refl _)).le (by omega)) (fun _ => nuG_r h a)
omit h in
theorem dpR_r (fr : Bool) (t : T) (b : Nat) : RelR N b (dpR fr t b) (dpR fr t b) := by
  unfold dpR
  split
  · exact .er4
  · exact .ok (Nat.le_refl _)
omit h in
theorem sxp_aux (r : R T) (d : T → Nat → R T) (k : T → Nat → R T) : (match r with | .er c p => .er c p | .ok y b => match d y b with | .er c p => .er c p | .ok z b' => k z b') = r.bind fun y b => (d y b).bind k := by
  cases r with
  | er c p => rfl
  | ok y b =>
    show (match d y b with | .er c p => .er c p | .ok z b' => k z b') = (d y b).bind k
    cases d y b <;> rfl
theorem sxp_r {fr : Bool} {L : List ByteArray} {sub sub' : Nat → R T} (hbd : ∀ a t b, sub a = .ok t b → a < b ∧ b ≤ l.length) : ∀ (n n' : Nat) (x : T) (a : Nat), a ≤ l.length → (n = n' ∨ (l.length - a ≤ n ∧ (a < N → m.length - a ≤ n'))) → (∀ b, a ≤ b → b ≤ l.length → RelR N b (sub b) (sub' b)) → RelR N a (sxp fr l L sub n x a) (sxp fr m L sub' n' x a)
  | 0, n', x, a, ha, hn, hs => by
    refine ⟨Nat.le_refl _, fun haN => ?_⟩
    rcases hn with rfl | hn
    · rfl
    · have := h.hl; omega
  | n + 1, n', x, a, ha, hn, hs => by
    have step : ∀ n'', (n = n'' ∨ (l.length - a ≤ n + 1 ∧ (a < N → m.length - a ≤ n'' + 1))) → RelR N a (sxp fr l L sub (n + 1) x a) (sxp fr m L sub' (n'' + 1) x a) := by
      intro n'' hn
      cases ho : opAt l L a with
      | none =>
        rw [sxp, ho]
        refine ⟨Nat.le_refl _, fun haN => ?_⟩
        rw [opAt_eq (h.ag a haN)] at ho
        rw [sxp, ho]
      | some o =>
        have hlt := opAt_lt ho
        have hb : RelR N a ((sub (a + 1)).bind fun y b => (dpR fr (.bn o x y) b).bind fun z b' => sxp fr l L sub n z b') ((sub' (a + 1)).bind fun y b => (dpR fr (.bn o x y) b).bind fun z b' => sxp fr m L sub' n'' z b') := by
          refine RelR.le (RelR.bind (hs (a + 1) (by omega) (by omega)) fun y b hy => ?_) (Nat.le_succ a)
          have hyb := hbd _ _ _ hy
          refine RelR.bind (dpR_r fr _ b) fun z b' hz => ?_
          obtain ⟨rfl, rfl⟩ := dpR_bd hz
          refine sxp_r hbd n n'' _ _ hyb.2 ?_ (fun c hc1 hc2 => hs c (by omega) hc2)
          rcases hn with hn | hn
          · exact .inl hn
          · exact .inr ⟨by omega, fun hc => by have := hn.2 (by omega); omega⟩
        have e1 : sxp fr l L sub (n + 1) x a = (sub (a + 1)).bind fun y b => (dpR fr (.bn o x y) b).bind fun z b' => sxp fr l L sub n z b' := by
            rw [sxp, ho]
            exact sxp_aux _ _ _
        rw [e1]
        by_cases haN : a < N
        · have e2 : sxp fr m L sub' (n'' + 1) x a = (sub' (a + 1)).bind fun y b => (dpR fr (.bn o x y) b).bind fun z b' => sxp fr m L sub' n'' z b' := by
            rw [sxp, ← opAt_eq (h.ag a haN), ho]
            exact sxp_aux _ _ _
          rw [e2]
          exact hb
        · exact hb.far (by omega)
    cases n' with
    | succ n'' => exact step n'' (by omega)
    | zero =>
      have haN : N ≤ a := by
        rcases Nat.lt_or_ge a N with hlt | hge
        · have := h.hm; omega
        · exact hge
      exact (step n (.inl rfl)).far haN
omit h in
theorem sx_eq (fr : Bool) (l : List Tok) (F k a : Nat) : sx fr l (F + 1) k a =
    if 3 ≤ k then
      if isNum l a = true then .ok (.nu (numAt l a)) (a + 1)
      else if isA l a W45 = true then
        if isNum l (a + 1) = true then .ok (.nu (ngI (numAt l (a + 1)))) (a + 2)
        else (sx fr l F 3 (a + 1)).bind fun x b => dpR fr (.bn 2 (.nu 0) x) b
      else if isNm l a = true then
        if isA l (a + 1) W91 = true then (sx fr l F 0 (a + 2)).bind fun x b => if isA l b W93 = true then dpR fr (.ix (txtAt l a) x) (b + 1) else .er 1 b
        else .ok (.nm (txtAt l a)) (a + 1)
      else if isA l a W40 = true then (sx fr l F 0 (a + 1)).bind fun x b => if isA l b W41 = true then .ok x (b + 1) else .er 1 b
      else .er 1 a
    else (sx fr l F (k + 1) a).bind fun x b => sxp fr l (opsL k) (sx fr l F (k + 1)) (if k = 0 then 1 else F) x b := by
  rw [sx]
  by_cases h3 : 3 ≤ k
  · rw [if_pos h3, if_pos h3]
    by_cases h1 : isNum l a = true
    · rw [if_pos h1, if_pos h1]
    rw [if_neg h1, if_neg h1]
    by_cases h2 : isA l a W45 = true
    · rw [if_pos h2, if_pos h2]
      cases sx fr l F 3 (a + 1) <;> rfl
    rw [if_neg h2, if_neg h2]
    by_cases h4 : isNm l a = true
    · rw [if_pos h4, if_pos h4]
      cases sx fr l F 0 (a + 2) <;> rfl
    rw [if_neg h4, if_neg h4]
    cases sx fr l F 0 (a + 1) <;> rfl
  · rw [if_neg h3, if_neg h3]
    cases sx fr l F (k + 1) a <;> rfl
omit h in
theorem need_pos (l : List Tok) {k : Nat} (a : Nat) (hk : k ≤ 3) : 1 ≤ need l k a := by unfold need; omega
theorem sx_r {fr : Bool} : ∀ (F F' k a : Nat), k ≤ 3 → a ≤ l.length → need l k a ≤ F → (a < N → need m k a ≤ F') → RelR N a (sx fr l F k a) (sx fr m F' k a)
  | 0, F', k, a, hk, ha, hF, _ => by have := need_pos l a hk; omega
  | F + 1, F', k, a, hk, ha, hF, hF' => by
    have hNl := h.hl
    have hNm := h.hm
    have step : ∀ G, (a < N → need m k a ≤ G + 1) → RelR N a (sx fr l (F + 1) k a) (sx fr m (G + 1) k a) := by
      intro G hG
      have ih := sx_r (fr := fr) F G
      rw [sx_eq, sx_eq]
      unfold need at hF hG ih
      refine .ite (fun _ => Iff.rfl) (fun h3 => ?_) (fun h3 => ?_)
      · obtain rfl : k = 3 := by omega
        refine .ite (fun ha => by rw [isNum_eq (h.ag a ha)]) (fun _ => ⟨by omega, fun hb => by rw [numAt_eq (h.ag a (by omega))]⟩) (fun _ => ?_)
        refine .ite (isA_ag h W45) (fun h45 => ?_) (fun _ => ?_)
        · have := isA_lt h45
          refine RelR.le (RelR.ite (a := a + 1) (fun ha => by rw [isNum_eq (h.ag (a + 1) ha)]) (fun hn => ⟨by omega, fun hb => by rw [numAt_eq (h.ag (a + 1) (by omega))]⟩) (fun _ => ?_)) (Nat.le_succ a)
          exact (ih 3 (a + 1) (by omega) (by omega) (by omega) (fun hb => by have := hG (by omega); omega)).bind fun x b _ => dpR_r fr _ b
        refine .ite (fun ha => by rw [isNm_eq (h.ag a ha)]) (fun hnm => ?_) (fun _ => ?_)
        · have := isNm_lt hnm
          refine RelR.le (RelR.ite (a := a + 1) (isA_ag h W91) (fun h91 => ?_) (fun _ => ⟨Nat.le_refl _, fun hb => by rw [txtAt_eq (h.ag a (by omega))]⟩)) (Nat.le_succ a)
          have := isA_lt h91
          refine RelR.le (RelR.bind (ih 0 (a + 2) (by omega) (by omega) (by omega) (fun hb => by have := hG (by omega); omega)) fun x b hx => ?_) (Nat.le_succ (a + 1))
          have hxb := sx_bd _ _ _ _ _ hx
          refine .ite (isA_ag h W93) (fun h93 => ?_) (fun _ => .er (Nat.le_refl _))
          by_cases hb : b + 1 < N
          · rw [txtAt_eq (h.ag a (by omega))]
            exact (dpR_r fr _ (b + 1)).le (Nat.le_succ b)
          · exact ((dpR_r fr _ (b + 1)).far (by omega)).le (Nat.le_succ b)
        refine .ite (isA_ag h W40) (fun h40 => ?_) (fun _ => .er (Nat.le_refl _))
        have := isA_lt h40
        refine RelR.le (RelR.bind (ih 0 (a + 1) (by omega) (by omega) (by omega) (fun hb => by have := hG (by omega); omega)) fun x b hx => ?_) (Nat.le_succ a)
        exact .ite (isA_ag h W41) (fun _ => .ok (Nat.le_succ b)) (fun _ => .er (Nat.le_refl _))
      · refine (ih (k + 1) a (by omega) ha (by omega) (fun hb => by have := hG hb; omega)).bind fun x b hx => ?_
        have hxb := sx_bd _ _ _ _ _ hx
        refine sxp_r h (fun a t b => sx_bd F (k + 1) a t b) _ _ x b hxb.2 ?_ (fun c hc1 hc2 => ih (k + 1) c (by omega) hc2 (by omega) (fun hb => by have := hG (by omega); omega))
        by_cases h0 : k = 0
        · rw [if_pos h0, if_pos h0]; exact .inl rfl
        · rw [if_neg h0, if_neg h0]; exact .inr ⟨by omega, fun hb => by have := hG (by omega); omega⟩
    cases F' with
    | succ G => exact step G hF'
    | zero =>
      have haN : N ≤ a := by
        rcases Nat.lt_or_ge a N with hlt | hge
        · have := hF' hlt; have := need_pos m a hk; omega
        · exact hge
      exact (step 0 (fun hb => by omega)).far haN
theorem exG_r (a : Nat) (ha : a ≤ l.length) : RelR N a (exG l a) (exG m a) := by
  unfold exG
  exact sx_r h _ _ 0 a (by omega) ha (by unfold need; omega) (fun _ => by unfold need; omega)
theorem startA_ag {a : Nat} (ha : a < N) : (startA l a = true) ↔ (startA m a = true) := by
  unfold startA
  rw [isA_eq (h.ag a ha), isA_eq (h.ag a ha), isA_eq (h.ag a ha), isNm_eq (h.ag a ha)]
theorem stmtsL_r {st st' : Nat → R Sm} {w : Nat} (hbd : ∀ a x c, st a = .ok x c → a < c ∧ c ≤ l.length) : ∀ (n n' a : Nat) (acc : List Sm), a ≤ l.length → l.length - a ≤ n → (a < N → m.length - a ≤ n') → (∀ b, a ≤ b → b ≤ l.length → RelR N b (st b) (st' b)) → RelR N a (stmtsL l st w n a acc) (stmtsL m st' w n' a acc)
  | 0, n', a, acc, ha, hn, _, _ => ⟨Nat.le_refl _, fun hb => by have := h.hl; omega⟩
  | n + 1, n', a, acc, ha, hn, hn', hs => by
    have step : ∀ k, (a < N → m.length - a ≤ k + 1) → RelR N a (stmtsL l st w (n + 1) a acc) (stmtsL m st' w (k + 1) a acc) := by
      intro k hk
      rw [stmtsL, stmtsL]
      refine .ite (startA_ag h) (fun _ => .ite (fun _ => Iff.rfl) (fun _ => .er4) (fun _ => ?_)) (fun _ => .ok (Nat.le_refl _))
      refine RelR.bind (hs a (Nat.le_refl _) ha) fun s b hb => ?_
      have hsb := hbd _ _ _ hb
      exact stmtsL_r hbd n k b _ hsb.2 (by omega) (fun hb => by have := hk (by omega); omega) (fun c hc1 hc2 => hs c (by omega) hc2)
    cases n' with
    | succ k => exact step k hn'
    | zero =>
      have haN : N ≤ a := by
        rcases Nat.lt_or_ge a N with hlt | hge
        · have := hn' hlt; have := h.hm; omega
        · exact hge
      exact (step 0 (fun hb => by omega)).far haN
theorem blkG_r {st st' : Nat → R Sm} {w n n' a : Nat} (hbd : ∀ a x c, st a = .ok x c → a < c ∧ c ≤ l.length) (ha : a ≤ l.length) (hn : l.length - a ≤ n) (hn' : a < N → m.length - a ≤ n') (hs : ∀ b, a ≤ b → b ≤ l.length → RelR N b (st b) (st' b)) : RelR N a (blkG l st w n a) (blkG m st' w n' a) := by
  unfold blkG
  refine (wdG_r h Kob a).bind fun _ b hb => ?_
  have h1 := wdG_bd _ _ hb
  refine (stmtsL_r h hbd n n' b [] h1.2 (by omega) (fun hb => by have := hn' (by omega); omega) (fun c hc1 hc2 => hs c (by omega) hc2)).bind fun ss c _ => ?_
  exact (wdG_r h Kcb c).bind fun _ d _ => .ok (Nat.le_refl _)
theorem stmtG_r : ∀ (F F' w a : Nat), a ≤ l.length → l.length - a < F → (a < N → m.length - a < F') → RelR N a (stmtG l F w a) (stmtG m F' w a)
  | 0, F', w, a, _, hF, _ => by omega
  | F + 1, F', w, a, ha, hF, hF' => by
    have hNl := h.hl
    have hNm := h.hm
    have step : ∀ G, (a < N → m.length - a < G + 1) → RelR N a (stmtG l (F + 1) w a) (stmtG m (G + 1) w a) := by
      intro G hG
      have blk : ∀ b, a < b → b ≤ l.length → RelR N b (blkG l (stmtG l F (w + 1)) (w + 1) F b) (blkG m (stmtG m G (w + 1)) (w + 1) G b) := fun b hb hbl =>
        blkG_r h (stmtG_bd F (w + 1)) hbl (by omega) (fun hbN => by have := hG (by omega); omega) (fun c hc1 hc2 => stmtG_r F G (w + 1) c hc2 (by omega) (fun hcN => by have := hG (by omega); omega))
      rw [stmtG, stmtG]
      refine .ite (isA_ag h Kif) (fun hk => ?_) (fun _ => .ite (isA_ag h Kwhile) (fun hk => ?_) (fun _ => .ite (isA_ag h Klock) (fun hk => ?_) (fun _ => ?_)))
      · have := isA_lt hk
        refine RelR.le (RelR.bind (exG_r h (a + 1) (by omega)) fun x b1 e1 => ?_) (Nat.le_succ a)
        have q1 := exG_bd _ _ e1
        refine (wdG_r h Klabel b1).bind fun _ b2 e2 => ?_
        have q2 := wdG_bd _ _ e2
        refine (nuG_r h b2).bind fun n b3 e3 => ?_
        have q3 := nuG_bd _ _ e3
        refine (blk b3 (by omega) q3.2).bind fun t b4 e4 => ?_
        have q4 := blkG_bd (stmtG_bd F (w + 1)) _ _ e4
        refine .ite (isA_ag h Kelse) (fun hk => ?_) (fun _ => .ok (Nat.le_refl _))
        have := isA_lt hk
        exact RelR.le (RelR.bind (blk (b4 + 1) (by omega) (by omega)) fun e b5 _ => .ok (Nat.le_refl _)) (Nat.le_succ b4)
      · have := isA_lt hk
        refine RelR.le (RelR.bind (exG_r h (a + 1) (by omega)) fun x b1 e1 => ?_) (Nat.le_succ a)
        have q1 := exG_bd _ _ e1
        refine (wdG_r h Kmax b1).bind fun _ b2 e2 => ?_
        have q2 := wdG_bd _ _ e2
        refine (nuG_r h b2).bind fun n b3 e3 => ?_
        have q3 := nuG_bd _ _ e3
        refine (wdG_r h Klabel b3).bind fun _ b4 e4 => ?_
        have q4 := wdG_bd _ _ e4
        refine (nuG_r h b4).bind fun n b5 e5 => ?_
        have q5 := nuG_bd _ _ e5
        exact (blk b5 (by omega) q5.2).bind fun t b6 _ => .ok (Nat.le_refl _)
      · have := isA_lt hk
        refine RelR.le (RelR.bind (nmG_r h (a + 1)) fun s b1 e1 => ?_) (Nat.le_succ a)
        have q1 := nmG_bd _ _ e1
        exact (blk b1 (by omega) q1.2).bind fun t b2 _ => .ok (Nat.le_refl _)
      · refine (nmG_r h a).bind fun s b1 e1 => ?_
        have q1 := nmG_bd _ _ e1
        refine .ite (isA_ag h W91) (fun hk => ?_) (fun _ => ?_)
        · have := isA_lt hk
          refine RelR.le (RelR.bind (exG_r h (b1 + 1) (by omega)) fun i b2 e2 => ?_) (Nat.le_succ b1)
          have q2 := exG_bd _ _ e2
          refine (wdG_r h W93 b2).bind fun _ b3 e3 => ?_
          have q3 := wdG_bd _ _ e3
          refine (wdG_r h Keq b3).bind fun _ b4 e4 => ?_
          have q4 := wdG_bd _ _ e4
          exact (exG_r h b4 q4.2).bind fun v b5 _ => .ok (Nat.le_refl _)
        · refine (wdG_r h Keq b1).bind fun _ b2 e2 => ?_
          have q2 := wdG_bd _ _ e2
          exact (exG_r h b2 q2.2).bind fun v b3 _ => .ok (Nat.le_refl _)
    cases F' with
    | succ G => exact step G hF'
    | zero =>
      have haN : N ≤ a := by
        rcases Nat.lt_or_ge a N with hlt | hge
        · have := hF' hlt; omega
        · exact hge
      exact (step 0 (fun hb => by omega)).far haN
theorem lpG_r {α : Type} {kw : ByteArray} {one one' : Nat → R α} (hbd : ∀ a x c, one a = .ok x c → a < c ∧ c ≤ l.length) (ho : ∀ b, RelR N b (one b) (one' b)) : ∀ (n n' a : Nat) (acc : List α), a ≤ l.length → l.length - a ≤ n → (a < N → m.length - a ≤ n') → RelR N a (lpG l kw one n a acc) (lpG m kw one' n' a acc)
  | 0, n', a, acc, ha, hn, _ => ⟨Nat.le_refl _, fun hb => by have := h.hl; omega⟩
  | n + 1, n', a, acc, ha, hn, hn' => by
    have step : ∀ k, (a < N → m.length - a ≤ k + 1) → RelR N a (lpG l kw one (n + 1) a acc) (lpG m kw one' (k + 1) a acc) := by
      intro k hk
      rw [lpG, lpG]
      refine .ite (isA_ag h kw) (fun _ => ?_) (fun _ => .ok (Nat.le_refl _))
      refine RelR.le (RelR.bind (ho (a + 1)) fun s b hb => ?_) (Nat.le_succ a)
      have hsb := hbd _ _ _ hb
      exact lpG_r hbd ho n k b _ hsb.2 (by omega) (fun hb => by have := hk (by omega); omega)
    cases n' with
    | succ k => exact step k hn'
    | zero =>
      have haN : N ≤ a := by
        rcases Nat.lt_or_ge a N with hlt | hge
        · have := hn' hlt; have := h.hm; omega
        · exact hge
      exact (step 0 (fun hb => by omega)).far haN
theorem inG_r (a : Nat) : RelR N a (inG l a) (inG m a) := by
  unfold inG
  exact (nmG_r h a).bind fun _ b _ => (nbG_r h b).bind fun _ c _ => (nbG_r h c).bind fun _ d _ => .ok (Nat.le_refl _)
theorem arG_r (a : Nat) : RelR N a (arG l a) (arG m a) := by
  unfold arG
  exact (nmG_r h a).bind fun _ b _ => (nuG_r h b).bind fun _ c _ => .ok (Nat.le_refl _)
theorem mdG_r (a : Nat) : RelR N a (mdG l a) (mdG m a) := by
  unfold mdG
  exact (nmG_r h a).bind fun _ b _ => (nmG_r h b).bind fun _ c _ => (nbG_r h c).bind fun _ d _ => (nbG_r h d).bind fun _ e _ => .ok (Nat.le_refl _)
theorem clG_r (a : Nat) : RelR N a (clG l a) (clG m a) := by
  unfold clG
  exact (nuG_r h a).bind fun _ b _ => (nuG_r h b).bind fun _ c _ => .ok (Nat.le_refl _)
theorem shG_r (a : Nat) : RelR N a (shG l a) (shG m a) := by
  unfold shG
  exact (nmG_r h a).bind fun _ b _ => (nuG_r h b).bind fun _ c _ => (nmG_r h c).bind fun _ d _ => .ok (Nat.le_refl _)
theorem dcG_r (kw : ByteArray) (a : Nat) : RelR N a (dcG l kw a) (dcG m kw a) := by
  unfold dcG
  exact (wdG_r h kw a).bind fun _ b _ => nuG_r h b
theorem bodyG_r (a : Nat) : RelR N a (bodyG l a) (bodyG m a) := by
  unfold bodyG
  refine (wdG_r h Kbody a).bind fun _ b e => ?_
  have q := wdG_bd _ _ e
  refine (stmtsL_r h (stmtG_bd _ 0) _ _ b [] q.2 (by omega) (fun _ => by omega) (fun c _ hc => stmtG_r h _ _ 0 c hc (by omega) (fun _ => by omega))).bind fun ss c _ => ?_
  exact (wdG_r h Kend c).bind fun _ d _ => .ok (Nat.le_refl _)
theorem lp_r {α : Type} {kw : ByteArray} {one one' : Nat → R α} (hbd : ∀ a x c, one a = .ok x c → a < c ∧ c ≤ l.length) (ho : ∀ b, RelR N b (one b) (one' b)) (a : Nat) (ha : a ≤ l.length) : RelR N a (lpG l kw one (l.length + 1) a []) (lpG m kw one' (m.length + 1) a []) := lpG_r h hbd ho _ _ a [] ha (by omega) (fun _ => by omega)
theorem taskG_r (a : Nat) : RelR N a (taskG l a) (taskG m a) := by
  unfold taskG
  refine (nmG_r h a).bind fun _ b1 _ => (dcG_r h Kperiod b1).bind fun _ b2 _ => (dcG_r h Kdeadline b2).bind fun _ b3 _ => (dcG_r h Kpriority b3).bind fun _ b4 _ => (dcG_r h Kjitter b4).bind fun _ b5 e5 => ?_
  have q5 := dcG_bd _ _ e5
  refine (lp_r h inG_bd (inG_r h) b5 q5.2).bind fun _ b6 e6 => ?_
  have q6 := lpG_bd inG_bd _ _ _ _ _ q5.2 e6
  refine (lp_r h (fun a => nmG_bd (a := a)) (nmG_r h) b6 q6.2).bind fun _ b7 e7 => ?_
  have q7 := lpG_bd (fun a => nmG_bd (a := a)) _ _ _ _ _ q6.2 e7
  refine (lp_r h arG_bd (arG_r h) b7 q7.2).bind fun _ b8 e8 => ?_
  have q8 := lpG_bd arG_bd _ _ _ _ _ q7.2 e8
  refine (lp_r h mdG_bd (mdG_r h) b8 q8.2).bind fun _ b9 e9 => ?_
  have q9 := lpG_bd mdG_bd _ _ _ _ _ q8.2 e9
  exact (lp_r h clG_bd (clG_r h) b9 q9.2).bind fun _ c1 _ => (bodyG_r h c1).bind fun _ c2 _ => .ok (Nat.le_refl _)
theorem tasksL_r : ∀ (n n' a : Nat) (acc : List Tk), a ≤ l.length → l.length - a ≤ n → (a < N → m.length - a ≤ n') → RelR N a (tasksL l n a acc) (tasksL m n' a acc)
  | 0, n', a, acc, ha, hn, _ => ⟨Nat.le_refl _, fun hb => by have := h.hl; omega⟩
  | n + 1, n', a, acc, ha, hn, hn' => by
    have hNl := h.hl
    have hNm := h.hm
    have step : ∀ k, (a < N → m.length - a ≤ k + 1) → RelR N a (tasksL l (n + 1) a acc) (tasksL m (k + 1) a acc) := by
      intro k hk
      rw [tasksL, tasksL]
      refine .ite (fun ha => ⟨fun _ => by omega, fun _ => by omega⟩) (fun _ => ?_) (fun _ => .ok (Nat.le_refl _))
      refine (wdG_r h Ktask a).bind fun _ b e => ?_
      have q := wdG_bd _ _ e
      refine (taskG_r h b).bind fun t c e2 => ?_
      have q2 := taskG_bd _ _ e2
      exact tasksL_r n k c _ q2.2 (by omega) (fun hb => by have := hk (by omega); omega)
    cases n' with
    | succ k => exact step k hn'
    | zero =>
      have haN : N ≤ a := by
        rcases Nat.lt_or_ge a N with hlt | hge
        · have := hn' hlt; omega
        · exact hge
      exact (step 0 (fun hb => by omega)).far haN
theorem progG_r : RelR N 0 (progG l) (progG m) := by
  unfold progG
  refine (lp_r h (fun a => nmG_bd (a := a)) (nmG_r h) 0 (Nat.zero_le _)).bind fun _ b1 e1 => ?_
  have q1 := lpG_bd (fun a => nmG_bd (a := a)) _ _ _ _ _ (Nat.zero_le _) e1
  refine (lp_r h shG_bd (shG_r h) b1 q1.2).bind fun _ b2 e2 => ?_
  have q2 := lpG_bd shG_bd _ _ _ _ _ q1.2 e2
  exact (tasksL_r h _ _ b2 [] q2.2 (by omega) (fun _ => by omega)).bind fun _ c _ => .ok (Nat.le_refl _)
omit h in
theorem progG_code {l : List Tok} {c : Int} {p : Nat} (he : progG l = .er c p) : c = 1 ∨ c = 4 := by
  have h1 := progG_r (l := l) (m := l) (N := l.length) ⟨fun _ _ => rfl, Nat.le_refl _, Nat.le_refl _⟩
  rw [he] at h1
  rcases h1 with h1 | ⟨h1, _⟩
  · exact .inr h1
  · exact .inl h1
/-- An error ahead of where the lists part is the same, with its line. -/
theorem progG_same {p : Nat} (hp : p < N) (he : progG l = .er 1 p) : progG m = .er 1 p ∧ lineAt m p = lineAt l p := by
  have h1 := progG_r h
  rw [he] at h1
  refine ⟨?_, ?_⟩
  · rcases h1 with h1 | ⟨_, _, h1⟩
    · cases h1
    · exact h1 hp
  have hNl := h.hl
  have hNm := h.hm
  unfold lineAt
  rw [show min p (l.length - 1) = p by omega, show min p (m.length - 1) = p by omega, h.ag p hp]
end
end Go.Proofs.YtlniadfidfmckaaDoor
end

section
namespace Go.Proofs.YtlniadfidfmckaaDoor
open Go.Vc
attribute [local irreducible] JL JC JQ OpWp Con ConN

/-- Whether a text is a name. -/
def isName (s : ByteArray) : Bool := decide (0 < s.size) && decide (s.size ≤ 12) && decide (nameLen s = s.size)
theorem empty_iff (s : ByteArray) : s = ⟨#[]⟩ ↔ s.size = 0 := by
  constructor
  · rintro rfl; rfl
  · intro h; cases s; rename_i d; have : d = #[] := Array.eq_empty_of_size_eq_zero h; rw [this]

theorem rletter_c (n : Int) : Con Tryd.prog 20 [In .u8 n] [] (fun K => K (Bl (isL n)) []) := by
  by_cases h : (97 : Int) ≤ n
  · refine con_intro Tryd.func20 rfl rfl (Nat.le_of_ble_eq_true rfl) (fun c hc => R_ (E_ r_ (T_ (R_ (M_ r_ (o_ r_ (cn_ r_ r_ (M_ r_ (ah_ r_ u_ b_ (bd_ r_ (ah_ r_ u_ b_ (cu_ r_ r_ (o_ r_ (bp_ r_ u_ r_ (E_ r_ (T_ (ar_ (jq_ret1 rfl rfl [] rfl (fun K h' => by rw [show isL n = decide (n ≤ 122) by simp [isL, h]] at h'; exact h')))))))))))))))))))
  · refine con_intro Tryd.func20 rfl rfl (Nat.le_of_ble_eq_true rfl) (fun c hc => R_ (E_ r_ (T_ (R_ (M_ r_ (o_ r_ (cn_ r_ r_ (M_ r_ (ai_ r_ w_ b_ (ai_ r_ w_ b_ (o_ r_ (bv_ r_ w_ r_ (E_ r_ (T_ (ar_ (jq_ret1 rfl rfl [] rfl (fun K h' => by rw [show isL n = false by simp [isL, h]] at h'; exact h')))))))))))))))))
theorem rdigit_c (n : Int) : Con Tryd.prog 21 [In .u8 n] [] (fun K => K (Bl (isD n)) []) := by
  by_cases h : (48 : Int) ≤ n
  · refine con_intro Tryd.func21 rfl rfl (Nat.le_of_ble_eq_true rfl) (fun c hc => R_ (E_ r_ (T_ (R_ (M_ r_ (o_ r_ (cn_ r_ r_ (M_ r_ (ah_ r_ u_ b_ (bd_ r_ (ah_ r_ u_ b_ (cu_ r_ r_ (o_ r_ (bp_ r_ u_ r_ (E_ r_ (T_ (ar_ (jq_ret1 rfl rfl [] rfl (fun K h' => by rw [show isD n = decide (n ≤ 57) by simp [isD, h]] at h'; exact h')))))))))))))))))))
  · refine con_intro Tryd.func21 rfl rfl (Nat.le_of_ble_eq_true rfl) (fun c hc => R_ (E_ r_ (T_ (R_ (M_ r_ (o_ r_ (cn_ r_ r_ (M_ r_ (ai_ r_ w_ b_ (ai_ r_ w_ b_ (o_ r_ (bv_ r_ w_ r_ (E_ r_ (T_ (ar_ (jq_ret1 rfl rfl [] rfl (fun K h' => by rw [show isD n = false by simp [isD, h]] at h'; exact h')))))))))))))))))
theorem numVal_bigF : ∀ (l : List Int) (n : Int), (∀ c ∈ l, isD c = true) → 2147483648 ≤ n → 2147483648 ≤ l.foldl (fun n c => min (10 * n + (c - 48)) 2147483648) n := by
  intro l
  induction l with
  | nil => intro n _ h; exact h
  | cons c l ih =>
    intro n hd hn
    have h2 : isD c = true := hd c (by simp)
    simp only [isD, Bool.and_eq_true, decide_eq_true_eq] at h2
    rw [List.foldl_cons]
    exact ih _ (fun x hx => hd x (by simp [hx])) g_
theorem numVal_big {l : List Int} (hd : ∀ c ∈ l, isD c = true) (k : Nat) (h : 2147483648 ≤ numVal (l.take (k + 1))) : 2147483648 ≤ numVal l := by
  have e : numVal l = (l.drop (k + 1)).foldl (fun n c => min (10 * n + (c - 48)) 2147483648) (numVal (l.take (k + 1))) := by
    unfold numVal
    rw [← List.foldl_append, List.take_append_drop]
  rw [e]
  exact numVal_bigF _ _ (fun c hc => hd c (List.mem_of_mem_drop hc)) h
theorem value_c (s : ByteArray) (hs : s.size ≤ 1000000) (hd : ∀ c ∈ bytesI s, isD c = true) : Con Tryd.prog 22 [Str s] [] (fun K => K (In .i64 (if 2147483648 ≤ numVal (bytesI s) then -1 else numVal (bytesI s))) []) := by
  refine con_intro Tryd.func22 rfl rfl (Nat.le_of_ble_eq_true rfl) (fun c hc => R_ (E_ r_ (T_ (R_ (E_ r_ (T_ (am_ (R_ (E_ r_ (T_ (au_ (jc_loopS [] (fun k : Nat => k ≤ s.size ∧ numVal ((bytesI s).take k) < 2147483648) (fun k => [(0, Str s), (3, In .i64 (numVal ((bytesI s).take k))), (4, In .i64 (k : Int))]) (fun _ => []) (fun k => s.size - k) 0 ⟨Nat.zero_le _, by simp [numVal]⟩ ?_ ?_ ?_))))))))))))
  · exact sub_end
  · (repeat (first | exact True.intro | refine ⟨rfl, ?_⟩))
  · rintro k ⟨hk, hv⟩
    refine am_ (R_ (M_ r_ (M_ r_ (o_ r_ (co_ r_ r_ (o_ r_ (bw_ r_ r_ (T_ (jc_condd rfl (fun hlt => ?_) (fun hge => ?_))))))))))
    · have hlt' : k < (bytesI s).length := by rw [bytesI_len]; omega
      have h1 := hd (bytesI s)[k] (List.getElem_mem hlt')
      have h3 : (bytesI s)[k] = byteAt s k := bytesI_get s k (by omega)
      simp only [isD, Bool.and_eq_true, decide_eq_true_eq] at h1
      have h2 := numVal_bd ((bytesI s).take k) (fun c hc => hd c (List.mem_of_mem_take hc))
      have e : numVal ((bytesI s).take (k + 1)) = min (10 * numVal ((bytesI s).take k) + ((bytesI s)[k] - 48)) 2147483648 := by rw [List.take_succ_eq_append_getElem hlt', numVal_snoc]
      have h4 : byteAt s (k : Int).toNat = byteAt s k := rfl
      rw [h3] at h1 e
      refine as_ (al_ (B_ (R_ (M_ r_ (o_ r_ (cz_ r_ r_ g_ (M_ r_ (M_ r_ (o_ r_ (ow_indexStr r_ r_ r_ g_ g_ (o_ r_ (ow_subU8 r_ r_ g_ (o_ r_ (ow_convI64 r_ r_ r_ g_ (o_ r_ (bj_ r_ r_ g_ (E_ r_ (T_ (R_ (M_ r_ ?_))))))))))))))))))))
      refine o_ r_ (cn_ r_ r_ (T_ (jc_condd rfl (fun hg => ?_) (fun hg => ?_))))
      · have e2 : (2147483648 : Int) ≤ numVal (bytesI s) := numVal_big hd k (by rw [e]; omega)
        refine R_ (E_ r_ (T_ (ar_ (az_ (aw_ (aw_ (az_ (aw_ (jq_ret1 rfl rfl [] rfl (fun K h => by rw [if_pos e2] at h; exact h))))))))))
      · refine as_ (ay_ (al_ (an_ (M_ r_ (o_ r_ (bj_ r_ r_ g_ (E_ r_ (ak_ ?_))))))))
        have e3 : numVal ((bytesI s).take (k + 1)) = numVal ((bytesI s).take k) * 10 + (byteAt s (k : Int).toNat - 48) := by omega
        refine jq_againS (k + 1) ⟨by omega, by omega⟩ g_ ?_ ?_
        · exact sub_end
        · rw [e3]
          (repeat (first | exact True.intro | refine ⟨rfl, ?_⟩))
    · have e2 : (bytesI s).take k = bytesI s := List.take_of_length_le (by rw [bytesI_len]; omega)
      rw [e2] at hv
      refine av_ (ax_ (ax_ (ba_ (al_ (R_ (M_ r_ (E_ r_ (T_ (ar_ (jq_ret1 rfl rfl [] rfl (fun K h => by rw [if_neg g_] at h; rw [e2]; exact h)))))))))))
end Go.Proofs.YtlniadfidfmckaaDoor
end

section
namespace Go.Proofs.YtlniadfidfmckaaDoor
open Go.Vc
attribute [local irreducible] JL JC JQ OpWp Con ConN

/-- A text's row. -/
def Trow (s : ByteArray) : List C := [.val (.string s)]
/-- All signs, longer ones first. -/
def SL2 : List ByteArray := [⟨#[60, 60]⟩, ⟨#[62, 62]⟩, ⟨#[60, 61]⟩, ⟨#[61, 61]⟩, ⟨#[33, 61]⟩]
def SL1 : List ByteArray := [⟨#[43]⟩, ⟨#[45]⟩, ⟨#[42]⟩, ⟨#[47]⟩, ⟨#[37]⟩, ⟨#[38]⟩, ⟨#[124]⟩, ⟨#[94]⟩, ⟨#[60]⟩, ⟨#[61]⟩, ⟨#[40]⟩, ⟨#[41]⟩, ⟨#[91]⟩, ⟨#[93]⟩, ⟨#[123]⟩, ⟨#[125]⟩]
theorem Signs_c : Con Tryd.prog 40 [] [] (fun K => K (.cell (.list ((SL2 ++ SL1).map Trow))) []) := by
  refine con_intro Tryd.func40 rfl rfl (Nat.le_of_ble_eq_true rfl) (fun c hc => R_ (E_ r_ (T_ (R_ (o_ r_ (bq_ r_ r_ b_ r_ r_ b_ (E_ r_ (T_ (ar_ (jq_ret1 rfl rfl [] rfl (fun K h => h)))))))))))
/-- Whether a text begins with another. -/
def begins (s t : ByteArray) : Bool := decide (t.size ≤ s.size) && decide (s.extract 0 t.size = t)
def rsign (s : ByteArray) : ByteArray := ((SL2 ++ SL1).find? (begins s)).getD ⟨#[]⟩
theorem rsign_c (s : ByteArray) (hs : s.size ≤ 1000000) : Con Tryd.prog 23 [Str s] [] (fun K => K (Str (rsign s)) []) := by
  refine con_intro Tryd.func23 rfl rfl (Nat.le_of_ble_eq_true rfl) (fun c hc => ?_)
  have hS := Signs_c
  have hr : rsign s = ((SL2 ++ SL1).find? (begins s)).getD ⟨#[]⟩ := rfl
  have hlen : (SL2 ++ SL1).length = 21 := rfl
  have hall : ∀ t ∈ SL2 ++ SL1, t.size ≤ 2 := by
    intro t ht
    rcases List.mem_append.1 ht with h | h <;> simp only [SL2, SL1, List.mem_cons, List.not_mem_nil, or_false] at h
    · rcases h with rfl | rfl | rfl | rfl | rfl <;> decide
    · rcases h with rfl | rfl | rfl | rfl | rfl | rfl | rfl | rfl | rfl | rfl | rfl | rfl | rfl | rfl | rfl | rfl <;> decide
  revert hS hr hlen hall
  generalize SL2 ++ SL1 = L
  intro hS hr hlen hall
  have eL : (L.map Trow).length = L.length := List.length_map _
  refine R_ (E_ r_ (T_ (R_ (o_ r_ (bm_ r_ (hS) (E_ r_ (T_ (am_ (R_ (E_ r_ (T_ (au_ (jc_loopS [] (fun k : Nat => k ≤ L.length ∧ ∀ j (h : j < L.length), j < k → begins s L[j] = false) (fun k => [(0, Str s), (3, .cell (.list (L.map Trow))), (4, In .i64 (k : Int))]) (fun _ => []) (fun k => L.length - k) 0 ⟨Nat.zero_le _, fun j _ h => by omega⟩ ?_ ?_ ?_)))))))))))))
  · exact sub_end
  · (repeat (first | exact True.intro | refine ⟨rfl, ?_⟩))
  · rintro k ⟨hk, hno⟩
    refine jc_reset [(0, Str s), (3, .cell (.list (L.map Trow))), (4, In .i64 (k : Int))] [] ?_ ⟨[], [], rfl⟩ ?_
    · (repeat (first | exact True.intro | refine ⟨rfl, ?_⟩))
    refine am_ (R_ (M_ r_ (M_ r_ (o_ r_ (br_ r_ (fun hlen => o_ r_ (bw_ r_ r_ (T_ (jc_condd rfl (fun hlt => ?_) (fun hge => ?_))))))))))
    · have hlt' : k < L.length := by omega
      have h2 := hall L[k] (List.getElem_mem hlt')
      by_cases hsz : (L[k].size : Int) ≤ (s.size : Int)
      · refine as_ (al_ (B_ (am_ (ao_ r_ r_ k_ k_ (yM_ r_ (aa_ (fun c => co_ r_ r_ p_) (yM_ r_ (yM_ r_ (aa_ (fun c => cc_ r_ r_ g_ r_ r_ b_ p_) (aa_ (fun c => cb_ r_ r_ p_) (aa_ (fun c => co_ r_ r_ p_) (aa_ (fun c => cn_ r_ r_ p_) (yM_ r_ (ab_ r_ u_ (fun c => bd_ r_ p_) (ab_ r_ u_ (fun c => bd_ r_ p_) ?_)))))))))))))))
        refine ab_ r_ u_ (fun c => bd_ r_ p_) (ab_ r_ u_ (fun c => cc_ r_ r_ g_ r_ r_ b_ p_) (ab_ r_ u_ (fun c => cb_ r_ r_ p_) (ab_ r_ u_ (fun c => co_ r_ r_ p_) (ab_ r_ u_ (fun c => ow_substrHi r_ r_ r_ g_ g_ p_) (ab_ r_ u_ (fun c => bd_ r_ p_) (ab_ r_ u_ (fun c => bd_ r_ p_) (ab_ r_ u_ (fun c => cc_ r_ r_ g_ r_ r_ b_ p_) (ab_ r_ u_ (fun c => cb_ r_ r_ p_) (ab_ r_ u_ (fun c => cs_ r_ r_ p_) ?_)))))))))
        refine aa_ (fun c => bp_ r_ u_ r_ p_) (ae_ (al_ (jc_condd rfl (fun hb => ?_) (fun hb => ?_))))
        · have hb' : begins s L[k] = true := by
            unfold begins
            rw [decide_eq_true (show L[k].size ≤ s.size by omega), decide_eq_true (show s.extract 0 L[k].size = L[k] from hb)]
            rfl
          have e : rsign s = L[k] := by
            rw [hr, (List.find?_eq_some_iff_getElem).2 ⟨hb', k, hlt', rfl, fun j hj => by rw [hno j (by omega) hj]; rfl⟩]
            rfl
          refine R_ (M_ r_ (M_ r_ (o_ r_ (cc_ r_ r_ g_ r_ r_ b_ (o_ r_ (cb_ r_ r_ (E_ r_ (T_ (ar_ (az_ (aw_ (aw_ (az_ (aw_ (jq_ret1 rfl rfl [] rfl (fun K h => by rw [e] at h; exact h))))))))))))))))
        · have hf : begins s L[k] = false := by
            unfold begins
            rw [decide_eq_false (show ¬ s.extract 0 L[k].size = L[k] from hb), Bool.and_false]
          refine as_ (ay_ (al_ (an_ (M_ r_ (o_ r_ (bj_ r_ r_ g_ (E_ r_ (ak_ ?_))))))))
          refine jq_againS (k + 1) ⟨by omega, fun j hj hjk => by
            by_cases e : j < k
            · exact hno j hj e
            · obtain rfl : j = k := by omega
              exact hf⟩ (by omega) ?_ ?_
          · exact sub_end
          · (repeat (first | exact True.intro | refine ⟨rfl, ?_⟩))
      · have hf : begins s L[k] = false := by
          unfold begins
          rw [decide_eq_false (show ¬ L[k].size ≤ s.size by omega), Bool.false_and]
        refine as_ (al_ (B_ (am_ (ao_ r_ r_ k_ k_ (yM_ r_ (aa_ (fun c => co_ r_ r_ p_) (yM_ r_ (yM_ r_ (aa_ (fun c => cc_ r_ r_ g_ r_ r_ b_ p_) (aa_ (fun c => cb_ r_ r_ p_) (aa_ (fun c => co_ r_ r_ p_) (aa_ (fun c => cn_ r_ r_ p_) (yM_ r_ (ac_ r_ w_ (ac_ r_ w_ ?_)))))))))))))))
        refine ac_ r_ w_ (ac_ r_ w_ (ac_ r_ w_ (ac_ r_ w_ (ac_ r_ w_ (ac_ r_ w_ (ac_ r_ w_ (ac_ r_ w_ (ac_ r_ w_ (ac_ r_ w_ (aa_ (fun c => bv_ r_ w_ r_ p_) (ae_ (al_ (jc_cond rfl (fun h => by cases h) (fun _ => as_ (ay_ ?_)))))))))))))))
        refine al_ (an_ (M_ r_ (o_ r_ (bj_ r_ r_ g_ (E_ r_ (ak_ ?_))))))
        refine jq_againS (k + 1) ⟨by omega, fun j hj hjk => by
          by_cases e : j < k
          · exact hno j hj e
          · obtain rfl : j = k := by omega
            exact hf⟩ (by omega) ?_ ?_
        · exact sub_end
        · (repeat (first | exact True.intro | refine ⟨rfl, ?_⟩))
    · have e : rsign s = ⟨#[]⟩ := by
        rw [hr, List.find?_eq_none.2 (fun x hx => by obtain ⟨j, hj, rfl⟩ := List.mem_iff_getElem.1 hx; rw [hno j hj (by omega)]; simp)]
        rfl
      refine av_ (ax_ (ax_ (ba_ (al_ (R_ (E_ r_ (T_ (ar_ (jq_ret1 rfl rfl [] rfl (fun K h => by rw [e] at h; exact h))))))))))
end Go.Proofs.YtlniadfidfmckaaDoor
end

section
namespace Go.Proofs.YtlniadfidfmckaaDoor
open Go.Vc
attribute [local irreducible] JL JC JQ OpWp Con ConN

theorem byteAt_getD (s : ByteArray) (n : Nat) : byteAt s n = (bytesI s).getD n 0 := by
  by_cases h : n < s.size
  · rw [← bytesI_get s n h, List.getD_eq_getElem?_getD, List.getElem?_eq_getElem (by simpa using h)]
    rfl
  · unfold byteAt
    rw [List.getD_eq_getElem?_getD, List.getD_eq_getElem?_getD, List.getElem?_eq_none (by simpa using h), List.getElem?_eq_none (by simpa using h)]
    rfl
theorem byteAt_extract (s : ByteArray) (a j : Nat) : byteAt (s.extract a s.size) j = byteAt s (a + j) := by
  rw [byteAt_getD, byteAt_getD, extract_bytes, List.take_of_length_le (by simp), List.getD_eq_getElem?_getD, List.getD_eq_getElem?_getD, List.getElem?_drop]
theorem extract_extract (s : ByteArray) (a n : Nat) (h : a + n ≤ s.size) : (s.extract a s.size).extract 0 n = s.extract a (a + n) := by
  apply bytesI_inj
  rw [extract_bytes, extract_bytes, extract_bytes, List.drop_zero, List.take_take]
  congr 1
  omega
theorem begins_iff {s t : ByteArray} : begins s t = true ↔ t.size ≤ s.size ∧ s.extract 0 t.size = t := by simp [begins]
theorem SL2_size : ∀ t ∈ SL2, t.size = 2 := by decide
theorem SL1_size : ∀ t ∈ SL1, t.size = 1 := by decide
theorem SG_iff1 : ∀ t ∈ SG, (hasS SL2 t || hasS SL1 t) = true := by decide
theorem SG_iff2 : ∀ t ∈ SL2, hasS SG t = true := by decide
theorem SG_iff3 : ∀ t ∈ SL1, hasS SG t = true := by decide
theorem SG_iff (t : ByteArray) : t ∈ SG ↔ t ∈ SL2 ∨ t ∈ SL1 := by
  constructor
  · intro h
    rcases Bool.or_eq_true_iff.1 (SG_iff1 t h) with h | h
    · exact .inl (hasS_iff.1 h)
    · exact .inr (hasS_iff.1 h)
  · rintro (h | h)
    · exact hasS_iff.1 (SG_iff2 t h)
    · exact hasS_iff.1 (SG_iff3 t h)
theorem rsign_eq (s : ByteArray) : rsign s = s.extract 0 (signLen s) := by
  unfold rsign signLen
  rw [List.find?_append]
  cases h2 : SL2.find? (begins s) with
  | some t =>
    have ht := List.mem_of_find?_eq_some h2
    have hb := begins_iff.1 (List.find?_some h2)
    rw [SL2_size t ht] at hb
    rw [if_pos ⟨hb.1, hasS_iff.2 ((SG_iff _).2 (.inl (by rw [hb.2]; exact ht)))⟩]
    exact hb.2.symm
  | none =>
    have hn2 : ¬ (2 ≤ s.size ∧ hasS SG (s.extract 0 2) = true) := by
      rintro ⟨a, b⟩
      rcases (SG_iff _).1 (hasS_iff.1 b) with h | h
      · have := List.find?_eq_none.1 h2 _ h
        exact this (begins_iff.2 ⟨by rw [SL2_size _ h]; exact a, by rw [SL2_size _ h]⟩)
      · have := SL1_size _ h
        rw [extract_size _ _ _ a] at this
        omega
    rw [if_neg hn2]
    cases h1 : SL1.find? (begins s) with
    | some t =>
      have ht := List.mem_of_find?_eq_some h1
      have hb := begins_iff.1 (List.find?_some h1)
      rw [SL1_size t ht] at hb
      rw [if_pos ⟨hb.1, hasS_iff.2 ((SG_iff _).2 (.inr (by rw [hb.2]; exact ht)))⟩]
      exact hb.2.symm
    | none =>
      have hn1 : ¬ (1 ≤ s.size ∧ hasS SG (s.extract 0 1) = true) := by
        rintro ⟨a, b⟩
        rcases (SG_iff _).1 (hasS_iff.1 b) with h | h
        · have := SL2_size _ h
          rw [extract_size _ _ _ a] at this
          omega
        · have := List.find?_eq_none.1 h1 _ h
          exact this (begins_iff.2 ⟨by rw [SL1_size _ h]; exact a, by rw [SL1_size _ h]⟩)
      rw [if_neg hn1]
      show (⟨#[]⟩ : ByteArray) = s.extract 0 0
      exact ((empty_iff _).2 (by rw [extract_size _ _ _ (Nat.zero_le _)])).symm
end Go.Proofs.YtlniadfidfmckaaDoor
end

section
namespace Go.Proofs.YtlniadfidfmckaaDoor
open Go.Vc
attribute [local irreducible] JL JC JQ OpWp Con ConN
attribute [local irreducible] nextT scan byteAt rsign runLen nameLen signLen numVal

theorem rScan_c (s : ByteArray) : Con Tryd.prog 12 [Str s] [] (fun K => K (.tup [.cell (.list ((scan s).1.map Tok.row)), In .i64 (scan s).2.1, In .i64 (scan s).2.2]) []) := by
  refine con_intro Tryd.func12 rfl rfl (Nat.le_of_ble_eq_true rfl) (fun c hc => R_ (E_ r_ (E_ r_ (E_ r_ (T_ (am_ (R_ (M_ r_ (o_ r_ (co_ r_ r_ (o_ r_ (bz_ r_ r_ (T_ (jc_condd rfl (fun hn => ?_) (fun hn => ?_)))))))))))))))
  · refine R_ (E_ r_ (E_ r_ (E_ r_ (T_ (ar_ (aw_ ?_))))))
    have e : scan s = ([], 0, 4) := by unfold scan; rw [if_pos (by omega)]
    exact jq_ownNil 63 4 g_ (jq_freeze 2 0 rfl rfl (by rw [hc]; simp [hb]) (jq_ret3 rfl rfl rfl rfl (fun K h => by rw [e] at h; exact h) sub_end))
  · have hsz : s.size ≤ 8192 := by omega
    refine as_ (al_ (R_ (E_ r_ (T_ (R_ (E_ r_ (T_ (am_ (R_ (E_ r_ (T_ (au_ (jc_ownNil 63 4 g_ ?_)))))))))))))
    refine jc_loopS (ι := Nat × Int × Value × List Tok) [] (fun i => scanGo s i.1 i.2.1 i.2.2.2 = scan s ∧ i.1 ≤ s.size ∧ 1 ≤ i.2.1 ∧ i.2.1 ≤ 1 + i.1 ∧ i.2.2.2.length ≤ i.1) (fun i => [(0, Str s), (2, S.cell (C.val (.slice none 0 0))), (5, .cell (.val i.2.2.1)), (6, In .i64 i.2.1), (7, In .i64 (i.1 : Int))]) (fun i => [.own i.2.2.1 63 4 (i.2.2.2.map Tok.row)]) (fun i => s.size - i.1) (0, 1, .slice none 0 0, []) ⟨by unfold scan; rw [if_neg g_], by omega, by dsimp only; omega, by dsimp only; omega, by simp⟩ ?_ ?_ ?_
    · exact bc_ 0 r_ sub_end
    · (repeat (first | exact True.intro | refine ⟨rfl, ?_⟩))
    · rintro ⟨k, line, v, out⟩ ⟨hsc, hk, hl1, hl2, hlen⟩
      dsimp only at hsc hk hl1 hl2 hlen ⊢
      refine jc_reset [(0, Str s), (2, S.cell (C.val (.slice none 0 0))), (5, .cell (.val v)), (6, In .i64 line), (7, In .i64 (k : Int))] [.own v 63 4 (out.map Tok.row)] ?_ ⟨[0], [], rfl⟩ ?_
      · (repeat (first | exact True.intro | refine ⟨rfl, ?_⟩))
      refine am_ (R_ (M_ r_ (M_ r_ (o_ r_ (co_ r_ r_ (o_ r_ (bw_ r_ r_ (T_ (jc_condd rfl (fun hlt => ?_) (fun hge => ?_))))))))))
      · have hlt' : k < s.size := by omega
        rw [scanGo, dif_pos hlt'] at hsc
        have hx : (s.extract k s.size).size = s.size - k := by rw [extract_size _ _ _ (Nat.le_refl _)]
        have hnl := nextT_le (s.extract k s.size)
        refine as_ (al_ (au_ (R_ (M_ r_ (M_ r_ (o_ r_ (ow_indexStr r_ r_ r_ g_ g_ (E_ r_ (T_ (R_ (M_ r_ (E_ r_ (T_ (B_ (R_ (M_ r_ ?_))))))))))))))))
        refine o_ r_ (bn_ r_ r_ (E_ r_ (T_ (jc_condd rfl (fun h10 => ?_) (fun h10 => ?_)))))
        · rw [if_pos (show byteAt s k = 10 from h10)] at hsc
          refine R_ (M_ r_ (o_ r_ (bj_ r_ r_ g_ (E_ r_ (T_ (R_ (M_ r_ (o_ r_ (bj_ r_ r_ g_ (E_ r_ (T_ (av_ (bb_ r_ (ax_ (ba_ (jq_againS (i := (k, line, v, out)) (k + 1, line + 1, v, out) ⟨hsc, by dsimp only; omega, by dsimp only; omega, by dsimp only; omega, by dsimp only; omega⟩ (by dsimp only; omega) ?_ ?_))))))))))))))))
          · exact bc_ 0 r_ sub_end
          · (repeat (first | exact True.intro | refine ⟨rfl, ?_⟩))
        · rw [if_neg (show ¬ byteAt s k = 10 from h10)] at hsc
          by_cases hw : byteAt s k = 32 ∨ byteAt s k = 9
          · rw [if_pos hw] at hsc
            have hw' : (decide (byteAt s (k : Int).toNat = 32) || decide (byteAt s (k : Int).toNat = 9)) = true := by simpa using hw
            by_cases h32 : byteAt s (k : Int).toNat = 32
            · refine R_ (M_ r_ (o_ r_ (bn_ r_ r_ (M_ r_ (ai_ r_ u_ b_ (ai_ r_ u_ b_ (o_ r_ (bp_ r_ u_ r_ (E_ r_ (T_ (jc_cond rfl (fun _ => R_ (M_ r_ (o_ r_ (bj_ r_ r_ g_ (E_ r_ (T_ (av_ ?_))))))) (fun h => by cases h))))))))))))
              refine bb_ r_ (ax_ (ba_ (jq_againS (i := (k, line, v, out)) (k + 1, line, v, out) ⟨hsc, by dsimp only; omega, by dsimp only; omega, by dsimp only; omega, by dsimp only; omega⟩ (by dsimp only; omega) ?_ ?_)))
              · exact bc_ 0 r_ sub_end
              · (repeat (first | exact True.intro | refine ⟨rfl, ?_⟩))
            · have h9 : byteAt s (k : Int).toNat = 9 := hw.resolve_left h32
              refine R_ (M_ r_ (o_ r_ (bn_ r_ r_ (M_ r_ (ah_ r_ w_ b_ (bd_ r_ (ah_ r_ w_ b_ (bn_ r_ r_ (o_ r_ (bv_ r_ w_ r_ (E_ r_ (T_ (jc_condd rfl (fun _ => R_ (M_ r_ (o_ r_ (bj_ r_ r_ g_ (E_ r_ (T_ (av_ ?_))))))) (fun h => absurd h9 h))))))))))))))
              refine bb_ r_ (ax_ (ba_ (jq_againS (i := (k, line, v, out)) (k + 1, line, v, out) ⟨hsc, by dsimp only; omega, by dsimp only; omega, by dsimp only; omega, by dsimp only; omega⟩ (by dsimp only; omega) ?_ ?_)))
              · exact bc_ 0 r_ sub_end
              · (repeat (first | exact True.intro | refine ⟨rfl, ?_⟩))
          · rw [if_neg hw] at hsc
            have h32 : ¬ byteAt s (k : Int).toNat = 32 := fun h => hw (.inl h)
            have h9 : ¬ byteAt s (k : Int).toNat = 9 := fun h => hw (.inr h)
            refine R_ (M_ r_ (o_ r_ (bn_ r_ r_ (M_ r_ (ah_ r_ w_ b_ (bd_ r_ (ah_ r_ w_ b_ (bn_ r_ r_ (o_ r_ (bv_ r_ w_ r_ (E_ r_ (T_ (jc_condd rfl (fun h => absurd h h9) (fun _ => jc_reset [(0, Str s), (2, S.cell (C.val (.slice none 0 0))), (5, .cell (.val v)), (6, In .i64 line), (7, In .i64 (k : Int)), (8, In .u8 (byteAt s k)), (9, In .i64 (k : Int))] [.own v 63 4 (out.map Tok.row)] ?_ ⟨[0], [], rfl⟩ ?_))))))))))))))
            · (repeat (first | exact True.intro | refine ⟨rfl, ?_⟩))
            refine R_ (M_ r_ (o_ r_ (bm_ r_ (rletter_c _) (E_ r_ (T_ (jc_cond rfl (fun hL => ?_) (fun hL => ?_)))))))
            · refine B_ (jc_loopS [] (fun j : Nat => k + j ≤ s.size ∧ ∀ i, i < j → isLD (byteAt s (k + i)) = true) (fun j => [(0, Str s), (2, S.cell (C.val (.slice none 0 0))), (5, .cell (.val v)), (6, In .i64 line), (7, In .i64 (k : Int)), (9, In .i64 ((k + j : Nat) : Int))]) (fun _ => [.own v 63 4 (out.map Tok.row)]) (fun j => s.size - (k + j)) 0 ⟨by omega, fun j h => by omega⟩ ?_ ?_ ?_)
              · exact bc_ 0 r_ sub_end
              · (repeat (first | exact True.intro | refine ⟨rfl, ?_⟩))
              · rintro j ⟨hkj, hall⟩
                refine jc_reset [(0, Str s), (2, S.cell (C.val (.slice none 0 0))), (5, .cell (.val v)), (6, In .i64 line), (7, In .i64 (k : Int)), (9, In .i64 ((k + j : Nat) : Int))] [.own v 63 4 (out.map Tok.row)] ?_ ⟨[0], [], rfl⟩ ?_
                · (repeat (first | exact True.intro | refine ⟨rfl, ?_⟩))
                by_cases hlt2 : ((k + j : Nat) : Int) < (s.size : Int)
                · cases hl0 : isL (byteAt s ((k + j : Nat) : Int).toNat) with
                  | true =>
                    refine am_ (R_ (M_ r_ (M_ r_ (o_ r_ (co_ r_ r_ (o_ r_ (bw_ r_ r_ (M_ r_ (ah_ r_ u_ b_ (bd_ r_ (ah_ r_ u_ b_ (bd_ r_ (ah_ r_ u_ b_ (ow_indexStr r_ r_ r_ g_ g_ (ah_ r_ u_ b_ (bm_ r_ (rletter_c _) (ah_ r_ u_ b_ (bd_ r_ (ai_ r_ h_ b_ (ai_ r_ h_ b_ (ai_ r_ h_ b_ (ai_ r_ h_ b_ ?_))))))))))))))))))))))
                    refine ah_ r_ u_ b_ (bp_ r_ h_ r_ (o_ r_ (bp_ r_ u_ r_ (T_ (jc_cond rfl (fun _ => as_ (al_ (au_ (an_ (M_ r_ (o_ r_ (bj_ r_ r_ g_ (E_ r_ (ak_ (ay_ (jq_againS (j + 1) ⟨by omega, fun i hi => ?_⟩ g_ ?_ ?_))))))))))) (fun h => by cases h))))))
                    · by_cases hij : i < j
                      · exact hall i hij
                      · obtain rfl : i = j := by omega
                        unfold isLD
                        rw [show isL (byteAt s (k + i)) = true from hl0]; rfl
                    · exact bc_ 0 r_ sub_end
                    · (repeat (first | exact True.intro | refine ⟨rfl, ?_⟩))
                  | false =>
                    refine am_ (R_ (M_ r_ (M_ r_ (o_ r_ (co_ r_ r_ (o_ r_ (bw_ r_ r_ (M_ r_ (ah_ r_ u_ b_ (bd_ r_ (ah_ r_ u_ b_ (bd_ r_ (ah_ r_ u_ b_ (ow_indexStr r_ r_ r_ g_ g_ (ah_ r_ u_ b_ (bm_ r_ (rletter_c _) (ah_ r_ u_ b_ (bd_ r_ (ah_ r_ h_ b_ (bd_ r_ (ah_ r_ h_ b_ (bd_ r_ (ah_ r_ h_ b_ (ow_indexStr r_ r_ r_ g_ g_ (ah_ r_ h_ b_ (bm_ r_ (rdigit_c _) ?_))))))))))))))))))))))))))
                    refine ah_ r_ u_ b_ (bv_ r_ h_ r_ (o_ r_ (bp_ r_ u_ r_ (T_ (jc_cond rfl (fun hb => ?_) (fun hb => ?_))))))
                    · refine as_ (al_ (au_ (an_ (M_ r_ (o_ r_ (bj_ r_ r_ g_ (E_ r_ (ak_ (ay_ (jq_againS (j + 1) ⟨by omega, fun i hi => ?_⟩ g_ ?_ ?_))))))))))
                      · by_cases hij : i < j
                        · exact hall i hij
                        · obtain rfl : i = j := by omega
                          unfold isLD
                          rw [show isD (byteAt s (k + i)) = true from hb, Bool.or_true]
                      · exact bc_ 0 r_ sub_end
                      · (repeat (first | exact True.intro | refine ⟨rfl, ?_⟩))
                    · have hf : isLD (byteAt s (k + j)) = false := by
                        unfold isLD
                        rw [show isL (byteAt s (k + j)) = false from hl0, show isD (byteAt s (k + j)) = false from hb]
                        rfl
                      have hjp : 0 < j := by
                        rcases Nat.eq_zero_or_pos j with h | h
                        · subst h
                          exact absurd (show isL (byteAt s k) = true from hL) (by rw [show isL (byteAt s k) = false from hl0]; simp)
                        · exact h
                      have hj : runLen isLD (s.extract k s.size) = j := runLen_eq (fun i hi => by rw [byteAt_extract]; exact hall i hi) (by omega) (fun _ => by rw [byteAt_extract]; exact hf)
                      have hnl0 : nameLen (s.extract k s.size) = j := by
                        unfold nameLen
                        rw [if_pos ⟨by omega, by rw [byteAt_extract, Nat.add_zero]; exact hL⟩]
                        exact hj
                      have hnx : nextT (s.extract k s.size) = if 12 < j then ((0, 0, ⟨#[]⟩), 0) else ((1, 0, s.extract k (k + j)), j) := by
                        unfold nextT
                        rw [hnl0, if_pos (by omega), extract_extract s k j (by omega)]
                      have hsub : ((k + j : Nat) : Int) - (k : Int) = (j : Int) := by omega
                      refine av_ (ax_ (ax_ (ba_ (al_ (am_ (R_ (M_ r_ (M_ r_ (o_ r_ (cg_ r_ r_ g_ (o_ r_ (bz_ r_ r_ (T_ (jc_condd rfl (fun h12 => ?_) (fun h12 => ?_)))))))))))))))
                      · rw [if_pos (by omega)] at hnx
                        rw [hnx] at hsc
                        refine R_ (M_ r_ (E_ r_ (E_ r_ (E_ r_ (T_ (ar_ (aw_ (az_ (aw_ (az_ (aw_ (az_ (aw_ ?_)))))))))))))
                        have e : scan s = ([], line, 1) := by rw [← hsc, dif_pos rfl]
                        exact jq_ownNil 63 4 g_ (jq_freeze 2 0 rfl rfl (by rw [hc]; simp [Go.Vc.hb]) (jq_ret3 rfl rfl rfl rfl (fun K h => by rw [e] at h; exact h) sub_end))
                      · rw [if_neg (by omega)] at hnx
                        rw [hnx] at hsc
                        dsimp only at hsc
                        rw [dif_neg (by omega)] at hsc
                        refine as_ (al_ (an_ (M_ r_ (M_ r_ (M_ r_ (M_ r_ (M_ r_ (o_ r_ (ow_substr r_ r_ r_ r_ g_ g_ g_ (o_ r_ (bu_ r_ r_ r_ r_ r_ (o_ r_ (bq_ r_ r_ b_ r_ r_ b_ ?_)))))))))))))
                        refine o_ r_ (ow_append1 0 ((⟨1, 0, line, s.extract k (k + j)⟩ : Tok)) rfl rfl rfl rfl rfl rfl rfl (fun _ => rfl) (by show (_ + _) * 40 ≤ _; first | omega | (simp only [List.length_append]; omega)) (by first | omega | (simp only [List.length_append]; omega)) (fun v1 hv1 => E_ r_ (ak_ (ay_ (al_ (an_ (M_ r_ (E_ r_ (ak_ (ay_ ?_))))))))))
                        refine jq_againS (i := (k, line, v, out)) (k + j, line, v1, out ++ [(⟨1, 0, line, s.extract k (k + j)⟩ : Tok)]) ⟨hsc, by dsimp only; omega, hl1, by dsimp only; omega, by dsimp only; rw [List.length_append, List.length_singleton]; omega⟩ (by dsimp only; omega) ?_ ?_
                        · exact bc_ 0 r_ sub_end
                        · (repeat (first | exact True.intro | refine ⟨rfl, ?_⟩))
                · refine am_ (R_ (M_ r_ (M_ r_ (o_ r_ (co_ r_ r_ (o_ r_ (bw_ r_ r_ (M_ r_ (ai_ r_ w_ b_ (ai_ r_ w_ b_ (ai_ r_ w_ b_ (ai_ r_ w_ b_ (ai_ r_ w_ b_ (aj_ r_ b_ (aj_ r_ b_ (aj_ r_ b_ (aj_ r_ b_ ?_)))))))))))))))))
                  refine ai_ r_ w_ b_ (o_ r_ (bv_ r_ w_ r_ (T_ (jc_cond rfl (fun h => by cases h) (fun _ => ?_)))))
                  have hjp : 0 < j := by omega
                  have hj : runLen isLD (s.extract k s.size) = j := runLen_eq (fun i hi => by rw [byteAt_extract]; exact hall i hi) (by omega) (fun h => by omega)
                  have hnl0 : nameLen (s.extract k s.size) = j := by
                    unfold nameLen
                    rw [if_pos ⟨by omega, by rw [byteAt_extract, Nat.add_zero]; exact hL⟩]
                    exact hj
                  have hnx : nextT (s.extract k s.size) = if 12 < j then ((0, 0, ⟨#[]⟩), 0) else ((1, 0, s.extract k (k + j)), j) := by
                    unfold nextT
                    rw [hnl0, if_pos (by omega), extract_extract s k j (by omega)]
                  have hsub : ((k + j : Nat) : Int) - (k : Int) = (j : Int) := by omega
                  refine av_ (ax_ (ax_ (ba_ (al_ (am_ (R_ (M_ r_ (M_ r_ (o_ r_ (cg_ r_ r_ g_ (o_ r_ (bz_ r_ r_ (T_ (jc_condd rfl (fun h12 => ?_) (fun h12 => ?_)))))))))))))))
                  · rw [if_pos (by omega)] at hnx
                    rw [hnx] at hsc
                    refine R_ (M_ r_ (E_ r_ (E_ r_ (E_ r_ (T_ (ar_ (aw_ (az_ (aw_ (az_ (aw_ (az_ (aw_ ?_)))))))))))))
                    have e : scan s = ([], line, 1) := by rw [← hsc, dif_pos rfl]
                    exact jq_ownNil 63 4 g_ (jq_freeze 2 0 rfl rfl (by rw [hc]; simp [Go.Vc.hb]) (jq_ret3 rfl rfl rfl rfl (fun K h => by rw [e] at h; exact h) sub_end))
                  · rw [if_neg (by omega)] at hnx
                    rw [hnx] at hsc
                    dsimp only at hsc
                    rw [dif_neg (by omega)] at hsc
                    refine as_ (al_ (an_ (M_ r_ (M_ r_ (M_ r_ (M_ r_ (M_ r_ (o_ r_ (ow_substr r_ r_ r_ r_ g_ g_ g_ (o_ r_ (bu_ r_ r_ r_ r_ r_ (o_ r_ (bq_ r_ r_ b_ r_ r_ b_ ?_)))))))))))))
                    refine o_ r_ (ow_append1 0 ((⟨1, 0, line, s.extract k (k + j)⟩ : Tok)) rfl rfl rfl rfl rfl rfl rfl (fun _ => rfl) (by show (_ + _) * 40 ≤ _; first | omega | (simp only [List.length_append]; omega)) (by first | omega | (simp only [List.length_append]; omega)) (fun v1 hv1 => E_ r_ (ak_ (ay_ (al_ (an_ (M_ r_ (E_ r_ (ak_ (ay_ ?_))))))))))
                    refine jq_againS (i := (k, line, v, out)) (k + j, line, v1, out ++ [(⟨1, 0, line, s.extract k (k + j)⟩ : Tok)]) ⟨hsc, by dsimp only; omega, hl1, by dsimp only; omega, by dsimp only; rw [List.length_append, List.length_singleton]; omega⟩ (by dsimp only; omega) ?_ ?_
                    · exact bc_ 0 r_ sub_end
                    · (repeat (first | exact True.intro | refine ⟨rfl, ?_⟩))
            · refine R_ (M_ r_ (o_ r_ (bm_ r_ (rdigit_c _) (E_ r_ (T_ (jc_cond rfl (fun hD => ?_) (fun hD => ?_)))))))
              · have hn0 : nameLen (s.extract k s.size) = 0 := by
                  unfold nameLen
                  rw [if_neg]
                  rintro ⟨_, h⟩
                  rw [byteAt_extract, Nat.add_zero, hL] at h
                  cases h
                refine B_ (jc_loopS [] (fun j : Nat => k + j ≤ s.size ∧ ∀ i, i < j → isD (byteAt s (k + i)) = true) (fun j => [(0, Str s), (2, S.cell (C.val (.slice none 0 0))), (5, .cell (.val v)), (6, In .i64 line), (7, In .i64 (k : Int)), (9, In .i64 ((k + j : Nat) : Int))]) (fun _ => [.own v 63 4 (out.map Tok.row)]) (fun j => s.size - (k + j)) 0 ⟨by omega, fun j h => by omega⟩ ?_ ?_ ?_)
                · exact bc_ 0 r_ sub_end
                · (repeat (first | exact True.intro | refine ⟨rfl, ?_⟩))
                · rintro j ⟨hkj, hall⟩
                  refine jc_reset [(0, Str s), (2, S.cell (C.val (.slice none 0 0))), (5, .cell (.val v)), (6, In .i64 line), (7, In .i64 (k : Int)), (9, In .i64 ((k + j : Nat) : Int))] [.own v 63 4 (out.map Tok.row)] ?_ ⟨[0], [], rfl⟩ ?_
                  · (repeat (first | exact True.intro | refine ⟨rfl, ?_⟩))
                  by_cases hlt2 : ((k + j : Nat) : Int) < (s.size : Int)
                  · refine am_ (R_ (M_ r_ (M_ r_ (o_ r_ (co_ r_ r_ (o_ r_ (bw_ r_ r_ (M_ r_ (ah_ r_ u_ b_ (bd_ r_ (ah_ r_ u_ b_ (bd_ r_ (ah_ r_ u_ b_ (ow_indexStr r_ r_ r_ g_ g_ (ah_ r_ u_ b_ (bm_ r_ (rdigit_c _) (o_ r_ (bp_ r_ u_ r_ (T_ (jc_cond rfl (fun hb => ?_) (fun hb => ?_)))))))))))))))))))))
                    · refine as_ (al_ (au_ (an_ (M_ r_ (o_ r_ (bj_ r_ r_ g_ (E_ r_ (ak_ (ay_ (jq_againS (j + 1) ⟨by omega, fun i hi => ?_⟩ g_ ?_ ?_))))))))))
                      · by_cases hij : i < j
                        · exact hall i hij
                        · obtain rfl : i = j := by omega
                          exact hb
                      · exact bc_ 0 r_ sub_end
                      · (repeat (first | exact True.intro | refine ⟨rfl, ?_⟩))
                    · have hjp : 0 < j := by
                        rcases Nat.eq_zero_or_pos j with h | h
                        · subst h
                          exact absurd (show isD (byteAt s k) = true from hD) (by rw [show isD (byteAt s k) = false from hb]; simp)
                        · exact h
                      have hj : runLen isD (s.extract k s.size) = j := runLen_eq (fun i hi => by rw [byteAt_extract]; exact hall i hi) (by omega) (fun _ => by rw [byteAt_extract]; exact hb)
                      have hdig := run_dig (s.extract k s.size)
                      rw [hj, extract_extract s k j (by omega)] at hdig
                      have hzz : (s.extract k (k + j)).size ≤ 1000000 := by rw [extract_size _ _ _ (by omega)]; omega
                      have hv := value_c (s.extract k (k + j)) hzz hdig
                      have hvb := numVal_bd _ hdig
                      have hnx : nextT (s.extract k s.size) = if 2147483647 < numVal (bytesI (s.extract k (k + j))) then ((0, 0, ⟨#[]⟩), 0) else ((2, numVal (bytesI (s.extract k (k + j))), ⟨#[]⟩), j) := by
                        unfold nextT
                        rw [if_neg (by omega), if_pos (by omega), hj, extract_extract s k j (by omega)]
                      by_cases hbig : 2147483648 ≤ numVal (bytesI (s.extract k (k + j)))
                      · rw [if_pos hbig] at hv
                        rw [if_pos (by omega)] at hnx
                        rw [hnx] at hsc
                        refine av_ (ax_ (ax_ (ba_ (al_ (R_ (M_ r_ (M_ r_ (M_ r_ (o_ r_ (ow_substr r_ r_ r_ r_ g_ g_ g_ (o_ r_ (bm_ r_ (hv) (E_ r_ (T_ (am_ (R_ (M_ r_ ?_)))))))))))))))))
                        refine o_ r_ (bw_ r_ r_ (T_ (jc_condd rfl (fun _ => R_ (M_ r_ (E_ r_ (E_ r_ (E_ r_ (T_ (ar_ (aw_ (az_ (aw_ (az_ (aw_ (az_ ?_))))))))))))) (fun h => absurd (by decide) h))))
                        refine aw_ ?_
                        have e : scan s = ([], line, 1) := by rw [← hsc, dif_pos rfl]
                        exact jq_ownNil 63 4 g_ (jq_freeze 2 0 rfl rfl (by rw [hc]; simp [Go.Vc.hb]) (jq_ret3 rfl rfl rfl rfl (fun K h => by rw [e] at h; exact h) sub_end))
                      · rw [if_neg hbig] at hv
                        rw [if_neg (by omega)] at hnx
                        rw [hnx] at hsc
                        dsimp only at hsc
                        rw [dif_neg (by omega)] at hsc
                        refine av_ (ax_ (ax_ (ba_ (al_ (R_ (M_ r_ (M_ r_ (M_ r_ (o_ r_ (ow_substr r_ r_ r_ r_ g_ g_ g_ (o_ r_ (bm_ r_ (hv) (E_ r_ (T_ (am_ (R_ (M_ r_ ?_)))))))))))))))))
                        refine o_ r_ (bw_ r_ r_ (T_ (jc_condd rfl (fun h => absurd h g_) (fun _ => as_ (al_ (an_ (M_ r_ (M_ r_ (M_ r_ (o_ r_ (bu_ r_ r_ r_ r_ r_ (o_ r_ (bq_ r_ r_ b_ r_ r_ b_ ?_)))))))))))))
                        refine o_ r_ (ow_append1 0 ((⟨2, numVal (bytesI (s.extract k (k + j))), line, ⟨#[]⟩⟩ : Tok)) rfl rfl rfl rfl rfl rfl rfl (fun _ => rfl) (by show (_ + _) * 40 ≤ _; first | omega | (simp only [List.length_append]; omega)) (by first | omega | (simp only [List.length_append]; omega)) (fun v1 hv1 => E_ r_ (ak_ (ay_ (al_ (an_ (M_ r_ (E_ r_ (ak_ (ay_ ?_))))))))))
                        refine jq_againS (i := (k, line, v, out)) (k + j, line, v1, out ++ [(⟨2, numVal (bytesI (s.extract k (k + j))), line, ⟨#[]⟩⟩ : Tok)]) ⟨hsc, by dsimp only; omega, hl1, by dsimp only; omega, by dsimp only; rw [List.length_append, List.length_singleton]; omega⟩ (by dsimp only; omega) ?_ ?_
                        · exact bc_ 0 r_ sub_end
                        · (repeat (first | exact True.intro | refine ⟨rfl, ?_⟩))
                  · refine am_ (R_ (M_ r_ (M_ r_ (o_ r_ (co_ r_ r_ (o_ r_ (bw_ r_ r_ (M_ r_ (ai_ r_ w_ b_ (ai_ r_ w_ b_ (ai_ r_ w_ b_ (ai_ r_ w_ b_ (o_ r_ (bv_ r_ w_ r_ (T_ (jc_cond rfl (fun h => by cases h) (fun _ => ?_)))))))))))))))))
                    have hjp : 0 < j := by omega
                    have hj : runLen isD (s.extract k s.size) = j := runLen_eq (fun i hi => by rw [byteAt_extract]; exact hall i hi) (by omega) (fun h => by omega)
                    have hdig := run_dig (s.extract k s.size)
                    rw [hj, extract_extract s k j (by omega)] at hdig
                    have hzz : (s.extract k (k + j)).size ≤ 1000000 := by rw [extract_size _ _ _ (by omega)]; omega
                    have hv := value_c (s.extract k (k + j)) hzz hdig
                    have hvb := numVal_bd _ hdig
                    have hnx : nextT (s.extract k s.size) = if 2147483647 < numVal (bytesI (s.extract k (k + j))) then ((0, 0, ⟨#[]⟩), 0) else ((2, numVal (bytesI (s.extract k (k + j))), ⟨#[]⟩), j) := by
                      unfold nextT
                      rw [if_neg (by omega), if_pos (by omega), hj, extract_extract s k j (by omega)]
                    by_cases hbig : 2147483648 ≤ numVal (bytesI (s.extract k (k + j)))
                    · rw [if_pos hbig] at hv
                      rw [if_pos (by omega)] at hnx
                      rw [hnx] at hsc
                      refine av_ (ax_ (ax_ (ba_ (al_ (R_ (M_ r_ (M_ r_ (M_ r_ (o_ r_ (ow_substr r_ r_ r_ r_ g_ g_ g_ (o_ r_ (bm_ r_ (hv) (E_ r_ (T_ (am_ (R_ (M_ r_ ?_)))))))))))))))))
                      refine o_ r_ (bw_ r_ r_ (T_ (jc_condd rfl (fun _ => R_ (M_ r_ (E_ r_ (E_ r_ (E_ r_ (T_ (ar_ (aw_ (az_ (aw_ (az_ (aw_ (az_ ?_))))))))))))) (fun h => absurd (by decide) h))))
                      refine aw_ ?_
                      have e : scan s = ([], line, 1) := by rw [← hsc, dif_pos rfl]
                      exact jq_ownNil 63 4 g_ (jq_freeze 2 0 rfl rfl (by rw [hc]; simp [Go.Vc.hb]) (jq_ret3 rfl rfl rfl rfl (fun K h => by rw [e] at h; exact h) sub_end))
                    · rw [if_neg hbig] at hv
                      rw [if_neg (by omega)] at hnx
                      rw [hnx] at hsc
                      dsimp only at hsc
                      rw [dif_neg (by omega)] at hsc
                      refine av_ (ax_ (ax_ (ba_ (al_ (R_ (M_ r_ (M_ r_ (M_ r_ (o_ r_ (ow_substr r_ r_ r_ r_ g_ g_ g_ (o_ r_ (bm_ r_ (hv) (E_ r_ (T_ (am_ (R_ (M_ r_ ?_)))))))))))))))))
                      refine o_ r_ (bw_ r_ r_ (T_ (jc_condd rfl (fun h => absurd h g_) (fun _ => as_ (al_ (an_ (M_ r_ (M_ r_ (M_ r_ (o_ r_ (bu_ r_ r_ r_ r_ r_ (o_ r_ (bq_ r_ r_ b_ r_ r_ b_ ?_)))))))))))))
                      refine o_ r_ (ow_append1 0 ((⟨2, numVal (bytesI (s.extract k (k + j))), line, ⟨#[]⟩⟩ : Tok)) rfl rfl rfl rfl rfl rfl rfl (fun _ => rfl) (by show (_ + _) * 40 ≤ _; first | omega | (simp only [List.length_append]; omega)) (by first | omega | (simp only [List.length_append]; omega)) (fun v1 hv1 => E_ r_ (ak_ (ay_ (al_ (an_ (M_ r_ (E_ r_ (ak_ (ay_ ?_))))))))))
                      refine jq_againS (i := (k, line, v, out)) (k + j, line, v1, out ++ [(⟨2, numVal (bytesI (s.extract k (k + j))), line, ⟨#[]⟩⟩ : Tok)]) ⟨hsc, by dsimp only; omega, hl1, by dsimp only; omega, by dsimp only; rw [List.length_append, List.length_singleton]; omega⟩ (by dsimp only; omega) ?_ ?_
                      · exact bc_ 0 r_ sub_end
                      · (repeat (first | exact True.intro | refine ⟨rfl, ?_⟩))
              · have hn0 : nameLen (s.extract k s.size) = 0 := by
                  unfold nameLen
                  rw [if_neg]
                  rintro ⟨_, h⟩
                  rw [byteAt_extract, Nat.add_zero, hL] at h
                  cases h
                have hr0 : runLen isD (s.extract k s.size) = 0 := runLen_eq (fun j hj => by omega) (Nat.zero_le _) (fun _ => by rw [byteAt_extract, Nat.add_zero]; exact hD)
                have hnx : nextT (s.extract k s.size) = ((3, 0, (s.extract k s.size).extract 0 (signLen (s.extract k s.size))), signLen (s.extract k s.size)) := by
                  unfold nextT
                  rw [if_neg (by omega), if_neg (by omega)]
                have hxs : (s.extract k s.size).size ≤ 1000000 := by omega
                refine R_ (M_ r_ (M_ r_ (o_ r_ (ow_substrLo r_ r_ r_ g_ g_ (o_ r_ (bm_ r_ (rsign_c _ hxs) (E_ r_ (T_ (am_ (R_ (M_ r_ (o_ r_ (cs_ r_ r_ (T_ ?_))))))))))))))
                have hsl := signLen_le (s.extract k s.size)
                have hrs := rsign_eq (s.extract k s.size)
                have hrz : (rsign (s.extract k s.size)).size = signLen (s.extract k s.size) := by rw [hrs, extract_size _ _ _ hsl]; omega
                have e1 : rsign (s.extract (k : Int).toNat s.size) = rsign (s.extract k s.size) := rfl
                rw [hnx] at hsc
                dsimp only at hsc
                rw [e1]
                refine jc_condd rfl (fun h0 => ?_) (fun h0 => ?_)
                · refine R_ (M_ r_ (E_ r_ (E_ r_ (E_ r_ (T_ (ar_ (aw_ (az_ (aw_ (az_ (aw_ (az_ (aw_ ?_)))))))))))))
                  have e : scan s = ([], line, 1) := by rw [← hsc, dif_pos (by rw [← hrz]; exact (empty_iff _).1 h0)]
                  exact jq_ownNil 63 4 g_ (jq_freeze 2 0 rfl rfl (by rw [hc]; simp [hb]) (jq_ret3 rfl rfl rfl rfl (fun K h => by rw [e] at h; exact h) sub_end))
                · have hz : ¬ signLen (s.extract k s.size) = 0 := by rw [← hrz]; exact fun h => h0 ((empty_iff _).2 h)
                  rw [dif_neg hz] at hsc
                  refine as_ (al_ (R_ (M_ r_ (M_ r_ (o_ r_ (co_ r_ r_ (o_ r_ (bj_ r_ r_ g_ (E_ r_ (T_ (an_ (M_ r_ (M_ r_ (M_ r_ (o_ r_ (bu_ r_ r_ r_ r_ r_ (o_ r_ (bq_ r_ r_ b_ r_ r_ b_ ?_))))))))))))))))))
                  refine o_ r_ (ow_append1 0 ((⟨3, 0, line, rsign (s.extract k s.size)⟩ : Tok)) rfl rfl rfl rfl rfl rfl rfl (fun _ => rfl) (by show (_ + _) * 40 ≤ _; first | omega | (simp only [List.length_append]; omega)) (by first | omega | (simp only [List.length_append]; omega)) (fun v1 hv1 => E_ r_ (ak_ (ay_ (al_ (an_ (M_ r_ (E_ r_ (ak_ (ay_ ?_))))))))))
                  rw [← hrs] at hsc
                  refine jq_againS (i := (k, line, v, out)) (k + signLen (s.extract k s.size), line, v1, out ++ [(⟨3, 0, line, rsign (s.extract k s.size)⟩ : Tok)]) ⟨hsc, by dsimp only; omega, hl1, by dsimp only; omega, by dsimp only; rw [List.length_append, List.length_singleton]; omega⟩ (by dsimp only; omega) ?_ ?_
                  · exact bc_ 0 r_ sub_end
                  · rw [show ((k + signLen (s.extract k s.size) : Nat) : Int) = (k : Int) + ((rsign (s.extract k s.size)).size : Int) by omega]
                    (repeat (first | exact True.intro | refine ⟨rfl, ?_⟩))
      · refine av_ (ax_ (ax_ (ba_ (al_ (R_ (M_ r_ (E_ r_ (E_ r_ (E_ r_ (T_ (ar_ ?_)))))))))))
        have e : scan s = (out, 0, 0) := by rw [← hsc, scanGo, dif_neg (by omega)]
        exact jq_freeze 2 0 rfl rfl (by rw [hc]; simp [hb]) (jq_ret3 rfl rfl rfl rfl (fun K h => by rw [e] at h; exact h) sub_end)
end Go.Proofs.YtlniadfidfmckaaDoor
end

section
namespace Go.Proofs.YtlniadfidfmckaaDoor
open Go.Vc
attribute [local irreducible] JL JC JQ OpWp Con ConN
set_option maxHeartbeats 4000000

end Go.Proofs.YtlniadfidfmckaaDoor
end

section
namespace Go.Proofs.YtlniadfidfmckaaDoor
open Go.Vc
attribute [local irreducible] JL JC JQ OpWp Con ConN

end Go.Proofs.YtlniadfidfmckaaDoor
end

section
namespace Go.Proofs.YtlniadfidfmckaaDoor
open Go.Vc
attribute [local irreducible] JL JC JQ OpWp Con ConN
attribute [local irreducible] nextT scan byteAt rsign runLen signLen numVal isL isD

theorem isName_eq {s : ByteArray} (h0 : 0 < s.size) (h12 : s.size ≤ 12) (hl : isL (byteAt s 0) = true) : isName s = decide (runLen isLD s = s.size) := by
  unfold isName nameLen
  rw [decide_eq_true h0, decide_eq_true h12, if_pos ⟨h0, hl⟩]
  rfl
theorem rName_c (s : ByteArray) : Con Tryd.prog 67 [Str s] [] (fun K => K (Bl (isName s)) []) := by
  refine con_intro Tryd.func67 rfl rfl (Nat.le_of_ble_eq_true rfl) (fun c hc => ?_)
  by_cases h1 : (s.size : Int) < 1
  · have e : isName s = false := by unfold isName; rw [decide_eq_false (by omega)]; rfl
    refine R_ (E_ r_ (T_ (am_ (R_ (M_ r_ (o_ r_ (co_ r_ r_ (o_ r_ (bw_ r_ r_ (M_ r_ (ai_ r_ u_ b_ (ai_ r_ u_ b_ (ai_ r_ u_ b_ (o_ r_ (bp_ r_ u_ r_ (M_ r_ (ai_ r_ r_ b_ (ai_ r_ r_ b_ ?_))))))))))))))))))
    refine ai_ r_ r_ b_ (ai_ r_ r_ b_ (o_ r_ (bp_ r_ r_ r_ (T_ (jc_cond rfl (fun _ => R_ (E_ r_ (T_ (ar_ (aw_ (jq_ret1 rfl rfl [] rfl (fun K h => by rw [e] at h; exact h))))))) (fun h => by cases h))))))
  · by_cases h2 : (12 : Int) < (s.size : Int)
    · have e : isName s = false := by unfold isName; rw [decide_eq_false (show ¬ s.size ≤ 12 by omega), Bool.and_false]; rfl
      refine R_ (E_ r_ (T_ (am_ (R_ (M_ r_ (o_ r_ (co_ r_ r_ (o_ r_ (bw_ r_ r_ (M_ r_ (ah_ r_ w_ b_ (bd_ r_ (ah_ r_ w_ b_ (co_ r_ r_ (ah_ r_ w_ b_ (bz_ r_ r_ (o_ r_ (bv_ r_ w_ r_ (M_ r_ (ai_ r_ u_ b_ (ai_ r_ u_ b_ ?_)))))))))))))))))))))
      refine ai_ r_ u_ b_ (ai_ r_ u_ b_ (o_ r_ (bp_ r_ u_ r_ (T_ (jc_cond rfl (fun _ => R_ (E_ r_ (T_ (ar_ (aw_ (jq_ret1 rfl rfl [] rfl (fun K h => by rw [e] at h; exact h))))))) (fun h => by cases h))))))
    · refine R_ (E_ r_ (T_ (am_ (R_ (M_ r_ (o_ r_ (co_ r_ r_ (o_ r_ (bw_ r_ r_ (M_ r_ (ah_ r_ w_ b_ (bd_ r_ (ah_ r_ w_ b_ (co_ r_ r_ (ah_ r_ w_ b_ (bz_ r_ r_ (o_ r_ (bv_ r_ w_ r_ (M_ r_ (ah_ r_ w_ b_ (bd_ r_ (ah_ r_ w_ b_ (ow_indexStr r_ r_ r_ g_ g_ ?_)))))))))))))))))))))))
      refine ah_ r_ w_ b_ (bm_ r_ (rletter_c _) (ah_ r_ w_ b_ (cd_ r_ (o_ r_ (bv_ r_ w_ r_ (T_ (jc_cond rfl (fun hb => ?_) (fun hb => ?_))))))))
      · have hl : isL (byteAt s 0) = false := by simpa using hb
        have e : isName s = false := by
          unfold isName nameLen
          rw [if_neg (fun h => by rw [hl] at h; cases h.2), decide_eq_false (show ¬ 0 = s.size by omega), Bool.and_false]
        refine R_ (E_ r_ (T_ (ar_ (aw_ (jq_ret1 rfl rfl [] rfl (fun K h => by rw [e] at h; exact h))))))
      · have hl : isL (byteAt s 0) = true := by simpa using hb
        have e := isName_eq (s := s) (by omega) (by omega) hl
        refine as_ (al_ (am_ (R_ (E_ r_ (T_ (au_ (jc_loopS [] (fun k : Nat => k ≤ s.size ∧ ∀ j, j < k → isLD (byteAt s j) = true) (fun k => [(0, Str s), (3, In .i64 (k : Int))]) (fun _ => []) (fun k => s.size - k) 0 ⟨Nat.zero_le _, fun j h => by omega⟩ ?_ ?_ ?_)))))))
        · exact sub_end
        · (repeat (first | exact True.intro | refine ⟨rfl, ?_⟩))
        · rintro k ⟨hk, hall⟩
          refine am_ (R_ (M_ r_ (M_ r_ (o_ r_ (co_ r_ r_ (o_ r_ (bw_ r_ r_ (T_ (jc_condd rfl (fun hlt => ?_) (fun hge => ?_))))))))))
          · have hlt' : k < s.size := by omega
            cases hl0 : isL (byteAt s (k : Int).toNat) with
            | true =>
              have hn0 : (!isL (byteAt s (k : Int).toNat)) = false := by rw [hl0]; rfl
              refine as_ (al_ (B_ (R_ (M_ r_ (M_ r_ (o_ r_ (ow_indexStr r_ r_ r_ g_ g_ (o_ r_ (bm_ r_ (rletter_c _) (o_ r_ (cd_ r_ (M_ r_ (ai_ r_ h_ b_ (ai_ r_ h_ b_ (ai_ r_ h_ b_ (ai_ r_ h_ b_ (ai_ r_ h_ b_ (o_ r_ (bv_ r_ h_ r_ ?_)))))))))))))))))))
              refine T_ (jc_cond rfl (fun h => by cases h) (fun _ => as_ (ay_ (al_ (an_ (M_ r_ (o_ r_ (bj_ r_ r_ g_ (E_ r_ (ak_ (jq_againS (k + 1) ⟨by omega, fun i hi => ?_⟩ g_ ?_ ?_)))))))))))
              · by_cases hik : i < k
                · exact hall i hik
                · obtain rfl : i = k := by omega
                  unfold isLD
                  rw [show isL (byteAt s i) = true from hl0]; rfl
              · exact sub_end
              · (repeat (first | exact True.intro | refine ⟨rfl, ?_⟩))
            | false =>
              have hn0 : (!isL (byteAt s (k : Int).toNat)) = true := by rw [hl0]; rfl
              refine as_ (al_ (B_ (R_ (M_ r_ (M_ r_ (o_ r_ (ow_indexStr r_ r_ r_ g_ g_ (o_ r_ (bm_ r_ (rletter_c _) (o_ r_ (cd_ r_ (M_ r_ (ah_ r_ h_ b_ (bd_ r_ (ah_ r_ h_ b_ (bd_ r_ (ah_ r_ h_ b_ (ow_indexStr r_ r_ r_ g_ g_ (ah_ r_ h_ b_ (bm_ r_ (rdigit_c _) (ah_ r_ h_ b_ (cd_ r_ (o_ r_ (bp_ r_ h_ r_ ?_))))))))))))))))))))))))
              refine T_ (jc_cond rfl (fun hd => ?_) (fun hd => ?_))
              · have hd' : isD (byteAt s k) = false := by simpa using hd
                have hf : isLD (byteAt s k) = false := by unfold isLD; rw [show isL (byteAt s k) = false from hl0, hd']; rfl
                have hr : runLen isLD s = k := runLen_eq hall hk (fun _ => hf)
                have e2 : isName s = false := by rw [e, hr]; exact decide_eq_false (by omega)
                refine R_ (E_ r_ (T_ (ar_ (az_ (aw_ (aw_ (az_ (aw_ (jq_ret1 rfl rfl [] rfl (fun K h => by rw [e2] at h; exact h))))))))))
              · have hd' : isD (byteAt s k) = true := by simpa using hd
                refine as_ (ay_ (al_ (an_ (M_ r_ (o_ r_ (bj_ r_ r_ g_ (E_ r_ (ak_ (jq_againS (k + 1) ⟨by omega, fun i hi => ?_⟩ g_ ?_ ?_)))))))))
                · by_cases hik : i < k
                  · exact hall i hik
                  · obtain rfl : i = k := by omega
                    unfold isLD
                    rw [hd', Bool.or_true]
                · exact sub_end
                · (repeat (first | exact True.intro | refine ⟨rfl, ?_⟩))
          · have hr : runLen isLD s = s.size := runLen_eq (fun j hj => hall j (by omega)) (Nat.le_refl _) (fun h => by omega)
            have e2 : isName s = true := by rw [e, hr]; exact decide_eq_true rfl
            refine av_ (ax_ (ax_ (ba_ (al_ (R_ (E_ r_ (T_ (ar_ (jq_ret1 rfl rfl [] rfl (fun K h => by rw [e2] at h; exact h))))))))))

/-- The decimal digits of a number, as a text. -/
def decS (u : Nat) : ByteArray := ⟨(Lib.decDigits u).toArray⟩
theorem nDigits_le : ∀ (k u : Nat), 1 ≤ k → u < 10 ^ k → Lib.nDigits u ≤ k
  | 0, _, h, _ => by omega
  | k + 1, u, _, h => by
    by_cases hu : u < 10
    · rw [Lib.nDigits_small hu]; omega
    · rw [Lib.nDigits_big hu]
      have hk : 1 ≤ k := by
        rcases Nat.eq_zero_or_pos k with rfl | h'
        · omega
        · exact h'
      have := nDigits_le k (u / 10) hk (by rw [Nat.pow_succ] at h; omega)
      omega
theorem decS_size (u : Nat) : (decS u).size = Lib.nDigits u := by
  rw [← Lib.decDigits_length]
  simp [decS, ByteArray.size]
theorem decS_le (u : Nat) (h : u ≤ 2147483647) : (decS u).size ≤ 10 := by
  rw [decS_size]
  exact nDigits_le 10 u g_ g_
theorem decS_small (u : Nat) (h : u < 10) : decS u = bytesOf [48 + (u : Int)] := by
  unfold decS
  rw [Lib.decDigits, dif_pos h]
  show _ = ByteArray.empty.push (UInt8.ofNat (48 + (u : Int)).toNat)
  rw [show (48 + (u : Int)).toNat = 48 + u by omega]
  rfl
theorem decS_big (u : Nat) (h : ¬ u < 10) : decS u = decS (u / 10) ++ bytesOf [48 + (u : Int) % 10] := by
  unfold decS
  rw [Lib.decDigits, dif_neg h]
  show _ = _ ++ ByteArray.empty.push (UInt8.ofNat (48 + (u : Int) % 10).toNat)
  rw [show (48 + (u : Int) % 10).toNat = 48 + u % 10 by omega]
  apply ByteArray.ext
  simp
attribute [local irreducible] decS

theorem Decimal_c (u : Nat) (hu : u ≤ 2147483647) : Con Tryd.prog 48 [In .i64 (u : Int)] [] (fun K => K (Str (decS u)) []) := by
  induction u using Nat.strongRecOn with
  | _ u ih =>
    refine con_intro Tryd.func48 rfl rfl (Nat.le_of_ble_eq_true rfl) (fun c hc => R_ (E_ r_ (T_ (am_ (R_ (M_ r_ (o_ r_ (bw_ r_ r_ (T_ (jc_condd rfl (fun hlt => ?_) (fun hge => ?_)))))))))))
    · have e := decS_small u (by omega)
      refine R_ (M_ r_ (o_ r_ (bj_ r_ r_ g_ (o_ r_ (ow_convU8 r_ r_ r_ g_ (o_ r_ (bq_ r_ r_ b_ r_ r_ b_ (o_ r_ (ow_bytesToString (l := [_]) r_ r_ r_ (E_ r_ (T_ (ar_ (aw_ (jq_ret1 rfl rfl [] rfl (fun K h => by rw [e] at h; exact h)))))))))))))))
    · have e := decS_big u (by omega)
      have h0 := ih (u / 10) (by omega) (by omega)
      rw [show ((u / 10 : Nat) : Int) = (u : Int) / 10 by omega] at h0
      have h1 := decS_le (u / 10) (by omega)
      have h2 : (bytesOf [48 + (u : Int) % 10]).size = 1 := rfl
      refine as_ (al_ (am_ (ao_ r_ r_ k_ k_ (yM_ r_ (aa_ (fun c => ow_quo64 r_ r_ g_ g_ p_) (aa_ (fun c => bm_ r_ (h0) p_) (yM_ r_ (aa_ (fun c => ow_rem64 r_ r_ g_ g_ p_) (aa_ (fun c => bj_ r_ r_ g_ p_) (aa_ (fun c => ow_convU8 r_ r_ r_ g_ p_) (aa_ (fun c => bq_ r_ r_ b_ r_ r_ b_ p_) (aa_ (fun c => ow_bytesToString (l := [_]) r_ r_ r_ p_) (aa_ (fun c => ow_strcat r_ r_ g_ p_) (yE_ r_ (ae_ ?_)))))))))))))))
      refine al_ (ar_ (jq_ret1 rfl rfl [] rfl (fun K h => by rw [e] at h; exact h)))
end Go.Proofs.YtlniadfidfmckaaDoor
end

section
namespace Go.Proofs.YtlniadfidfmckaaDoor
open Go.Vc
theorem scanGo_tok2 {s : ByteArray} {k : Nat} {line : Int} {out : List Tok} {t : Int × Int × ByteArray} {n : Nat} (hk : k < s.size) (h1 : ¬ byteAt s k = 10) (h2 : ¬ (byteAt s k = 32 ∨ byteAt s k = 9)) (hn : nextT (s.extract k s.size) = (t, n)) (h0 : ¬ n = 0) :
    scanGo s k line out = scanGo s (k + n) line (out ++ [⟨t.1, t.2.1, line, t.2.2⟩]) := by
  rw [scanGo, dif_pos hk, if_neg h1, if_neg h2, hn, dif_neg h0]
end Go.Proofs.YtlniadfidfmckaaDoor
end

section
namespace Go.Proofs.YtlniadfidfmckaaDoor
open Go.Vc

def isW (n : Int) : Prop := n = 32 ∨ n = 9 ∨ n = 10
theorem isW_not {n : Int} (h : isW n) : isLD n = false ∧ isD n = false ∧ isL n = false := by
  rcases h with rfl | rfl | rfl <;> decide
theorem bytesI_app (s t : ByteArray) : bytesI (s ++ t) = bytesI s ++ bytesI t := by simp [bytesI]
theorem bytesI_full (s : ByteArray) (a : Nat) : bytesI (s.extract a s.size) = (bytesI s).drop a := by
  rw [extract_bytes, List.take_of_length_le (by rw [List.length_drop, bytesI_len]; omega)]
theorem ext_ext (s : ByteArray) (a n : Nat) : (s.extract a s.size).extract n (s.extract a s.size).size = s.extract (a + n) s.size := by
  apply bytesI_inj
  rw [bytesI_full, bytesI_full, bytesI_full, List.drop_drop]
theorem ext_app (x r : ByteArray) (n : Nat) (h : n ≤ x.size) : (x ++ r).extract n (x ++ r).size = x.extract n x.size ++ r := by
  apply bytesI_inj
  rw [bytesI_full, bytesI_app, bytesI_app, bytesI_full, List.drop_append_of_le_length (by rw [bytesI_len]; exact h)]
theorem ext_app_right (x r : ByteArray) : (x ++ r).extract x.size (x ++ r).size = r := by
  apply bytesI_inj
  rw [bytesI_full, bytesI_app, List.drop_append, List.drop_of_length_le (by rw [bytesI_len]; exact Nat.le_refl _), bytesI_len]
  simp
theorem byteAt_app (x r : ByteArray) (n : Nat) (h : n < x.size) : byteAt (x ++ r) n = byteAt x n := by
  rw [byteAt_getD, byteAt_getD, bytesI_app, List.getD_eq_getElem?_getD, List.getD_eq_getElem?_getD, List.getElem?_append_left (by rw [bytesI_len]; exact h)]
theorem byteAt_app_right (x r : ByteArray) (n : Nat) : byteAt (x ++ r) (x.size + n) = byteAt r n := by
  rw [byteAt_getD, byteAt_getD, bytesI_app, List.getD_eq_getElem?_getD, List.getD_eq_getElem?_getD, List.getElem?_append_right (by rw [bytesI_len]; omega), bytesI_len]
  congr 2
  omega
theorem pre_app (x r : ByteArray) (n : Nat) (h : n ≤ x.size) : (x ++ r).extract 0 n = x.extract 0 n := by
  apply bytesI_inj
  rw [extract_bytes, extract_bytes, bytesI_app, List.drop_zero, List.drop_zero, List.take_append_of_le_length (by rw [bytesI_len]; omega)]
theorem pre_all (x : ByteArray) : x.extract 0 x.size = x := by
  apply bytesI_inj
  rw [bytesI_full, List.drop_zero]
theorem takeWhile_app {α : Type} {p : α → Bool} : ∀ (l m : List α), (∀ a ∈ m.head?, p a = false) → ((l ++ m).takeWhile p).length = (l.takeWhile p).length
  | [], [], _ => rfl
  | [], a :: m, h => by simp [h a (by simp)]
  | a :: l, m, h => by
    have := takeWhile_app l m h
    rw [List.cons_append, List.takeWhile_cons, List.takeWhile_cons]
    split
    · simp [this]
    · rfl
/-- A text that is empty or begins with a blank. -/
def blankLed (r : ByteArray) : Prop := r.size = 0 ∨ isW (byteAt r 0)
theorem head_bytes {r : ByteArray} {n : Int} (h : n ∈ (bytesI r).head?) : 0 < r.size ∧ n = byteAt r 0 := by
  rw [byteAt_getD]
  cases hb : bytesI r with
  | nil => rw [hb] at h; simp at h
  | cons a l =>
    rw [hb] at h
    simp only [List.head?_cons, Option.mem_def, Option.some.injEq] at h
    refine ⟨by rw [← bytesI_len, hb]; simp, by simp [h]⟩
theorem runLen_app (p : Int → Bool) (hp : ∀ n, isW n → p n = false) (x r : ByteArray) (hr : blankLed r) : runLen p (x ++ r) = runLen p x := by
  unfold runLen
  rw [bytesI_app]
  refine takeWhile_app _ _ (fun n hn => ?_)
  obtain ⟨h0, rfl⟩ := head_bytes hn
  rcases hr with hr | hr
  · omega
  · exact hp _ hr
theorem SG_blank : ∀ t ∈ SG, (decide (t.size = 2) && (decide (byteAt t 1 = 32) || decide (byteAt t 1 = 9) || decide (byteAt t 1 = 10))) = false := by decide +kernel
theorem signLen_app (x r : ByteArray) (hx : 0 < x.size) (hr : blankLed r) : signLen (x ++ r) = signLen x := by
  have e1 : (1 ≤ x.size + r.size ∧ hasS SG ((x ++ r).extract 0 1) = true) ↔ (1 ≤ x.size ∧ hasS SG (x.extract 0 1) = true) := by
    rw [pre_app _ _ _ hx]
    exact ⟨fun h => ⟨hx, h.2⟩, fun h => ⟨by omega, h.2⟩⟩
  have e2 : (2 ≤ x.size + r.size ∧ hasS SG ((x ++ r).extract 0 2) = true) ↔ (2 ≤ x.size ∧ hasS SG (x.extract 0 2) = true) := by
    by_cases h2 : 2 ≤ x.size
    · rw [pre_app _ _ _ h2]
      exact ⟨fun h => ⟨h2, h.2⟩, fun h => ⟨by omega, h.2⟩⟩
    · have h1 : x.size = 1 := by omega
      refine ⟨?_, fun h => absurd h.1 h2⟩
      rintro ⟨ha, hb⟩
      exfalso
      have hm := SG_blank _ (hasS_iff.1 hb)
      have hsz : ((x ++ r).extract 0 2).size = 2 := by rw [extract_size _ _ _ (by rw [ByteArray.size_append]; omega)]
      have hby : byteAt ((x ++ r).extract 0 2) 1 = byteAt r 0 := by
        rw [byteAt_getD, extract_bytes, bytesI_app, List.drop_zero, byteAt_getD, List.getD_eq_getElem?_getD, List.getD_eq_getElem?_getD, List.getElem?_take_of_lt (by omega), List.getElem?_append_right (by rw [bytesI_len]; omega), bytesI_len, h1]
      rw [decide_eq_true hsz, hby] at hm
      rcases hr with hr | hr
      · omega
      · rcases hr with hr | hr | hr <;> rw [hr] at hm <;> simp at hm
  unfold signLen
  rw [ByteArray.size_append]
  simp only [e1, e2]
theorem nameLen_app (x r : ByteArray) (hx : 0 < x.size) (hr : blankLed r) : nameLen (x ++ r) = nameLen x := by
  unfold nameLen
  rw [ByteArray.size_append, byteAt_app _ _ _ hx, runLen_app isLD (fun n h => (isW_not h).1) _ _ hr]
  by_cases h : isL (byteAt x 0) = true
  · rw [if_pos ⟨by omega, h⟩, if_pos ⟨hx, h⟩]
  · rw [if_neg (fun hh => h hh.2), if_neg (fun hh => h hh.2)]
/-- What begins with a blank behind a text does not change its first token. -/
theorem next_blank (x r : ByteArray) (hx : 0 < x.size) (hr : blankLed r) : nextT (x ++ r) = nextT x := by
  unfold nextT
  rw [nameLen_app x r hx hr, runLen_app isD (fun n h => (isW_not h).2.1) x r hr, signLen_app x r hx hr, pre_app _ _ _ (nameLen_le x), pre_app _ _ _ (runLen_le _ x), pre_app _ _ _ (signLen_le x)]

inductive SC : ByteArray → Int → List Tok → Prop
  | nil {x : ByteArray} {line : Int} : x.size = 0 → SC x line []
  | nl {x : ByteArray} {line : Int} {l : List Tok} : 0 < x.size → byteAt x 0 = 10 → SC (x.extract 1 x.size) (line + 1) l → SC x line l
  | sp {x : ByteArray} {line : Int} {l : List Tok} : 0 < x.size → byteAt x 0 = 32 ∨ byteAt x 0 = 9 → SC (x.extract 1 x.size) line l → SC x line l
  | tok {x : ByteArray} {line : Int} {l : List Tok} {t : Int × Int × ByteArray} {n : Nat} : 0 < x.size → ¬ isW (byteAt x 0) → nextT x = (t, n) → n ≠ 0 → SC (x.extract n x.size) line l → SC x line (⟨t.1, t.2.1, line, t.2.2⟩ :: l)
theorem byte0 (s : ByteArray) (a : Nat) : byteAt (s.extract a s.size) 0 = byteAt s a := by rw [byteAt_extract, Nat.add_zero]
theorem size0 (s : ByteArray) (a : Nat) : (s.extract a s.size).size = s.size - a := extract_size _ _ _ (Nat.le_refl _)
theorem sc_to {x : ByteArray} {line : Int} {l : List Tok} (h : SC x line l) : ∀ (s : ByteArray) (a : Nat) (out : List Tok), a ≤ s.size → x = s.extract a s.size → scanGo s a line out = (out ++ l, 0, 0) := by
  induction h with
  | nil h0 =>
    intro s a out ha hx
    rw [hx, size0] at h0
    rw [scanGo, dif_neg (by omega), List.append_nil]
  | nl h0 hb _ ih =>
    intro s a out ha hx
    subst hx
    rw [size0] at h0
    rw [byte0] at hb
    rw [scanGo, dif_pos (by omega), if_pos hb]
    exact ih s (a + 1) out (by omega) (ext_ext s a 1)
  | sp h0 hb _ ih =>
    intro s a out ha hx
    subst hx
    rw [size0] at h0
    rw [byte0] at hb
    rw [scanGo, dif_pos (by omega), if_neg (by omega), if_pos hb]
    exact ih s (a + 1) out (by omega) (ext_ext s a 1)
  | tok h0 hb hn hne _ ih =>
    intro s a out ha hx
    subst hx
    have hle := nextT_le (s.extract a s.size)
    rw [hn] at hle
    rw [size0] at h0 hle
    rw [byte0] at hb
    unfold isW at hb
    rw [scanGo_tok2 (by omega) (by omega) (by omega) hn hne, ih s _ _ (by dsimp only at hle; omega) (ext_ext s a _), List.append_assoc]
    rfl
theorem sc_of (s : ByteArray) : ∀ (m a : Nat) (line : Int) (out : List Tok), s.size - a ≤ m → a ≤ s.size → (scanGo s a line out).2.2 = 0 → ∃ l, scanGo s a line out = (out ++ l, 0, 0) ∧ SC (s.extract a s.size) line l
  | m, a, line, out, hm, ha, h => by
    by_cases hlt : a < s.size
    · obtain ⟨m, rfl⟩ : ∃ k, m = k + 1 := ⟨m - 1, by omega⟩
      rw [scanGo, dif_pos hlt] at h ⊢
      by_cases h10 : byteAt s a = 10
      · rw [if_pos h10] at h ⊢
        obtain ⟨l, e, hs⟩ := sc_of s m (a + 1) (line + 1) out (by omega) (by omega) h
        exact ⟨l, e, .nl (by rw [size0]; omega) (by rw [byte0]; exact h10) (by rw [ext_ext]; exact hs)⟩
      · rw [if_neg h10] at h ⊢
        by_cases h32 : byteAt s a = 32 ∨ byteAt s a = 9
        · rw [if_pos h32] at h ⊢
          obtain ⟨l, e, hs⟩ := sc_of s m (a + 1) line out (by omega) (by omega) h
          exact ⟨l, e, .sp (by rw [size0]; omega) (by rw [byte0]; exact h32) (by rw [ext_ext]; exact hs)⟩
        · rw [if_neg h32] at h ⊢
          have hle := nextT_le (s.extract a s.size)
          rw [size0] at hle
          by_cases h0 : (nextT (s.extract a s.size)).2 = 0
          · rw [dif_pos h0] at h
            cases h
          · rw [dif_neg h0] at h ⊢
            obtain ⟨l, e, hs⟩ := sc_of s m _ line _ (by omega) (by omega) h
            refine ⟨_ :: l, by rw [e, List.append_assoc]; rfl, .tok (n := (nextT (s.extract a s.size)).2) (t := (nextT (s.extract a s.size)).1) (by rw [size0]; omega) (by rw [byte0]; unfold isW; omega) rfl h0 (by rw [ext_ext]; exact hs)⟩
    · refine ⟨[], by rw [scanGo, dif_neg hlt, List.append_nil], .nil (by rw [size0]; omega)⟩
/-- Texts of few bytes. -/
theorem scan_of {s : ByteArray} (h : (scan s).2.2 = 0) : ∃ l, scan s = (l, 0, 0) ∧ SC s 1 l := by
  unfold scan at h ⊢
  by_cases hs : 8192 < s.size
  · rw [if_pos hs] at h; cases h
  · rw [if_neg hs] at h ⊢
    obtain ⟨l, e, hl⟩ := sc_of s s.size 0 1 [] (by omega) (by omega) h
    rw [pre_all] at hl
    exact ⟨l, e, hl⟩
theorem scan_to {s : ByteArray} {l : List Tok} (hs : s.size ≤ 8192) (h : SC s 1 l) : scan s = (l, 0, 0) := by
  unfold scan
  rw [if_neg (by omega), sc_to h s 0 [] (Nat.zero_le _) (pre_all s).symm]
  rfl
end Go.Proofs.YtlniadfidfmckaaDoor
end

section
namespace Go.Proofs.YtlniadfidfmckaaDoor
open Go.Vc

theorem nameLen_zero {x : ByteArray} (h : isL (byteAt x 0) = false) : nameLen x = 0 := by
  unfold nameLen
  rw [if_neg (fun hh => by rw [h] at hh; cases hh.2)]
theorem isL_notW {n : Int} (h : isL n = true) : ¬ isW n := fun hw => by rw [(isW_not hw).2.2] at h; cases h
abbrev strip (t : Tok) : Int × Int × ByteArray := (t.kind, t.num, t.text)
def PX (x : ByteArray) (L : List (Int × Int × ByteArray)) : Prop := ∀ line, ∃ l, SC x line l ∧ l.map strip = L
theorem px_nil {x : ByteArray} (h : x.size = 0) : PX x [] := fun _ => ⟨[], .nil h, rfl⟩
/-- A text of blanks alone. -/
def blanks (b : ByteArray) : Prop := ∀ c ∈ bytesI b, isW c
theorem px_front : ∀ (m : Nat) (b x : ByteArray) (L : List (Int × Int × ByteArray)), b.size = m → blanks b → PX x L → PX (b ++ x) L
  | 0, b, x, L, hm, _, h => by
    have : b = ⟨#[]⟩ := (empty_iff b).2 hm
    rw [this, show (⟨#[]⟩ : ByteArray) ++ x = x from bytesI_inj (by rw [bytesI_app]; rfl)]
    exact h
  | m + 1, b, x, L, hm, hb, h => by
    have hb0 : isW (byteAt b 0) := by
      rw [← bytesI_get b 0 (by omega)]
      exact hb _ (List.getElem_mem _)
    have ih := px_front m (b.extract 1 b.size) x L (by rw [size0]; omega) (fun c hc => hb c (by rw [bytesI_full] at hc; exact List.mem_of_mem_drop hc)) h
    have e : (b ++ x).extract 1 (b ++ x).size = b.extract 1 b.size ++ x := ext_app b x 1 (by omega)
    intro line
    by_cases h10 : byteAt b 0 = 10
    · obtain ⟨l, hs, el⟩ := ih (line + 1)
      exact ⟨l, .nl (by rw [ByteArray.size_append]; omega) (by rw [byteAt_app _ _ _ (by omega)]; exact h10) (by rw [e]; exact hs), el⟩
    · obtain ⟨l, hs, el⟩ := ih line
      exact ⟨l, .sp (by rw [ByteArray.size_append]; omega) (by rw [byteAt_app _ _ _ (by omega)]; unfold isW at hb0; omega) (by rw [e]; exact hs), el⟩
theorem px_blank {b x : ByteArray} {L : List (Int × Int × ByteArray)} (hb : blanks b) (h : PX x L) : PX (b ++ x) L := px_front b.size b x L rfl hb h
end Go.Proofs.YtlniadfidfmckaaDoor
end

section
namespace Go.Proofs.YtlniadfidfmckaaDoor
open Go.Vc
attribute [local irreducible] JL JC JQ OpWp Con ConN
attribute [local irreducible] hasW
set_option maxHeartbeats 4000000

theorem RKeyword_c (s : ByteArray) : Con Tryd.prog 68 [Str s] [] (fun K => K (Bl (hasW s)) []) := by
  refine con_intro Tryd.func68 rfl rfl (Nat.le_of_ble_eq_true rfl) (fun c hc => R_ (E_ r_ (T_ (R_ (o_ r_ (bq_ r_ r_ b_ r_ r_ b_ (E_ r_ (T_ (am_ (R_ (E_ r_ (T_ (au_ (jc_reset [(0, Str s), (3, .cell (.list (words.map Wrow))), (4, In .i64 0)] [] ?_ ⟨[], [], rfl⟩ ?_))))))))))))))
  · (repeat (first | exact True.intro | refine ⟨rfl, ?_⟩))
  have hk : hasW s = words.any (fun w => decide (w = s)) := by unfold hasW; rfl
  rw [hk]
  clear hk
  generalize words = L
  have eL : (L.map Wrow).length = L.length := List.length_map _
  refine jc_loopS [] (fun k : Nat => k ≤ L.length ∧ (L.take k).any (fun w => decide (w = s)) = false) (fun k => [(0, Str s), (3, .cell (.list (L.map Wrow))), (4, In .i64 (k : Int))]) (fun _ => []) (fun k => L.length - k) 0 ⟨Nat.zero_le _, by rw [List.take_zero]; rfl⟩ ?_ ?_ ?_
  · exact sub_end
  · (repeat (first | exact True.intro | refine ⟨rfl, ?_⟩))
  · rintro k ⟨hk, hno⟩
    refine jc_reset [(0, Str s), (3, .cell (.list (L.map Wrow))), (4, In .i64 (k : Int))] [] ?_ ⟨[], [], rfl⟩ ?_
    · (repeat (first | exact True.intro | refine ⟨rfl, ?_⟩))
    refine am_ (R_ (M_ r_ (M_ r_ (o_ r_ (br_ r_ (fun hlen => o_ r_ (bw_ r_ r_ (T_ (jc_condd rfl (fun hlt => ?_) (fun hge => ?_))))))))))
    · have hlt' : k < L.length := by omega
      refine as_ (al_ (B_ (R_ (M_ r_ (M_ r_ (o_ r_ (cc_ r_ r_ g_ r_ r_ b_ (o_ r_ (cb_ r_ r_ (M_ r_ (o_ r_ (cs_ r_ r_ (T_ (jc_condd rfl (fun hb => ?_) (fun hb => ?_)))))))))))))))
      · have e : L.any (fun w => decide (w = s)) = true := List.any_eq_true.2 ⟨L[k], List.getElem_mem hlt', decide_eq_true hb⟩
        refine R_ (E_ r_ (T_ (ar_ (az_ (aw_ (aw_ (az_ (aw_ (jq_ret1 rfl rfl [] rfl (fun K h => by rw [e] at h; exact h))))))))))
      · refine as_ (ay_ (al_ (an_ (M_ r_ (o_ r_ (bj_ r_ r_ g_ (E_ r_ (ak_ (jq_againS (k + 1) ⟨by omega, ?_⟩ g_ ?_ ?_)))))))))
        · rw [List.take_succ_eq_append_getElem hlt', List.any_append, hno]
          simp only [List.any_cons, List.any_nil, Bool.or_false, Bool.false_or]
          exact decide_eq_false hb
        · exact sub_end
        · (repeat (first | exact True.intro | refine ⟨rfl, ?_⟩))
    · obtain rfl : k = L.length := by omega
      rw [List.take_length] at hno
      refine av_ (ax_ (ax_ (ba_ (al_ (R_ (E_ r_ (T_ (ar_ (jq_ret1 rfl rfl [] rfl (fun K h => by rw [hno] at h; exact h))))))))))
end Go.Proofs.YtlniadfidfmckaaDoor
end

section
namespace Go.Proofs.YtlniadfidfmckaaDoor
open Go.Vc
attribute [local irreducible] JL JC JQ OpWp Con ConN
attribute [local irreducible] byteAt runLen isL isD isName hasW
set_option maxHeartbeats 4000000

def nmOk (s : ByteArray) : Prop := isName s = true ∧ hasW s = false
def T.ok : T → Prop
  | .nu n => -2147483647 ≤ n ∧ n ≤ 2147483647
  | .nm s => nmOk s
  | .ix s t => nmOk s ∧ t.ok
  | .bn o a b => (1 ≤ o ∧ o ≤ 14) ∧ a.ok ∧ b.ok
end Go.Proofs.YtlniadfidfmckaaDoor
end

section
namespace Go.Proofs.YtlniadfidfmckaaDoor
open Go.Vc
attribute [local irreducible] JL JC JQ OpWp Con ConN
attribute [local irreducible] byteAt runLen isL isD isName hasW
set_option maxHeartbeats 4000000

end Go.Proofs.YtlniadfidfmckaaDoor
end

section
namespace Go.Proofs.YtlniadfidfmckaaDoor
open Go.Vc
attribute [local irreducible] JL JC JQ OpWp Con ConN
attribute [local irreducible] byteAt runLen isL isD isName hasW
set_option maxHeartbeats 4000000

end Go.Proofs.YtlniadfidfmckaaDoor
end

section
namespace Go.Proofs.YtlniadfidfmckaaDoor
open Go.Vc
attribute [local irreducible] JL JC JQ OpWp
attribute [local irreducible] byteAt runLen isL isD isName hasW
set_option maxHeartbeats 4000000

def numS (n : Int) : ByteArray := ⟨(Lib.itoa n).toArray⟩
attribute [local irreducible] Con ConN
theorem numS_size (n : Int) (h0 : -2147483647 ≤ n) (h1 : n ≤ 2147483647) : (numS n).size ≤ 21 := by
  have := Lib.itoa_length_le n (by omega) (by omega)
  unfold numS
  simpa [ByteArray.size] using this
theorem numS_nonneg (n : Int) (h : 0 ≤ n) : numS n = decS n.toNat := by
  obtain ⟨u, rfl⟩ : ∃ u : Nat, n = u := ⟨n.toNat, by omega⟩
  unfold numS decS
  rw [Lib.itoa_nonneg, Int.toNat_natCast]
theorem numS_neg (n : Int) (h : n < 0) : numS n = ⟨#[45]⟩ ++ decS (-n).toNat := by
  obtain ⟨u, rfl⟩ : ∃ u : Nat, n = -(u : Int) := ⟨(-n).toNat, by omega⟩
  unfold numS decS
  rw [Lib.itoa_neg u (by omega), show (- -(u : Int)).toNat = u by omega]
  apply ByteArray.ext
  rw [ByteArray.data_append]
  simp
theorem refNumber_c (n : Int) (h : -2147483647 ≤ n ∧ n ≤ 2147483647) : Con Tryd.prog 28 [In .i64 n] [] (fun K => K (Str (numS n)) []) := by
  refine con_intro Tryd.func28 rfl rfl (Nat.le_of_ble_eq_true rfl) (fun c hc => R_ (E_ r_ (T_ (am_ (R_ (M_ r_ (o_ r_ (bw_ r_ r_ (T_ (jc_condd rfl (fun hn => ?_) (fun hn => ?_)))))))))))
  · have hD := Decimal_c (-n).toNat (by omega)
    rw [show (((-n).toNat : Nat) : Int) = -n by omega] at hD
    have h45 : (⟨#[45]⟩ : ByteArray).size = 1 := rfl
    have hz := decS_le (-n).toNat (by omega)
    refine R_ (M_ r_ (o_ r_ (cy_ r_ g_ (o_ r_ (bm_ r_ (hD) (o_ r_ (ow_strcat r_ r_ g_ (E_ r_ (T_ (ar_ (aw_ (jq_ret1 rfl rfl [] rfl (fun K h => by rw [numS_neg n hn] at h; exact h)))))))))))))
  · have hD := Decimal_c n.toNat (by omega)
    rw [show ((n.toNat : Nat) : Int) = n by omega] at hD
    refine as_ (al_ (R_ (M_ r_ (o_ r_ (bm_ r_ (hD) (E_ r_ (T_ (ar_ (jq_ret1 rfl rfl [] rfl (fun K h => by rw [numS_nonneg n g_] at h; exact h))))))))))
def textT : T → ByteArray
  | .nu n => if n < 0 then (⟨#[40]⟩ ++ numS n) ++ ⟨#[41]⟩ else numS n
  | .nm s => s
  | .ix s t => ((s ++ ⟨#[91]⟩) ++ textT t) ++ ⟨#[93]⟩
  | .bn o a b => (((((⟨#[40]⟩ ++ textT a) ++ ⟨#[32]⟩) ++ signT o) ++ ⟨#[32]⟩) ++ textT b) ++ ⟨#[41]⟩
theorem one_size (c : UInt8) : (⟨#[c]⟩ : ByteArray).size = 1 := rfl
theorem sign_size {o : Int} (h : 1 ≤ o ∧ o ≤ 14) : (signT o).size ≤ 2 := by
  rcases op14 h with rfl | rfl | rfl | rfl | rfl | rfl | rfl | rfl | rfl | rfl | rfl | rfl | rfl | rfl <;> decide
end Go.Proofs.YtlniadfidfmckaaDoor
end

section
namespace Go.Proofs.YtlniadfidfmckaaDoor
open Go.Vc

/-- A text that is empty, or begins with neither a letter nor a digit. -/
def endsW (r : ByteArray) : Prop := r.size = 0 ∨ isLD (byteAt r 0) = false
theorem runLen_ends {p : Int → Bool} (x r : ByteArray) (hr : r.size = 0 ∨ p (byteAt r 0) = false) : runLen p (x ++ r) = runLen p x := by
  unfold runLen
  rw [bytesI_app]
  refine takeWhile_app _ _ (fun n hn => ?_)
  obtain ⟨h0, rfl⟩ := head_bytes hn
  rcases hr with hr | hr
  · omega
  · exact hr
theorem isName_parts {s : ByteArray} (h : isName s = true) : 0 < s.size ∧ s.size ≤ 12 ∧ nameLen s = s.size ∧ isL (byteAt s 0) = true := by
  unfold isName at h
  simp only [Bool.and_eq_true, decide_eq_true_eq] at h
  refine ⟨h.1.1, h.1.2, h.2, ?_⟩
  cases hl : isL (byteAt s 0) with
  | true => rfl
  | false => have := nameLen_zero hl; omega
theorem next_name {s r : ByteArray} (h : isName s = true) (hr : endsW r) : nextT (s ++ r) = ((1, 0, s), s.size) := by
  obtain ⟨h0, h1, h2, h3⟩ := isName_parts h
  have e : nameLen (s ++ r) = s.size := by
    unfold nameLen at h2 ⊢
    rw [ByteArray.size_append, byteAt_app _ _ _ h0, runLen_ends s r hr, if_pos ⟨by omega, h3⟩]
    rw [if_pos ⟨h0, h3⟩] at h2
    exact h2
  unfold nextT
  rw [e, if_pos h0, if_neg (by omega), pre_app _ _ _ (Nat.le_refl _), pre_all]
/-- One token in front. -/
theorem px_tok {x r : ByteArray} {t : Int × Int × ByteArray} {L : List (Int × Int × ByteArray)} (hx : 0 < x.size) (hw : ¬ isW (byteAt x 0)) (hn : nextT (x ++ r) = (t, x.size)) (h : PX r L) : PX (x ++ r) (t :: L) := by
  intro line
  obtain ⟨l, hs, e⟩ := h line
  refine ⟨_ :: l, .tok (t := t) (n := x.size) (by rw [ByteArray.size_append]; omega) (by rw [byteAt_app _ _ _ hx]; exact hw) hn (by omega) (by rw [ext_app_right]; exact hs), by rw [List.map_cons, e]⟩
theorem px_name {s r : ByteArray} {L : List (Int × Int × ByteArray)} (hs : isName s = true) (hr : endsW r) (h : PX r L) : PX (s ++ r) ((1, 0, s) :: L) := by
  obtain ⟨h0, _, _, h3⟩ := isName_parts hs
  exact px_tok h0 (isL_notW h3) (next_name hs hr) h
theorem blanks_one : blanks ⟨#[32]⟩ := by
  intro c hc
  have : c = 32 := by simpa [bytesI] using hc
  exact .inl this
theorem px_sp {r : ByteArray} {L : List (Int × Int × ByteArray)} (h : PX r L) : PX ((⟨#[32]⟩ : ByteArray) ++ r) L := px_blank blanks_one h
theorem ends_sg {c : UInt8} (hc : isLD (c.toNat : Int) = false) (r : ByteArray) : endsW ((⟨#[c]⟩ : ByteArray) ++ r) := by
  refine .inr ?_
  rw [byteAt_app _ _ _ (by show 0 < 1; omega), byteAt_getD]
  exact hc
theorem led_sp (r : ByteArray) : blankLed ((⟨#[32]⟩ : ByteArray) ++ r) := by
  refine .inr ?_
  rw [byteAt_app _ _ _ (by show 0 < 1; omega), byteAt_getD]
  exact .inl rfl
end Go.Proofs.YtlniadfidfmckaaDoor
end
