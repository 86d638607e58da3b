import Derived.Test.YtalkkcfojplmdaaGreatDoorMo4
section
namespace Go.Proofs.YtalkkcfojplmdaaGreatDoor
open Go.Vc
attribute [local irreducible] JL JC JQ OpWp Con ConN
attribute [local irreducible] byteAt runLen isL isD isName hasW rd fineS numS textT hdT stsT stT
set_option maxHeartbeats 4000000

abbrev Bw (v : Value) (X : ByteArray) : Ch := .own v 5 1 ((bytesI X).map Brow)
theorem hdT1 {s : Sm} {x : T} (hk : s.kind = 1) (hv : s.value = [x]) : hdT s = ((s.name ++ Kst) ++ textT x) ++ Knl := by unfold hdT; rw [if_pos hk, hv]; rfl
theorem hdT2 {s : Sm} {x y : T} (hk : s.kind = 2) (hi : s.index = [y]) (hv : s.value = [x]) : hdT s = ((((s.name ++ Kx1) ++ textT y) ++ Kx2) ++ textT x) ++ Knl := by unfold hdT; rw [if_neg (by omega), if_pos hk, hv, hi]; rfl
theorem hdT3 {s : Sm} {x : T} (hk : s.kind = 3) (hv : s.value = [x]) : hdT s = (((Kif2 ++ textT x) ++ Klab) ++ numS s.label) ++ Kopen := by unfold hdT; rw [if_neg (by omega), if_neg (by omega), if_pos hk, hv]; rfl
theorem hdT4 {s : Sm} {x : T} (hk : s.kind = 4) (hv : s.value = [x]) : hdT s = (((((Kwh ++ textT x) ++ Kmx) ++ numS s.max) ++ Klab) ++ numS s.label) ++ Kopen := by unfold hdT; rw [if_neg (by omega), if_neg (by omega), if_neg (by omega), if_pos hk, hv]; rfl
theorem hdT5 {s : Sm} (hk : s.kind = 5) : hdT s = (Klk ++ s.name) ++ Kopen := by unfold hdT; rw [if_neg (by omega), if_neg (by omega), if_neg (by omega), if_neg (by omega)]
theorem row1 {s : Sm} {x : T} (h : s.value = [x]) : s.row' = [.val (.int .i64 s.kind), .val (.string s.name), .list (s.index.map T.row), .list ([x].map T.row), .val (.int .i64 s.max), .val (.int .i64 s.label), .list (s.thn.map Sm.row), .list (s.els.map Sm.row)] := by
  rw [← h]
theorem row2 {s : Sm} {x y : T} (hi : s.index = [y]) (h : s.value = [x]) : s.row' = [.val (.int .i64 s.kind), .val (.string s.name), .list ([y].map T.row), .list ([x].map T.row), .val (.int .i64 s.max), .val (.int .i64 s.label), .list (s.thn.map Sm.row), .list (s.els.map Sm.row)] := by
  rw [← h, ← hi]
end Go.Proofs.YtalkkcfojplmdaaGreatDoor
end

section
namespace Go.Proofs.YtalkkcfojplmdaaGreatDoor
open Go.Vc
attribute [local irreducible] JL JC JQ OpWp Con ConN
attribute [local irreducible] byteAt runLen isL isD isName hasW rd fineS numS textT hdT stsT stT okSs
set_option maxHeartbeats 8000000

def catL {α : Type} (f : α → ByteArray) : List α → ByteArray
  | [] => ⟨#[]⟩
  | a :: l => f a ++ catL f l
theorem catL_app {α : Type} (f : α → ByteArray) : ∀ l m : List α, catL f (l ++ m) = catL f l ++ catL f m
  | [], m => by rw [List.nil_append, catL, nil_ba]
  | a :: l, m => by rw [List.cons_append, catL, catL, catL_app f l m, ByteArray.append_assoc]
theorem catL_take {α : Type} (f : α → ByteArray) (Y : ByteArray) {l : List α} {k : Nat} (h : k < l.length) : Y ++ catL f (l.take (k + 1)) = (Y ++ catL f (l.take k)) ++ f l[k] := by
  rw [List.take_succ_eq_append_getElem h, catL_app, catL, catL, ba_nil, ByteArray.append_assoc]
theorem catL_size {α : Type} {f : α → ByteArray} {B : Nat} : ∀ {l : List α}, (∀ a ∈ l, (f a).size ≤ B) → (catL f l).size ≤ l.length * B
  | [], _ => by simp [catL]; rfl
  | a :: l, h => by
    have h1 := h a (by simp)
    have h2 := catL_size (l := l) (fun x hx => h x (by simp [hx]))
    rw [catL, ByteArray.size_append, List.length_cons, Nat.add_mul]
    omega
theorem catL_takeS {α : Type} {f : α → ByteArray} {B : Nat} {l : List α} (h : ∀ a ∈ l, (f a).size ≤ B) (k : Nat) : (catL f (l.take k)).size ≤ l.length * B := by
  have h1 := catL_size (l := l.take k) (fun a ha => h a (List.mem_of_mem_take ha))
  have h2 : (l.take k).length * B ≤ l.length * B := Nat.mul_le_mul_right _ (by rw [List.length_take]; omega)
  omega
def resT (x : ByteArray) : ByteArray := (((⟨#[114, 101, 115, 111, 117, 114, 99, 101, 32]⟩ : ByteArray) ++ x) ++ (⟨#[10]⟩ : ByteArray))
def shT (x : Shd) : ByteArray := (((((((⟨#[115, 104, 97, 114, 101, 100, 32]⟩ : ByteArray) ++ x.1) ++ (⟨#[32]⟩ : ByteArray)) ++ numS x.2.1) ++ (⟨#[32]⟩ : ByteArray)) ++ x.2.2) ++ (⟨#[10]⟩ : ByteArray))
def inT (x : Inp) : ByteArray := (((((((⟨#[105, 110, 112, 117, 116, 32]⟩ : ByteArray) ++ x.1) ++ (⟨#[32]⟩ : ByteArray)) ++ numS x.2.1) ++ (⟨#[32]⟩ : ByteArray)) ++ numS x.2.2) ++ (⟨#[10]⟩ : ByteArray))
def vaT (x : ByteArray) : ByteArray := (((⟨#[118, 97, 114, 32]⟩ : ByteArray) ++ x) ++ (⟨#[10]⟩ : ByteArray))
def arT (x : Arr) : ByteArray := (((((⟨#[97, 114, 114, 97, 121, 32]⟩ : ByteArray) ++ x.1) ++ (⟨#[32]⟩ : ByteArray)) ++ numS x.2) ++ (⟨#[10]⟩ : ByteArray))
def mdT (x : Md) : ByteArray := (((((((((⟨#[109, 111, 100, 101, 32]⟩ : ByteArray) ++ x.1) ++ (⟨#[32]⟩ : ByteArray)) ++ x.2.1) ++ (⟨#[32]⟩ : ByteArray)) ++ numS x.2.2.1) ++ (⟨#[32]⟩ : ByteArray)) ++ numS x.2.2.2) ++ (⟨#[10]⟩ : ByteArray))
def clT (x : Clm) : ByteArray := (((((⟨#[110, 101, 118, 101, 114, 32]⟩ : ByteArray) ++ numS x.1) ++ (⟨#[32]⟩ : ByteArray)) ++ numS x.2) ++ (⟨#[10]⟩ : ByteArray))
def tkHd (x : Tk) : ByteArray := (((((((((((⟨#[116, 97, 115, 107, 32]⟩ : ByteArray) ++ x.name) ++ (⟨#[32, 112, 101, 114, 105, 111, 100, 32]⟩ : ByteArray)) ++ numS x.period) ++ (⟨#[32, 100, 101, 97, 100, 108, 105, 110, 101, 32]⟩ : ByteArray)) ++ numS x.deadline) ++ (⟨#[32, 112, 114, 105, 111, 114, 105, 116, 121, 32]⟩ : ByteArray)) ++ numS x.priority) ++ (⟨#[32, 106, 105, 116, 116, 101, 114, 32]⟩ : ByteArray)) ++ numS x.jitter) ++ (⟨#[10]⟩ : ByteArray))
def tkT (t : Tk) : ByteArray := ((((((((tkHd t ++ catL inT t.inputs) ++ catL vaT t.vars) ++ catL arT t.arrays) ++ catL mdT t.modes) ++ catL clT t.claims) ++ (⟨#[98, 111, 100, 121, 10]⟩ : ByteArray)) ++ stsT Ksp t.body) ++ (⟨#[101, 110, 100, 10]⟩ : ByteArray))
def progT (p : Pg) : ByteArray := (catL resT p.res ++ catL shT p.shared) ++ catL tkT p.tasks
def progF (p : Pg) : ByteArray × Int := if okPg p = false then (⟨#[]⟩, 10) else if p.tasks.any (fun t => dpF 8 t.body) = true then (⟨#[]⟩, 4) else if 8192 < (progT p).size then (⟨#[]⟩, 4) else (progT p, 0)
/-- Sizes within reason. -/
structure TkSz (t : Tk) : Prop where
  inputs : t.inputs.length ≤ 1000
  vars : t.vars.length ≤ 1000
  arrays : t.arrays.length ≤ 1000
  modes : t.modes.length ≤ 1000
  claims : t.claims.length ≤ 1000
  body : Sm.szs t.body ≤ 1000000
structure PgSz (p : Pg) : Prop where
  res : p.res.length ≤ 1000
  shared : p.shared.length ≤ 1000
  len : p.tasks.length ≤ 1000
  tasks : ∀ t ∈ p.tasks, TkSz t
theorem resT_ok {x : ByteArray} (h : nameB x = true) : nmOk (x) := by
  exact nameB_ok.1 h
theorem resT_size {x : ByteArray} (h : nameB x = true) : (resT x).size ≤ 200 := by
  have h := resT_ok h
  have := name_size h
  simp only [resT, ByteArray.size_append, ba_lit, List.length_cons, List.length_nil]
  omega
theorem shT_ok {x : Shd} (h : shB x = true) : nmOk (x.1) ∧ Pl (x.2.1) ∧ nmOk (x.2.2) := by
  unfold shB at h
  simp only [Bool.and_eq_true, and_assoc] at h
  obtain ⟨h0, h1, h2⟩ := h
  exact ⟨nameB_ok.1 h0, plainB_ok.1 h1, nameB_ok.1 h2⟩
theorem shT_size {x : Shd} (h : shB x = true) : (shT x).size ≤ 200 := by
  have h := shT_ok h
  obtain ⟨h0, h1, h2⟩ := h
  have := name_size h0
  have := h1.size
  have := name_size h2
  simp only [shT, ByteArray.size_append, ba_lit, List.length_cons, List.length_nil]
  omega
theorem inT_ok {x : Inp} (h : inB x = true) : nmOk (x.1) ∧ (-2147483647 ≤ x.2.1 ∧ x.2.1 ≤ 2147483647) ∧ (-2147483647 ≤ x.2.2 ∧ x.2.2 ≤ 2147483647) := by
  unfold inB at h
  simp only [Bool.and_eq_true, and_assoc] at h
  obtain ⟨h0, h1, h2⟩ := h
  exact ⟨nameB_ok.1 h0, smallB_ok.1 h1, smallB_ok.1 h2⟩
theorem inT_size {x : Inp} (h : inB x = true) : (inT x).size ≤ 200 := by
  have h := inT_ok h
  obtain ⟨h0, h1, h2⟩ := h
  have := name_size h0
  have := numS_size _ h1.1 h1.2
  have := numS_size _ h2.1 h2.2
  simp only [inT, ByteArray.size_append, ba_lit, List.length_cons, List.length_nil]
  omega
theorem vaT_ok {x : ByteArray} (h : nameB x = true) : nmOk (x) := by
  exact nameB_ok.1 h
theorem vaT_size {x : ByteArray} (h : nameB x = true) : (vaT x).size ≤ 200 := by
  have h := vaT_ok h
  have := name_size h
  simp only [vaT, ByteArray.size_append, ba_lit, List.length_cons, List.length_nil]
  omega
theorem arT_ok {x : Arr} (h : arB x = true) : nmOk (x.1) ∧ Pl (x.2) := by
  unfold arB at h
  simp only [Bool.and_eq_true, and_assoc] at h
  obtain ⟨h0, h1⟩ := h
  exact ⟨nameB_ok.1 h0, plainB_ok.1 h1⟩
theorem arT_size {x : Arr} (h : arB x = true) : (arT x).size ≤ 200 := by
  have h := arT_ok h
  obtain ⟨h0, h1⟩ := h
  have := name_size h0
  have := h1.size
  simp only [arT, ByteArray.size_append, ba_lit, List.length_cons, List.length_nil]
  omega
theorem mdT_ok {x : Md} (h : mdB x = true) : nmOk (x.1) ∧ nmOk (x.2.1) ∧ (-2147483647 ≤ x.2.2.1 ∧ x.2.2.1 ≤ 2147483647) ∧ (-2147483647 ≤ x.2.2.2 ∧ x.2.2.2 ≤ 2147483647) := by
  unfold mdB at h
  simp only [Bool.and_eq_true, and_assoc] at h
  obtain ⟨h0, h1, h2, h3⟩ := h
  exact ⟨nameB_ok.1 h0, nameB_ok.1 h1, smallB_ok.1 h2, smallB_ok.1 h3⟩
theorem mdT_size {x : Md} (h : mdB x = true) : (mdT x).size ≤ 200 := by
  have h := mdT_ok h
  obtain ⟨h0, h1, h2, h3⟩ := h
  have := name_size h0
  have := name_size h1
  have := numS_size _ h2.1 h2.2
  have := numS_size _ h3.1 h3.2
  simp only [mdT, ByteArray.size_append, ba_lit, List.length_cons, List.length_nil]
  omega
theorem clT_ok {x : Clm} (h : clB x = true) : Pl (x.1) ∧ Pl (x.2) := by
  unfold clB at h
  simp only [Bool.and_eq_true, and_assoc] at h
  obtain ⟨h0, h1⟩ := h
  exact ⟨plainB_ok.1 h0, plainB_ok.1 h1⟩
theorem clT_size {x : Clm} (h : clB x = true) : (clT x).size ≤ 200 := by
  have h := clT_ok h
  obtain ⟨h0, h1⟩ := h
  have := h0.size
  have := h1.size
  simp only [clT, ByteArray.size_append, ba_lit, List.length_cons, List.length_nil]
  omega
theorem tk1_ok {x : Tk} (h : hdB x = true) : nmOk (x.name) ∧ Pl (x.period) ∧ Pl (x.deadline) ∧ Pl (x.priority) ∧ Pl (x.jitter) := by
  unfold hdB at h
  simp only [Bool.and_eq_true, and_assoc] at h
  obtain ⟨h0, h1, h2, h3, h4⟩ := h
  exact ⟨nameB_ok.1 h0, plainB_ok.1 h1, plainB_ok.1 h2, plainB_ok.1 h3, plainB_ok.1 h4⟩
theorem tk1_size {x : Tk} (h : hdB x = true) : (tkHd x).size ≤ 200 := by
  have h := tk1_ok h
  obtain ⟨h0, h1, h2, h3, h4⟩ := h
  have := name_size h0
  have := h1.size
  have := h2.size
  have := h3.size
  have := h4.size
  simp only [tkHd, ByteArray.size_append, ba_lit, List.length_cons, List.length_nil]
  omega
theorem hd_of {t : Tk} (h : okTk t = true) : hdB t = true ∧ okSs 20 t.body = true ∧ (∀ x ∈ t.inputs, inB x = true) ∧ (∀ x ∈ t.vars, nameB x = true) ∧ (∀ x ∈ t.arrays, arB x = true) ∧ (∀ x ∈ t.modes, mdB x = true) ∧ ∀ x ∈ t.claims, clB x = true := by
  unfold okTk at h
  simp only [Bool.and_eq_true, and_assoc, List.all_eq_true] at h
  exact h
theorem tkT_size {t : Tk} (h : okTk t = true) (hd : dpF 8 t.body = false) (hs : TkSz t) : (tkT t).size ≤ 60002000000 := by
  obtain ⟨h0, hb, h1, h2, h3, h4, h5⟩ := hd_of h
  have e0 := tk1_size h0
  have e1 := catL_size (f := inT) (fun x hx => inT_size (h1 x hx))
  have e2 := catL_size (f := vaT) (fun x hx => vaT_size (h2 x hx))
  have e3 := catL_size (f := arT) (fun x hx => arT_size (h3 x hx))
  have e4 := catL_size (f := mdT) (fun x hx => mdT_size (h4 x hx))
  have e5 := catL_size (f := clT) (fun x hx => clT_size (h5 x hx))
  have e6 := sts_size (sp := Ksp) (fine_of 8 20 t.body (by omega) hb hd) (by show 2 + 2 * 8 ≤ 100; omega)
  have := hs.inputs
  have := hs.vars
  have := hs.arrays
  have := hs.modes
  have := hs.claims
  have := hs.body
  simp only [tkT, ByteArray.size_append, ba_lit, List.length_cons, List.length_nil]
  omega
end Go.Proofs.YtalkkcfojplmdaaGreatDoor
end

section
namespace Go.Proofs.YtalkkcfojplmdaaGreatDoor
open Go.Vc
attribute [local irreducible] JL JC JQ OpWp Con ConN HOk
attribute [local irreducible] byteAt runLen isL isD isName hasW
set_option maxHeartbeats 4000000

theorem szs_step {l : List Sm} {k : Nat} (h : k < l.length) : Sm.szs (l.take (k + 1)) = Sm.szs (l.take k) + (1 + Sm.szs l[k].thn + Sm.szs l[k].els) := by
  rw [List.take_succ_eq_append_getElem h, Sm.szs_app, Sm.szs, Sm.sz_eq]
  rfl
theorem szs_step_le {l : List Sm} {k : Nat} (h : k < l.length) : Sm.szs (l.take k) + (1 + Sm.szs l[k].thn + Sm.szs l[k].els) ≤ Sm.szs l := by
  rw [← szs_step h]
  exact Sm.szs_take _ _
end Go.Proofs.YtalkkcfojplmdaaGreatDoor
end

section
namespace Go.Proofs.YtalkkcfojplmdaaGreatDoor
open Go.Vc
attribute [local irreducible] JL JC JQ OpWp Con ConN HOk
attribute [local irreducible] byteAt runLen isL isD isName hasW
set_option maxHeartbeats 4000000

/-- Sizes within reason. -/
structure PgOk (p : Pg) : Prop where
  sz : PgSz p
  ls : ∀ t ∈ p.tasks, Sm.lnss t.body
end Go.Proofs.YtalkkcfojplmdaaGreatDoor
end

section
namespace Go.Proofs.YtalkkcfojplmdaaGreatDoor
open Go.Vc
set_option maxHeartbeats 8000000
attribute [local irreducible] JL JC JQ OpWp Con ConN
attribute [local irreducible] StG BlG Mz

abbrev NilC : C := .val (.slice none 0 0)
abbrev Zt : List C := [.val (.string ⟨#[]⟩), .val (.int .i64 0), .val (.int .i64 0), .val (.int .i64 0), .val (.int .i64 0), NilC, NilC, NilC, NilC, NilC, NilC]
abbrev XY : List ByteArray := [⟨#[120]⟩, ⟨#[121]⟩]
abbrev VS : List ByteArray := [⟨#[105]⟩, ⟨#[107]⟩, ⟨#[110]⟩]
def InG (k : Nat) (l : List Inp) : Prop := l.map (·.1) = XY.take k ∧ ∀ x ∈ l, (-2 ≤ x.2.1 ∧ x.2.1 ≤ 3) ∧ x.2.1 ≤ x.2.2 ∧ x.2.2 ≤ x.2.1 + 11
def ArG (l : List Arr) : Prop := l = [] ∨ ∃ k : Nat, k ≤ 3 ∧ l = [(⟨#[97]⟩, 2 ^ k)]
def MdG (I : List Inp) (l : List Md) : Prop := l = [] ∨ ∃ x lo hi, I[0]? = some x ∧ (x.2.1 ≤ lo ∧ lo ≤ hi ∧ hi ≤ x.2.2) ∧ l = [(⟨#[102, 101, 119]⟩, x.1, lo, hi)]
def ClG (ifs : List Int) (l : List Clm) : Prop := l = [] ∨ ∃ (a b : Nat) (ha : a < ifs.length) (hb : b < ifs.length), a ≠ b ∧ l = [(ifs[a], ifs[b])]
structure TaskG (Sh : List Shd) (nm : ByteArray) (W : Int) (t : Tk) : Prop where
  name : t.name = nm
  period : 2000 ≤ t.period ∧ t.period ≤ 6000
  deadline : t.period - 400 ≤ t.deadline ∧ t.deadline ≤ t.period
  priority : 1 ≤ t.priority ∧ t.priority ≤ 5
  jitter : 0 ≤ t.jitter ∧ t.jitter ≤ 30
  inputs : t.inputs.length ≤ 2 ∧ InG t.inputs.length t.inputs
  vars : t.vars = VS
  arrays : ArG t.arrays
  modes : MdG t.inputs t.modes
  claims : ClG (ifsOf t.body) t.claims
  body : ∃ lab l n, BlG (StG (t.inputs.map (·.1) ++ VS) (t.arrays.map (·.1)) Sh 3 0 E0) 5 0 lab l ∧ t.body = l.take n
  weight : wAll 20 t.body 0 ≤ W
  size : Mz t.body 14
theorem InG.len {k : Nat} {l : List Inp} (h : InG k l) (hk : k ≤ 2) : l.length = k := by
  have := congrArg List.length h.1
  simpa [Nat.min_eq_left hk] using this
theorem InG.snoc {k : Nat} {l : List Inp} (h : InG k l) {s : ByteArray} {lo hi : Int} (hs : XY[k]? = some s) (hb : (-2 ≤ lo ∧ lo ≤ 3) ∧ lo ≤ hi ∧ hi ≤ lo + 11) : InG (k + 1) (l ++ [(s, lo, hi)]) := by
  refine ⟨?_, fun x hx => ?_⟩
  · obtain ⟨hlt, rfl⟩ := List.getElem?_eq_some_iff.1 hs
    rw [List.map_append, h.1, List.take_succ_eq_append_getElem hlt]
    rfl
  · rcases List.mem_append.1 hx with hx | hx
    · exact h.2 x hx
    · rw [List.mem_singleton.1 hx]; exact hb

section
variable {L : List Int} {bd : Nat} {Sh : List Shd}

end
end Go.Proofs.YtalkkcfojplmdaaGreatDoor
end

section
namespace Go.Proofs.YtalkkcfojplmdaaGreatDoor
open Go.Vc
set_option maxHeartbeats 8000000
attribute [local irreducible] JL JC JQ OpWp Con ConN

abbrev Nr : ByteArray := ⟨#[114]⟩
abbrev Ns : ByteArray := ⟨#[115]⟩
def RSl : Nat → List ByteArray
  | 0 => []
  | 1 => [Ns]
  | _ => [Nr, Ns]
def ShG (R : List ByteArray) (l : List Shd) : Prop := l = [] ∨ ∃ (r : ByteArray) (k : Nat), R[0]? = some r ∧ k ≤ 3 ∧ l = [(⟨#[98, 117, 102]⟩, 2 ^ k, r)]
def nmT (i : Nat) : ByteArray := ⟨#[116]⟩ ++ bytesOf [97 + (i : Int)]
structure PgG (T : Nat) (W : Int) (p : Pg) : Prop where
  res : ∃ n, n ≤ 2 ∧ p.res = RSl n
  shared : ShG p.res p.shared
  len : p.tasks.length = T
  tasks : ∀ (i : Nat) (h : i < p.tasks.length), TaskG p.shared (nmT i) W p.tasks[i]
section
variable {L : List Int} {bd : Nat}

end
end Go.Proofs.YtalkkcfojplmdaaGreatDoor
end

section
namespace Go.Proofs.YtalkkcfojplmdaaGreatDoor
open Go.Vc

theorem nmOk_lit {s : ByteArray} (h : (isName s && !hasW s) = true) : nmOk s := by
  simp only [Bool.and_eq_true, Bool.not_eq_true'] at h
  exact h
theorem ExG.fine {V U : List ByteArray} (hV : ∀ s ∈ V, nmOk s) (hU : ∀ s ∈ U, nmOk s) : ∀ {d : Nat} {t : T}, ExG V U d t → t.ok ∧ t.dep ≤ d + 1 := by
  intro d t h
  induction h with
  | nu d n h => exact ⟨h, by simp [T.dep]⟩
  | nm d s h => exact ⟨hV s h, by simp [T.dep]⟩
  | ix d s t h _ ih => exact ⟨⟨hU s h, ih.1⟩, by simp only [T.dep]; omega⟩
  | bn d o a b ho _ _ iha ihb => exact ⟨⟨ho, iha.1, ihb.1⟩, by simp only [T.dep]; omega⟩
theorem pc_all {St : Int → Int → List Sm → Prop} {P : Sm → Prop} (h : ∀ a b l, St a b l → 0 ≤ a → a ≤ b ∧ ∀ s ∈ l, P s) {k : Nat} {a b : Int} {l : List Sm} (hp : PcG St k a b l) (h0 : 0 ≤ a) : a ≤ b ∧ ∀ s ∈ l, P s := by
  induction hp with
  | nil => exact ⟨Int.le_refl _, by simp⟩
  | snoc k _ _ _ l l2 _ h2 ih =>
    obtain ⟨i1, i2⟩ := ih h0
    obtain ⟨j1, j2⟩ := h _ _ _ h2 (by omega)
    refine ⟨by omega, fun s hs => ?_⟩
    rcases List.mem_append.1 hs with hs | hs
    · exact i2 s hs
    · exact j2 s hs
theorem bl_all {St : Int → Int → List Sm → Prop} {P : Sm → Prop} (h : ∀ a b l, St a b l → 0 ≤ a → a ≤ b ∧ ∀ s ∈ l, P s) {m : Int} {a b : Int} {l : List Sm} (hp : BlG St m a b l) (h0 : 0 ≤ a) : a ≤ b ∧ ∀ s ∈ l, P s := by
  obtain ⟨k, _, hp⟩ := hp
  exact pc_all h hp h0
/-- An expression as makers make it. -/
def Fm (x : T) : Prop := x.ok ∧ x.dep ≤ 3
theorem Fm.fx {x : T} (h : Fm x) : Fx x := ⟨h.1, Nat.le_trans h.2 (by decide)⟩
/-- A statement as the grammar has it: of at most a depth. -/
def mdS : Nat → Sm → Prop
  | 0, _ => False
  | n + 1, s =>
    (∃ v x, nmOk v ∧ Fm x ∧ s = .mk 1 v [] [x] 0 0 [] []) ∨
    (∃ v y x, nmOk v ∧ Fm y ∧ Fm x ∧ s = .mk 2 v [y] [x] 0 0 [] []) ∨
    (∃ x lab t e, Fm x ∧ Pl lab ∧ (∀ u ∈ t, mdS n u) ∧ (∀ u ∈ e, mdS n u) ∧ s = .mk 3 E0 [] [x] 0 lab t e) ∨
    (∃ x mx lab t, Fm x ∧ Pl mx ∧ Pl lab ∧ (∀ u ∈ t, mdS n u) ∧ s = .mk 4 E0 [] [x] mx lab t []) ∨
    (∃ v t, nmOk v ∧ (∀ u ∈ t, mdS n u) ∧ s = .mk 5 v [] [] 0 0 t [])
theorem mdS.fine : ∀ {n : Nat} {s : Sm}, mdS n s → fineS n s
  | 0, _, h => h.elim
  | n + 1, s, h => by
    unfold mdS at h
    unfold fineS
    rcases h with ⟨v, x, hv, hx, rfl⟩ | ⟨v, y, x, hv, hy, hx, rfl⟩ | ⟨x, lab, t, e, hx, hl, ht, he, rfl⟩ | ⟨x, mx, lab, t, hx, hm, hl, ht, rfl⟩ | ⟨v, t, hv, ht, rfl⟩
    · exact .inl ⟨rfl, hv, x, rfl, hx.fx⟩
    · exact .inr (.inl ⟨rfl, hv, y, x, rfl, rfl, hy.fx, hx.fx⟩)
    · exact .inr (.inr (.inl ⟨rfl, ⟨x, rfl, hx.fx⟩, hl, fun u hu => (ht u hu).fine, fun u hu => (he u hu).fine⟩))
    · exact .inr (.inr (.inr (.inl ⟨rfl, ⟨x, rfl, hx.fx⟩, hm, hl, fun u hu => (ht u hu).fine, rfl⟩)))
    · exact .inr (.inr (.inr (.inr ⟨rfl, hv, fun u hu => (ht u hu).fine, rfl⟩)))
theorem md_set {n : Nat} {v : ByteArray} {x : T} (hv : nmOk v) (hx : Fm x) : mdS (n + 1) (.mk 1 v [] [x] 0 0 [] []) := .inl ⟨v, x, hv, hx, rfl⟩
theorem StG.md {V A : List ByteArray} {Sh : List Shd} (hV : ∀ s ∈ V, nmOk s) (hU : ∀ hs, ∀ s ∈ usableF A Sh hs, nmOk s) (hR : ∀ x ∈ Sh, nmOk x.2.2) : ∀ (d : Nat) (il : Int) (hs : ByteArray) (a b : Int) (l : List Sm), StG V A Sh d il hs a b l → 0 ≤ a → a ≤ b ∧ ∀ s ∈ l, mdS (d + 1) s := by
  have ex : ∀ {hs : ByteArray} {d : Nat} {t : T}, ExG V (usableF A Sh hs) d t → d ≤ 2 → Fm t := fun h hd => ⟨(h.fine hV (hU _)).1, by have := (h.fine hV (hU _)).2; omega⟩
  have leaf : ∀ {n : Nat} {hs : ByteArray} {a b : Int} {l : List Sm}, LeafG V (usableF A Sh hs) a b l → a ≤ b ∧ ∀ s ∈ l, mdS (n + 1) s := by
    rintro n hs a b l ⟨rfl, ⟨s, e, h1, h2, rfl⟩ | ⟨s, e1, e2, h1, h2, h3, rfl⟩⟩
    · refine ⟨Int.le_refl _, fun t ht => ?_⟩
      rw [List.mem_singleton.1 ht]
      exact md_set (hV s h1) (ex h2 (by omega))
    · refine ⟨Int.le_refl _, fun t ht => ?_⟩
      rw [List.mem_singleton.1 ht]
      exact .inr (.inl ⟨s, e1, e2, hU _ s h1, ex h2 (by omega), ex h3 (by omega), rfl⟩)
  intro d
  induction d with
  | zero => intro il hs a b l h _; exact leaf h
  | succ d ih =>
    intro il hs a b l h h0
    rcases h with h | ⟨hl, c, l1, l2, lab1, hc, hb1, hb2, rfl⟩ | ⟨_, hl, ⟨c, mx, l1, hc, hm, hb, rfl⟩ | ⟨v, n, op, top, mx, l1, st, hv, hn, ho, ht, hm, hst, hb, rfl⟩⟩ | ⟨_, sh, hsh, l1, hb, rfl⟩
    · exact leaf h
    · obtain ⟨g1, g2⟩ := bl_all (ih il hs) hb1 (by omega)
      have g3 : lab1 ≤ b ∧ ∀ s ∈ l2, mdS (d + 1) s := by
        rcases hb2 with ⟨rfl, rfl⟩ | hb2
        · exact ⟨Int.le_refl _, by simp⟩
        · exact bl_all (ih il hs) hb2 (by omega)
      refine ⟨by omega, fun t ht => ?_⟩
      rw [List.mem_singleton.1 ht]
      exact .inr (.inr (.inl ⟨c, a + 1, l1, l2, ex hc (by omega), ⟨by omega, by omega⟩, g2, g3.2, rfl⟩))
    · obtain ⟨g1, g2⟩ := bl_all (ih (il + 1) hs) hb (by omega)
      refine ⟨by omega, fun t ht => ?_⟩
      rw [List.mem_singleton.1 ht]
      exact .inr (.inr (.inr (.inl ⟨c, mx, a + 1, l1, ex hc (by omega), ⟨by omega, by omega⟩, ⟨by omega, by omega⟩, g2, rfl⟩)))
    · obtain ⟨g1, g2⟩ := bl_all (ih (il + 1) hs) hb (by omega)
      have hv2 := hV v hv
      have htop : top.ok ∧ top.dep ≤ 1 := by
        rcases ht with ⟨t, ht, rfl⟩ | ⟨s, hs, rfl⟩
        · exact ⟨by show _ ∧ _; omega, by simp [T.dep]⟩
        · exact ⟨hV s hs, by simp [T.dep]⟩
      have hfn : Fm (.nu n) := ⟨by show _ ∧ _; omega, by simp [T.dep]⟩
      have hfc : Fm (.bn (11 + op) (.nm v) top) := ⟨⟨by omega, hv2, htop.1⟩, by simp only [T.dep]; omega⟩
      have hfs : Fm (.bn 1 (.nm v) (.nu st)) := ⟨⟨by omega, hv2, by show _ ∧ _; omega⟩, by simp [T.dep]⟩
      refine ⟨by omega, fun t ht => ?_⟩
      rcases List.mem_cons.1 ht with rfl | ht
      · exact md_set hv2 hfn
      · rw [List.mem_singleton.1 ht]
        refine .inr (.inr (.inr (.inl ⟨_, mx, a + 1, _, hfc, ⟨by omega, by omega⟩, ⟨by omega, by omega⟩, fun s hs => ?_, rfl⟩)))
        rcases List.mem_append.1 hs with hs | hs
        · exact g2 s hs
        · rw [List.mem_singleton.1 hs]
          exact md_set hv2 hfs
    · obtain ⟨g1, g2⟩ := bl_all (ih il sh.2.2) hb h0
      refine ⟨g1, fun t ht => ?_⟩
      rw [List.mem_singleton.1 ht]
      exact .inr (.inr (.inr (.inr ⟨sh.2.2, l1, hR sh hsh, g2, rfl⟩)))
/-- The names of a made task. -/
structure NmsG (Sh : List Shd) (t : Tk) : Prop where
  vars : ∀ s ∈ t.inputs.map (·.1) ++ VS, nmOk s
  usable : ∀ hs, ∀ s ∈ usableF (t.arrays.map (·.1)) Sh hs, nmOk s
  locks : ∀ x ∈ Sh, nmOk x.2.2
theorem RS_ok {n : Nat} : ∀ s ∈ RSl n, nmOk s := by
  rcases n with _ | _ | n
  · simp [RSl]
  · intro s hs
    simp only [RSl, List.mem_singleton] at hs
    subst hs
    exact nmOk_lit (by decide +kernel)
  · intro s hs
    simp only [RSl, List.mem_cons, List.not_mem_nil, or_false] at hs
    rcases hs with rfl | rfl <;> exact nmOk_lit (by decide +kernel)
theorem nms_of {R : List ByteArray} {n : Nat} {Sh : List Shd} {nm : ByteArray} {W : Int} {t : Tk} (hR : R = RSl n) (hSh : ShG R Sh) (h : TaskG Sh nm W t) : NmsG Sh t := by
  have hshN : ∀ x ∈ Sh, nmOk x.1 ∧ nmOk x.2.2 := by
    rcases hSh with rfl | ⟨r, k, hr, _, rfl⟩
    · simp
    · intro x hx
      rw [List.mem_singleton.1 hx]
      exact ⟨nmOk_lit (s := ⟨#[98, 117, 102]⟩) (by decide +kernel), RS_ok (n := n) r (by rw [← hR]; exact List.mem_of_getElem? hr)⟩
  refine ⟨?_, ?_, fun x hx => (hshN x hx).2⟩
  · intro s hs
    rcases List.mem_append.1 hs with hs | hs
    · rw [h.inputs.2.1] at hs
      have := List.mem_of_mem_take hs
      simp only [List.mem_cons, List.not_mem_nil, or_false] at this
      rcases this with rfl | rfl <;> exact nmOk_lit (by decide +kernel)
    · simp only [List.mem_cons, List.not_mem_nil, or_false] at hs
      rcases hs with rfl | rfl | rfl <;> exact nmOk_lit (by decide +kernel)
  · intro hs s hm
    unfold usableF at hm
    rcases List.mem_append.1 hm with hm | hm
    · rcases h.arrays with e | ⟨k, _, e⟩
      · rw [e] at hm; simp at hm
      · rw [e] at hm
        simp only [List.map_cons, List.map_nil, List.mem_singleton] at hm
        subst hm
        exact nmOk_lit (by decide +kernel)
    · obtain ⟨x, hx, he⟩ := List.mem_filterMap.1 hm
      split at he
      · rw [← Option.some.inj he]
        exact (hshN x hx).1
      · cases he
theorem TaskG.md {Sh : List Shd} {nm : ByteArray} {W : Int} {t : Tk} (hN : NmsG Sh t) (h : TaskG Sh nm W t) : ∀ s ∈ t.body, mdS 4 s := by
  obtain ⟨lab, l, n, hl, hb⟩ := h.body
  obtain ⟨_, g⟩ := bl_all (StG.md hN.vars hN.usable hN.locks 3 0 E0) hl (Int.le_refl _)
  intro s hs
  rw [hb] at hs
  exact g s (List.mem_of_mem_take hs)
theorem PgG.md {T : Nat} {W : Int} {p : Pg} (h : PgG T W p) : ∀ t ∈ p.tasks, ∀ s ∈ t.body, mdS 4 s := by
  intro t ht
  obtain ⟨i, hi, rfl⟩ := List.mem_iff_getElem.1 ht
  obtain ⟨n, _, hR⟩ := h.res
  exact (h.tasks i hi).md (nms_of hR h.shared (h.tasks i hi))
end Go.Proofs.YtalkkcfojplmdaaGreatDoor
end

section
namespace Go.Proofs.YtalkkcfojplmdaaGreatDoor
open Go.Vc
attribute [local irreducible] JL JC JQ OpWp Con ConN
end Go.Proofs.YtalkkcfojplmdaaGreatDoor
end

section
namespace Go.Proofs.YtalkkcfojplmdaaGreatDoor
open Go.Vc
attribute [local irreducible] JL JC JQ OpWp Con ConN
attribute [local irreducible] progT StG BlG
attribute [local irreducible] progF

theorem TaskG.sz {Sh : List Shd} {nm : ByteArray} {W : Int} {t : Tk} (h : TaskG Sh nm W t) : TkSz t := by
  obtain ⟨lab, l, n, hl, hb⟩ := h.body
  have h1 := body_szs hl
  have h2 := Sm.szs_take l n
  refine ⟨by have := h.inputs.1; omega, by rw [h.vars]; decide, ?_, ?_, ?_, by rw [hb]; omega⟩
  · rcases h.arrays with e | ⟨k, _, e⟩ <;> rw [e] <;> simp
  · rcases h.modes with e | ⟨x, lo, hi, _, _, e⟩ <;> rw [e] <;> simp
  · rcases h.claims with e | ⟨a, b, _, _, _, e⟩ <;> rw [e] <;> simp
theorem PgG.sz {T : Nat} {W : Int} {p : Pg} (hT : T ≤ 1000) (h : PgG T W p) : PgSz p := by
  refine ⟨?_, ?_, by rw [h.len]; exact hT, ?_⟩
  · obtain ⟨n, hn, e⟩ := h.res
    rw [e]
    rcases n with _ | _ | n <;> simp [RSl]
  · rcases h.shared with e | ⟨r, k, _, _, e⟩ <;> rw [e] <;> simp
  · intro t ht
    obtain ⟨i, hi, rfl⟩ := List.mem_iff_getElem.1 ht
    exact (h.tasks i hi).sz
end Go.Proofs.YtalkkcfojplmdaaGreatDoor
end

section
namespace Go.Proofs.YtalkkcfojplmdaaGreatDoor
open Go.Vc
set_option maxHeartbeats 1000000

theorem numS_dig {n : Int} {k : Nat} (h0 : 0 ≤ n) (hk : 1 ≤ k) (h : n < (10 ^ k : Nat)) : (numS n).size ≤ k := by
  rw [numS_nonneg n h0, decS_size]
  exact nDigits_le k n.toNat hk (by omega)
theorem numS_11 {n : Int} (h0 : -2147483647 ≤ n) (h1 : n ≤ 2147483647) : (numS n).size ≤ 11 := by
  by_cases hn : n < 0
  · rw [numS_neg n hn, ByteArray.size_append, one_size]
    have := decS_le (-n).toNat (by omega)
    omega
  · rw [numS_nonneg n (by omega)]
    have := decS_le n.toNat (by omega)
    omega
theorem hdT_3 (v i x m lb t e) : hdT (.mk 3 v i x m lb t e) = (((Kif2 ++ tx1 x) ++ Klab) ++ numS lb) ++ Kopen := by simp [hdT, Sm.kind, Sm.value, Sm.label]
theorem hdT_4 (v i x m lb t e) : hdT (.mk 4 v i x m lb t e) = (((((Kwh ++ tx1 x) ++ Kmx) ++ numS m) ++ Klab) ++ numS lb) ++ Kopen := by simp [hdT, Sm.kind, Sm.value, Sm.label, Sm.max]
theorem node_sz {sp : ByteArray} {s : Sm} (h : ¬ (s.kind = 1 ∨ s.kind = 2)) : (stT sp s).size ≤ sp.size + (hdT s).size + (stsT (sp ++ Ksp) s.thn).size + (sp.size + 9 + (stsT (sp ++ Ksp) s.els).size) + (sp.size + 2) ∧ (s.els = [] → (stT sp s).size = sp.size + (hdT s).size + (stsT (sp ++ Ksp) s.thn).size + (sp.size + 2)) := by
  rw [stT_node sp h]
  split
  · simp only [ByteArray.size_append, show Kclose.size = 2 from rfl, show (⟨#[]⟩ : ByteArray).size = 0 from rfl]
    exact ⟨by omega, fun _ => by omega⟩
  · simp only [ByteArray.size_append, show Kclose.size = 2 from rfl, show Kelse2.size = 9 from rfl]
    exact ⟨by omega, fun h => absurd h (by assumption)⟩
theorem Fm.one {x : T} (h : Fm x) : oneB [x] = true := (shpF_ok 20 x (by have := h.2; omega)).2 h.1
theorem Pl.b {n : Int} (h : Pl n) : plainB n = true := plainB_ok.2 h
theorem md_okS : ∀ (n F : Nat) (l : List Sm), n ≤ F → (∀ s ∈ l, mdS n s) → okSs F l = true
  | 0, 0, l, _, _ => rfl
  | 0, F + 1, l, _, h => by
    cases l with
    | nil => rfl
    | cons s l => exact (h s (by simp)).elim
  | n + 1, 0, l, hF, _ => by omega
  | n + 1, F + 1, l, hF, h => by
    rw [okSs, List.all_eq_true]
    intro s hs
    have h1 := h s hs
    unfold mdS at h1
    have ih := fun l hl => md_okS n F l (by omega) hl
    rcases h1 with ⟨v, x, hv, hx, rfl⟩ | ⟨v, y, x, hv, hy, hx, rfl⟩ | ⟨x, lab, t, e, hx, hl, ht, he, rfl⟩ | ⟨x, mx, lab, t, hx, hm, hl, ht, rfl⟩ | ⟨v, t, hv, ht, rfl⟩
    · simp [okOne, Sm.kind, Sm.name, Sm.index, Sm.value, Sm.max, Sm.label, Sm.thn, Sm.els, nameB_ok.2 hv, hx.one]
    · simp [okOne, Sm.kind, Sm.name, Sm.index, Sm.value, Sm.max, Sm.label, Sm.thn, Sm.els, nameB_ok.2 hv, hx.one, hy.one]
    · simp [okOne, Sm.kind, Sm.name, Sm.index, Sm.value, Sm.max, Sm.label, Sm.thn, Sm.els, hx.one, hl.b, ih t ht, ih e he]
    · simp [okOne, Sm.kind, Sm.name, Sm.index, Sm.value, Sm.max, Sm.label, Sm.thn, Sm.els, hx.one, hm.b, hl.b, ih t ht]
    · simp [okOne, Sm.kind, Sm.name, Sm.index, Sm.value, Sm.max, Sm.label, Sm.thn, Sm.els, nameB_ok.2 hv, ih t ht]
theorem md_deep : ∀ (n F : Nat) (l : List Sm), n ≤ F → (∀ s ∈ l, mdS n s) → dpF F l = false
  | 0, F, l, _, h => by
    cases l with
    | nil => cases F <;> rfl
    | cons s l => exact (h s (by simp)).elim
  | n + 1, 0, l, hF, _ => by omega
  | n + 1, F + 1, l, hF, h => by
    rw [dpF, List.any_eq_false]
    intro s hs
    have h1 := h s hs
    unfold mdS at h1
    have ih := fun l hl => md_deep n F l (by omega) hl
    have dx : ∀ x : T, Fm x → dpx x = false := fun x hx => decide_eq_false (by have := hx.2; omega)
    rcases h1 with ⟨v, x, hv, hx, rfl⟩ | ⟨v, y, x, hv, hy, hx, rfl⟩ | ⟨x, lab, t, e, hx, hl, ht, he, rfl⟩ | ⟨x, mx, lab, t, hx, hm, hl, ht, rfl⟩ | ⟨v, t, hv, ht, rfl⟩
    · simp [dpS, Sm.index, Sm.value, Sm.thn, Sm.els, dx x hx, ih [] (by simp)]
    · simp [dpS, Sm.index, Sm.value, Sm.thn, Sm.els, dx x hx, dx y hy, ih [] (by simp)]
    · simp [dpS, Sm.index, Sm.value, Sm.thn, Sm.els, dx x hx, ih t ht, ih e he]
    · simp [dpS, Sm.index, Sm.value, Sm.thn, Sm.els, dx x hx, ih t ht, ih [] (by simp)]
    · simp [dpS, Sm.index, Sm.value, Sm.thn, Sm.els, ih t ht, ih [] (by simp)]
end Go.Proofs.YtalkkcfojplmdaaGreatDoor
end

section
namespace Go.Proofs.YtalkkcfojplmdaaGreatDoor
open Go.Vc
set_option maxHeartbeats 1000000

def seqI (a : Int) (n : Nat) : List Int := (List.range n).map fun i : Nat => a + 1 + (i : Int)
theorem seqI_app (a : Int) (n m : Nat) : seqI a n ++ seqI (a + n) m = seqI a (n + m) := by
  unfold seqI
  rw [List.range_add, List.map_append, List.map_map]
  congr 1
  refine List.map_congr_left (fun i _ => ?_)
  simp only [Function.comp]
  omega
theorem seqI_one (a : Int) : seqI a 1 = [a + 1] := by simp [seqI]
theorem Sm.lbss_flat (w : Int → Bool) : ∀ l : List Sm, Sm.lbss w l = l.flatMap (Sm.lbs w)
  | [] => rfl
  | s :: l => by rw [Sm.lbss, Sm.lbss_flat w l, List.flatMap_cons]
theorem Sm.lbss_app (w : Int → Bool) (l m : List Sm) : Sm.lbss w (l ++ m) = Sm.lbss w l ++ Sm.lbss w m := by rw [Sm.lbss_flat, Sm.lbss_flat, Sm.lbss_flat, List.flatMap_append]
/-- Labels that go from one number to another. -/
def Lb (a b : Int) (l : List Sm) : Prop := a ≤ b ∧ b ≤ 12 ∧ Sm.lbss isIW l = seqI a (b - a).toNat
theorem Lb.nil {a : Int} (h : a ≤ 12) : Lb a a [] := ⟨Int.le_refl _, h, by rw [Int.sub_self]; rfl⟩
theorem Lb.app {a b c : Int} {l m : List Sm} (h : Lb a b l) (k : Lb b c m) : Lb a c (l ++ m) := by
  obtain ⟨h1, h2, h3⟩ := h
  obtain ⟨k1, k2, k3⟩ := k
  refine ⟨by omega, k2, ?_⟩
  have e := seqI_app a (b - a).toNat (c - b).toNat
  rw [show a + ((b - a).toNat : Int) = b by omega] at e
  rw [Sm.lbss_app, h3, k3, e]
  congr 1
  omega
theorem pc_lab {St : Int → Int → List Sm → Prop} (h : ∀ a b l, St a b l → 0 ≤ a → a ≤ 12 → Lb a b l) {k : Nat} {a b : Int} {l : List Sm} (hp : PcG St k a b l) (h0 : 0 ≤ a) (h1 : a ≤ 12) : Lb a b l := by
  induction hp with
  | nil => exact .nil h1
  | snoc k _ _ _ l l2 _ h2 ih =>
    have h3 := ih h0 h1
    exact h3.app (h _ _ _ h2 (by have := h3.1; omega) h3.2.1)
theorem bl_lab {St : Int → Int → List Sm → Prop} (h : ∀ a b l, St a b l → 0 ≤ a → a ≤ 12 → Lb a b l) {m : Int} {a b : Int} {l : List Sm} (hp : BlG St m a b l) (h0 : 0 ≤ a) (h1 : a ≤ 12) : Lb a b l := by
  obtain ⟨k, _, hp⟩ := hp
  exact pc_lab h hp h0 h1
theorem StG.lab {V A : List ByteArray} {Sh : List Shd} : ∀ (d : Nat) (il : Int) (hs : ByteArray) (a b : Int) (l : List Sm), StG V A Sh d il hs a b l → 0 ≤ a → a ≤ 12 → Lb a b l := by
  have leaf : ∀ {U : List ByteArray} {a b : Int} {l : List Sm}, LeafG V U a b l → a ≤ 12 → Lb a b l := by
    rintro U a b l ⟨rfl, ⟨s, e, h1, h2, rfl⟩ | ⟨s, e1, e2, h1, h2, h3, rfl⟩⟩ h12
    · exact ⟨Int.le_refl _, h12, by rw [Int.sub_self]; simp [Sm.lbss, Sm.lbs, isIW]; rfl⟩
    · exact ⟨Int.le_refl _, h12, by rw [Int.sub_self]; simp [Sm.lbss, Sm.lbs, isIW]; rfl⟩
  have node : ∀ {a b : Int} {k : Int} {nm : ByteArray} {i v : List T} {m : Int} {t e : List Sm}, isIW k = true → Lb (a + 1) b (t ++ e) → Lb a b [.mk k nm i v m (a + 1) t e] := by
    intro a b k nm i v m t e hk h
    obtain ⟨h1, h2, h3⟩ := h
    refine ⟨by omega, h2, ?_⟩
    have e1 := seqI_app a 1 (b - (a + 1)).toNat
    rw [show a + ((1 : Nat) : Int) = a + 1 by omega, seqI_one] at e1
    rw [Sm.lbss_app] at h3
    simp only [Sm.lbss, Sm.lbs, hk, if_true, List.append_nil]
    rw [List.append_assoc, h3, e1]
    congr 1
    omega
  intro d
  induction d with
  | zero => intro il hs a b l h _ h12; exact leaf h h12
  | succ d ih =>
    intro il hs a b l h h0 h12
    rcases h with h | ⟨hl, c, l1, l2, lab1, hc, hb1, hb2, rfl⟩ | ⟨_, hl, ⟨c, mx, l1, hc, hm, hb, rfl⟩ | ⟨v, n, op, top, mx, l1, st, hv, hn, ho, ht, hm, hst, hb, rfl⟩⟩ | ⟨_, sh, hsh, l1, hb, rfl⟩
    · exact leaf h h12
    · have g1 := bl_lab (ih il hs) hb1 (by omega) (by omega)
      have g3 : Lb lab1 b l2 := by
        rcases hb2 with ⟨rfl, rfl⟩ | hb2
        · exact .nil g1.2.1
        · exact bl_lab (ih il hs) hb2 (by have := g1.1; omega) g1.2.1
      exact node rfl (g1.app g3)
    · have g1 := bl_lab (ih (il + 1) hs) hb (by omega) (by omega)
      exact node rfl (by rw [List.append_nil]; exact g1)
    · have g1 := bl_lab (ih (il + 1) hs) hb (by omega) (by omega)
      have g2 : Lb b b [Sm.mk 1 v [] [.bn 1 (.nm v) (.nu st)] 0 0 [] []] := ⟨Int.le_refl _, g1.2.1, by rw [Int.sub_self]; simp [Sm.lbss, Sm.lbs, isIW]; rfl⟩
      have g3 : Lb a a [Sm.mk 1 v [] [.nu n] 0 0 [] []] := ⟨Int.le_refl _, h12, by rw [Int.sub_self]; simp [Sm.lbss, Sm.lbs, isIW]; rfl⟩
      exact g3.app (node rfl (by rw [List.append_nil]; exact g1.app g2))
    · have g1 := bl_lab (ih il sh.2.2) hb h0 h12
      obtain ⟨k1, k2, k3⟩ := g1
      exact ⟨k1, k2, by rw [← k3]; simp [Sm.lbss, Sm.lbs, isIW]⟩
theorem ExG.use {V U vs ar : List ByteArray} (hV : ∀ s ∈ V, s ∈ vs) (hU : ∀ s ∈ U, s ∈ ar) : ∀ {d : Nat} {t : T}, ExG V U d t → useB vs ar t = true := by
  intro d t h
  induction h with
  | nu d n h => rfl
  | nm d s h => exact hasB_iff.2 (hV s h)
  | ix d s t h _ ih => simp only [useB, Bool.and_eq_true]; exact ⟨hasB_iff.2 (hU s h), ih⟩
  | bn d o a b _ _ _ ia ib => simp only [useB, Bool.and_eq_true]; exact ⟨ia, ib⟩
theorem ExG.wd {V U : List ByteArray} : ∀ {d : Nat} {t : T}, ExG V U d t → wdT t = true := by
  intro d t h
  induction h with
  | nu d n h => simp only [wdT, Bool.and_eq_true, decide_eq_true_eq]; omega
  | nm d s h => rfl
  | ix d s t h _ ih => exact ih
  | bn d o a b _ _ _ ia ib => simp only [wdT, Bool.and_eq_true]; exact ⟨ia, ib⟩
theorem ExG.free {V U : List ByteArray} {sh : List Shd} {h : ByteArray} (hU : ∀ s ∈ U, allowB sh h s = true) : ∀ {d : Nat} {t : T}, ExG V U d t → freeB sh h t = true := by
  intro d t hh
  induction hh with
  | nu d n h => rfl
  | nm d s h => rfl
  | ix d s t h _ ih => simp only [freeB, Bool.and_eq_true]; exact ⟨hU s h, ih⟩
  | bn d o a b _ _ _ ia ib => simp only [freeB, Bool.and_eq_true]; exact ⟨ia, ib⟩
end Go.Proofs.YtalkkcfojplmdaaGreatDoor
end
