import Derived.Test.YtalkkcfojplmdaaGreatDoorMe4
section
namespace Go.Proofs.YtalkkcfojplmdaaGreatDoor
open Go.Vc
attribute [local irreducible] JL JC JQ OpWp Con ConN
attribute [local irreducible] byteAt runLen isL isD isName hasW rd fineS numS textT hdT stsT stT
set_option maxHeartbeats 4000000

abbrev Bw (v : Value) (X : ByteArray) : Ch := .own v 5 1 ((bytesI X).map Brow)
theorem hdT1 {s : Sm} {x : T} (hk : s.kind = 1) (hv : s.value = [x]) : hdT s = ((s.name ++ Kst) ++ textT x) ++ Knl := by unfold hdT; rw [if_pos hk, hv]; rfl
theorem hdT2 {s : Sm} {x y : T} (hk : s.kind = 2) (hi : s.index = [y]) (hv : s.value = [x]) : hdT s = ((((s.name ++ Kx1) ++ textT y) ++ Kx2) ++ textT x) ++ Knl := by unfold hdT; rw [if_neg (by omega), if_pos hk, hv, hi]; rfl
theorem hdT3 {s : Sm} {x : T} (hk : s.kind = 3) (hv : s.value = [x]) : hdT s = (((Kif2 ++ textT x) ++ Klab) ++ numS s.label) ++ Kopen := by unfold hdT; rw [if_neg (by omega), if_neg (by omega), if_pos hk, hv]; rfl
theorem hdT4 {s : Sm} {x : T} (hk : s.kind = 4) (hv : s.value = [x]) : hdT s = (((((Kwh ++ textT x) ++ Kmx) ++ numS s.max) ++ Klab) ++ numS s.label) ++ Kopen := by unfold hdT; rw [if_neg (by omega), if_neg (by omega), if_neg (by omega), if_pos hk, hv]; rfl
theorem hdT5 {s : Sm} (hk : s.kind = 5) : hdT s = (Klk ++ s.name) ++ Kopen := by unfold hdT; rw [if_neg (by omega), if_neg (by omega), if_neg (by omega), if_neg (by omega)]
theorem row1 {s : Sm} {x : T} (h : s.value = [x]) : s.row' = [.val (.int .i64 s.kind), .val (.string s.name), .list (s.index.map T.row), .list ([x].map T.row), .val (.int .i64 s.max), .val (.int .i64 s.label), .list (s.thn.map Sm.row), .list (s.els.map Sm.row)] := by
  rw [← h]
theorem row2 {s : Sm} {x y : T} (hi : s.index = [y]) (h : s.value = [x]) : s.row' = [.val (.int .i64 s.kind), .val (.string s.name), .list ([y].map T.row), .list ([x].map T.row), .val (.int .i64 s.max), .val (.int .i64 s.label), .list (s.thn.map Sm.row), .list (s.els.map Sm.row)] := by
  rw [← h, ← hi]
end Go.Proofs.YtalkkcfojplmdaaGreatDoor
end

section
namespace Go.Proofs.YtalkkcfojplmdaaGreatDoor
open Go.Vc
attribute [local irreducible] JL JC JQ OpWp Con ConN
attribute [local irreducible] byteAt runLen isL isD isName hasW rd fineS numS textT hdT stsT stT okSs
set_option maxHeartbeats 8000000

def catL {α : Type} (f : α → ByteArray) : List α → ByteArray
  | [] => ⟨#[]⟩
  | a :: l => f a ++ catL f l
theorem catL_app {α : Type} (f : α → ByteArray) : ∀ l m : List α, catL f (l ++ m) = catL f l ++ catL f m
  | [], m => by rw [List.nil_append, catL, nil_ba]
  | a :: l, m => by rw [List.cons_append, catL, catL, catL_app f l m, ByteArray.append_assoc]
theorem catL_take {α : Type} (f : α → ByteArray) (Y : ByteArray) {l : List α} {k : Nat} (h : k < l.length) : Y ++ catL f (l.take (k + 1)) = (Y ++ catL f (l.take k)) ++ f l[k] := by
  rw [List.take_succ_eq_append_getElem h, catL_app, catL, catL, ba_nil, ByteArray.append_assoc]
theorem catL_size {α : Type} {f : α → ByteArray} {B : Nat} : ∀ {l : List α}, (∀ a ∈ l, (f a).size ≤ B) → (catL f l).size ≤ l.length * B
  | [], _ => by simp [catL]; rfl
  | a :: l, h => by
    have h1 := h a (by simp)
    have h2 := catL_size (l := l) (fun x hx => h x (by simp [hx]))
    rw [catL, ByteArray.size_append, List.length_cons, Nat.add_mul]
    omega
theorem catL_takeS {α : Type} {f : α → ByteArray} {B : Nat} {l : List α} (h : ∀ a ∈ l, (f a).size ≤ B) (k : Nat) : (catL f (l.take k)).size ≤ l.length * B := by
  have h1 := catL_size (l := l.take k) (fun a ha => h a (List.mem_of_mem_take ha))
  have h2 : (l.take k).length * B ≤ l.length * B := Nat.mul_le_mul_right _ (by rw [List.length_take]; omega)
  omega
def resT (x : ByteArray) : ByteArray := (((⟨#[114, 101, 115, 111, 117, 114, 99, 101, 32]⟩ : ByteArray) ++ x) ++ (⟨#[10]⟩ : ByteArray))
def shT (x : Shd) : ByteArray := (((((((⟨#[115, 104, 97, 114, 101, 100, 32]⟩ : ByteArray) ++ x.1) ++ (⟨#[32]⟩ : ByteArray)) ++ numS x.2.1) ++ (⟨#[32]⟩ : ByteArray)) ++ x.2.2) ++ (⟨#[10]⟩ : ByteArray))
def inT (x : Inp) : ByteArray := (((((((⟨#[105, 110, 112, 117, 116, 32]⟩ : ByteArray) ++ x.1) ++ (⟨#[32]⟩ : ByteArray)) ++ numS x.2.1) ++ (⟨#[32]⟩ : ByteArray)) ++ numS x.2.2) ++ (⟨#[10]⟩ : ByteArray))
def vaT (x : ByteArray) : ByteArray := (((⟨#[118, 97, 114, 32]⟩ : ByteArray) ++ x) ++ (⟨#[10]⟩ : ByteArray))
def arT (x : Arr) : ByteArray := (((((⟨#[97, 114, 114, 97, 121, 32]⟩ : ByteArray) ++ x.1) ++ (⟨#[32]⟩ : ByteArray)) ++ numS x.2) ++ (⟨#[10]⟩ : ByteArray))
def mdT (x : Md) : ByteArray := (((((((((⟨#[109, 111, 100, 101, 32]⟩ : ByteArray) ++ x.1) ++ (⟨#[32]⟩ : ByteArray)) ++ x.2.1) ++ (⟨#[32]⟩ : ByteArray)) ++ numS x.2.2.1) ++ (⟨#[32]⟩ : ByteArray)) ++ numS x.2.2.2) ++ (⟨#[10]⟩ : ByteArray))
def clT (x : Clm) : ByteArray := (((((⟨#[110, 101, 118, 101, 114, 32]⟩ : ByteArray) ++ numS x.1) ++ (⟨#[32]⟩ : ByteArray)) ++ numS x.2) ++ (⟨#[10]⟩ : ByteArray))
def tkHd (x : Tk) : ByteArray := (((((((((((⟨#[116, 97, 115, 107, 32]⟩ : ByteArray) ++ x.name) ++ (⟨#[32, 112, 101, 114, 105, 111, 100, 32]⟩ : ByteArray)) ++ numS x.period) ++ (⟨#[32, 100, 101, 97, 100, 108, 105, 110, 101, 32]⟩ : ByteArray)) ++ numS x.deadline) ++ (⟨#[32, 112, 114, 105, 111, 114, 105, 116, 121, 32]⟩ : ByteArray)) ++ numS x.priority) ++ (⟨#[32, 106, 105, 116, 116, 101, 114, 32]⟩ : ByteArray)) ++ numS x.jitter) ++ (⟨#[10]⟩ : ByteArray))
def tkT (t : Tk) : ByteArray := ((((((((tkHd t ++ catL inT t.inputs) ++ catL vaT t.vars) ++ catL arT t.arrays) ++ catL mdT t.modes) ++ catL clT t.claims) ++ (⟨#[98, 111, 100, 121, 10]⟩ : ByteArray)) ++ stsT Ksp t.body) ++ (⟨#[101, 110, 100, 10]⟩ : ByteArray))
def progT (p : Pg) : ByteArray := (catL resT p.res ++ catL shT p.shared) ++ catL tkT p.tasks
def progF (p : Pg) : ByteArray × Int := if okPg p = false then (⟨#[]⟩, 10) else if p.tasks.any (fun t => dpF 8 t.body) = true then (⟨#[]⟩, 4) else if 8192 < (progT p).size then (⟨#[]⟩, 4) else (progT p, 0)
/-- Sizes within reason. -/
structure TkSz (t : Tk) : Prop where
  inputs : t.inputs.length ≤ 1000
  vars : t.vars.length ≤ 1000
  arrays : t.arrays.length ≤ 1000
  modes : t.modes.length ≤ 1000
  claims : t.claims.length ≤ 1000
  body : Sm.szs t.body ≤ 1000000
structure PgSz (p : Pg) : Prop where
  res : p.res.length ≤ 1000
  shared : p.shared.length ≤ 1000
  len : p.tasks.length ≤ 1000
  tasks : ∀ t ∈ p.tasks, TkSz t
theorem resT_ok {x : ByteArray} (h : nameB x = true) : nmOk (x) := by
  exact nameB_ok.1 h
theorem resT_size {x : ByteArray} (h : nameB x = true) : (resT x).size ≤ 200 := by
  have h := resT_ok h
  have := name_size h
  simp only [resT, ByteArray.size_append, ba_lit, List.length_cons, List.length_nil]
  omega
theorem shT_ok {x : Shd} (h : shB x = true) : nmOk (x.1) ∧ Pl (x.2.1) ∧ nmOk (x.2.2) := by
  unfold shB at h
  simp only [Bool.and_eq_true, and_assoc] at h
  obtain ⟨h0, h1, h2⟩ := h
  exact ⟨nameB_ok.1 h0, plainB_ok.1 h1, nameB_ok.1 h2⟩
theorem shT_size {x : Shd} (h : shB x = true) : (shT x).size ≤ 200 := by
  have h := shT_ok h
  obtain ⟨h0, h1, h2⟩ := h
  have := name_size h0
  have := h1.size
  have := name_size h2
  simp only [shT, ByteArray.size_append, ba_lit, List.length_cons, List.length_nil]
  omega
theorem inT_ok {x : Inp} (h : inB x = true) : nmOk (x.1) ∧ (-2147483647 ≤ x.2.1 ∧ x.2.1 ≤ 2147483647) ∧ (-2147483647 ≤ x.2.2 ∧ x.2.2 ≤ 2147483647) := by
  unfold inB at h
  simp only [Bool.and_eq_true, and_assoc] at h
  obtain ⟨h0, h1, h2⟩ := h
  exact ⟨nameB_ok.1 h0, smallB_ok.1 h1, smallB_ok.1 h2⟩
theorem inT_size {x : Inp} (h : inB x = true) : (inT x).size ≤ 200 := by
  have h := inT_ok h
  obtain ⟨h0, h1, h2⟩ := h
  have := name_size h0
  have := numS_size _ h1.1 h1.2
  have := numS_size _ h2.1 h2.2
  simp only [inT, ByteArray.size_append, ba_lit, List.length_cons, List.length_nil]
  omega
theorem vaT_ok {x : ByteArray} (h : nameB x = true) : nmOk (x) := by
  exact nameB_ok.1 h
theorem vaT_size {x : ByteArray} (h : nameB x = true) : (vaT x).size ≤ 200 := by
  have h := vaT_ok h
  have := name_size h
  simp only [vaT, ByteArray.size_append, ba_lit, List.length_cons, List.length_nil]
  omega
theorem arT_ok {x : Arr} (h : arB x = true) : nmOk (x.1) ∧ Pl (x.2) := by
  unfold arB at h
  simp only [Bool.and_eq_true, and_assoc] at h
  obtain ⟨h0, h1⟩ := h
  exact ⟨nameB_ok.1 h0, plainB_ok.1 h1⟩
theorem arT_size {x : Arr} (h : arB x = true) : (arT x).size ≤ 200 := by
  have h := arT_ok h
  obtain ⟨h0, h1⟩ := h
  have := name_size h0
  have := h1.size
  simp only [arT, ByteArray.size_append, ba_lit, List.length_cons, List.length_nil]
  omega
theorem mdT_ok {x : Md} (h : mdB x = true) : nmOk (x.1) ∧ nmOk (x.2.1) ∧ (-2147483647 ≤ x.2.2.1 ∧ x.2.2.1 ≤ 2147483647) ∧ (-2147483647 ≤ x.2.2.2 ∧ x.2.2.2 ≤ 2147483647) := by
  unfold mdB at h
  simp only [Bool.and_eq_true, and_assoc] at h
  obtain ⟨h0, h1, h2, h3⟩ := h
  exact ⟨nameB_ok.1 h0, nameB_ok.1 h1, smallB_ok.1 h2, smallB_ok.1 h3⟩
theorem mdT_size {x : Md} (h : mdB x = true) : (mdT x).size ≤ 200 := by
  have h := mdT_ok h
  obtain ⟨h0, h1, h2, h3⟩ := h
  have := name_size h0
  have := name_size h1
  have := numS_size _ h2.1 h2.2
  have := numS_size _ h3.1 h3.2
  simp only [mdT, ByteArray.size_append, ba_lit, List.length_cons, List.length_nil]
  omega
theorem clT_ok {x : Clm} (h : clB x = true) : Pl (x.1) ∧ Pl (x.2) := by
  unfold clB at h
  simp only [Bool.and_eq_true, and_assoc] at h
  obtain ⟨h0, h1⟩ := h
  exact ⟨plainB_ok.1 h0, plainB_ok.1 h1⟩
theorem clT_size {x : Clm} (h : clB x = true) : (clT x).size ≤ 200 := by
  have h := clT_ok h
  obtain ⟨h0, h1⟩ := h
  have := h0.size
  have := h1.size
  simp only [clT, ByteArray.size_append, ba_lit, List.length_cons, List.length_nil]
  omega
theorem tk1_ok {x : Tk} (h : hdB x = true) : nmOk (x.name) ∧ Pl (x.period) ∧ Pl (x.deadline) ∧ Pl (x.priority) ∧ Pl (x.jitter) := by
  unfold hdB at h
  simp only [Bool.and_eq_true, and_assoc] at h
  obtain ⟨h0, h1, h2, h3, h4⟩ := h
  exact ⟨nameB_ok.1 h0, plainB_ok.1 h1, plainB_ok.1 h2, plainB_ok.1 h3, plainB_ok.1 h4⟩
theorem tk1_size {x : Tk} (h : hdB x = true) : (tkHd x).size ≤ 200 := by
  have h := tk1_ok h
  obtain ⟨h0, h1, h2, h3, h4⟩ := h
  have := name_size h0
  have := h1.size
  have := h2.size
  have := h3.size
  have := h4.size
  simp only [tkHd, ByteArray.size_append, ba_lit, List.length_cons, List.length_nil]
  omega
theorem hd_of {t : Tk} (h : okTk t = true) : hdB t = true ∧ okSs 20 t.body = true ∧ (∀ x ∈ t.inputs, inB x = true) ∧ (∀ x ∈ t.vars, nameB x = true) ∧ (∀ x ∈ t.arrays, arB x = true) ∧ (∀ x ∈ t.modes, mdB x = true) ∧ ∀ x ∈ t.claims, clB x = true := by
  unfold okTk at h
  simp only [Bool.and_eq_true, and_assoc, List.all_eq_true] at h
  exact h
theorem tkT_size {t : Tk} (h : okTk t = true) (hd : dpF 8 t.body = false) (hs : TkSz t) : (tkT t).size ≤ 60002000000 := by
  obtain ⟨h0, hb, h1, h2, h3, h4, h5⟩ := hd_of h
  have e0 := tk1_size h0
  have e1 := catL_size (f := inT) (fun x hx => inT_size (h1 x hx))
  have e2 := catL_size (f := vaT) (fun x hx => vaT_size (h2 x hx))
  have e3 := catL_size (f := arT) (fun x hx => arT_size (h3 x hx))
  have e4 := catL_size (f := mdT) (fun x hx => mdT_size (h4 x hx))
  have e5 := catL_size (f := clT) (fun x hx => clT_size (h5 x hx))
  have e6 := sts_size (sp := Ksp) (fine_of 8 20 t.body (by omega) hb hd) (by show 2 + 2 * 8 ≤ 100; omega)
  have := hs.inputs
  have := hs.vars
  have := hs.arrays
  have := hs.modes
  have := hs.claims
  have := hs.body
  simp only [tkT, ByteArray.size_append, ba_lit, List.length_cons, List.length_nil]
  omega
end Go.Proofs.YtalkkcfojplmdaaGreatDoor
end

section
namespace Go.Proofs.YtalkkcfojplmdaaGreatDoor
open Go.Vc
attribute [local irreducible] JL JC JQ OpWp Con ConN HOk
attribute [local irreducible] byteAt runLen isL isD isName hasW
set_option maxHeartbeats 4000000

theorem szs_step {l : List Sm} {k : Nat} (h : k < l.length) : Sm.szs (l.take (k + 1)) = Sm.szs (l.take k) + (1 + Sm.szs l[k].thn + Sm.szs l[k].els) := by
  rw [List.take_succ_eq_append_getElem h, Sm.szs_app, Sm.szs, Sm.sz_eq]
  rfl
theorem szs_step_le {l : List Sm} {k : Nat} (h : k < l.length) : Sm.szs (l.take k) + (1 + Sm.szs l[k].thn + Sm.szs l[k].els) ≤ Sm.szs l := by
  rw [← szs_step h]
  exact Sm.szs_take _ _
end Go.Proofs.YtalkkcfojplmdaaGreatDoor
end

section
namespace Go.Proofs.YtalkkcfojplmdaaGreatDoor
open Go.Vc
attribute [local irreducible] JL JC JQ OpWp Con ConN HOk
attribute [local irreducible] byteAt runLen isL isD isName hasW
set_option maxHeartbeats 4000000

/-- Sizes within reason. -/
structure PgOk (p : Pg) : Prop where
  sz : PgSz p
  ls : ∀ t ∈ p.tasks, Sm.lnss t.body
end Go.Proofs.YtalkkcfojplmdaaGreatDoor
end

section
namespace Go.Proofs.YtalkkcfojplmdaaGreatDoor
open Go.Vc
set_option maxHeartbeats 8000000
attribute [local irreducible] JL JC JQ OpWp Con ConN
attribute [local irreducible] StG BlG Mz

abbrev NilC : C := .val (.slice none 0 0)
abbrev Zt : List C := [.val (.string ⟨#[]⟩), .val (.int .i64 0), .val (.int .i64 0), .val (.int .i64 0), .val (.int .i64 0), NilC, NilC, NilC, NilC, NilC, NilC]
abbrev Rw (nm : ByteArray) (per dln pri jit : Int) (a b c d e f : C) : List C := [.val (.string nm), .val (.int .i64 per), .val (.int .i64 dln), .val (.int .i64 pri), .val (.int .i64 jit), a, b, c, d, e, f]
abbrev M0 (bd : Nat) (v : Value) (Sh : List Shd) (N : Int) : List C := [.val (.pointer (some ⟨bd, 0, none⟩)), .val v, NilC, NilC, .list (Sh.map ShRow), .val (.string ⟨#[]⟩), .val (.int .i64 0), .val (.int .i64 N), .val (.int .i64 0)]
theorem pow_bd (i : Int) (h : i.toNat ≤ 30) : (0 : Int) ≤ 1 * 2 ^ i.toNat ∧ (1 : Int) * 2 ^ i.toNat ≤ 1073741824 := by
  have h6 : (2 : Nat) ^ i.toNat ≤ 2 ^ 30 := Nat.pow_le_pow_right (by omega) h
  have h7 : ((2 ^ i.toNat : Nat) : Int) = (2 : Int) ^ i.toNat := by simp
  have h8 : (0 : Int) ≤ (2 : Int) ^ i.toNat := h7 ▸ Int.natCast_nonneg _
  omega
abbrev XY : List ByteArray := [⟨#[120]⟩, ⟨#[121]⟩]
abbrev VS : List ByteArray := [⟨#[105]⟩, ⟨#[107]⟩, ⟨#[110]⟩]
def InG (k : Nat) (l : List Inp) : Prop := l.map (·.1) = XY.take k ∧ ∀ x ∈ l, (-2 ≤ x.2.1 ∧ x.2.1 ≤ 3) ∧ x.2.1 ≤ x.2.2 ∧ x.2.2 ≤ x.2.1 + 11
def ArG (l : List Arr) : Prop := l = [] ∨ ∃ k : Nat, k ≤ 3 ∧ l = [(⟨#[97]⟩, 2 ^ k)]
def MdG (I : List Inp) (l : List Md) : Prop := l = [] ∨ ∃ x lo hi, I[0]? = some x ∧ (x.2.1 ≤ lo ∧ lo ≤ hi ∧ hi ≤ x.2.2) ∧ l = [(⟨#[102, 101, 119]⟩, x.1, lo, hi)]
def ClG (ifs : List Int) (l : List Clm) : Prop := l = [] ∨ ∃ (a b : Nat) (ha : a < ifs.length) (hb : b < ifs.length), a ≠ b ∧ l = [(ifs[a], ifs[b])]
structure TaskG (Sh : List Shd) (nm : ByteArray) (W : Int) (t : Tk) : Prop where
  name : t.name = nm
  period : 2000 ≤ t.period ∧ t.period ≤ 6000
  deadline : t.period - 400 ≤ t.deadline ∧ t.deadline ≤ t.period
  priority : 1 ≤ t.priority ∧ t.priority ≤ 5
  jitter : 0 ≤ t.jitter ∧ t.jitter ≤ 30
  inputs : t.inputs.length ≤ 2 ∧ InG t.inputs.length t.inputs
  vars : t.vars = VS
  arrays : ArG t.arrays
  modes : MdG t.inputs t.modes
  claims : ClG (ifsOf t.body) t.claims
  body : ∃ lab l n, BlG (StG (t.inputs.map (·.1) ++ VS) (t.arrays.map (·.1)) Sh 3 0 E0) 5 0 lab l ∧ t.body = l.take n
  weight : wAll 20 t.body 0 ≤ W
  size : Mz t.body 14
theorem InG.len {k : Nat} {l : List Inp} (h : InG k l) (hk : k ≤ 2) : l.length = k := by
  have := congrArg List.length h.1
  simpa [Nat.min_eq_left hk] using this
theorem InG.snoc {k : Nat} {l : List Inp} (h : InG k l) {s : ByteArray} {lo hi : Int} (hs : XY[k]? = some s) (hb : (-2 ≤ lo ∧ lo ≤ 3) ∧ lo ≤ hi ∧ hi ≤ lo + 11) : InG (k + 1) (l ++ [(s, lo, hi)]) := by
  refine ⟨?_, fun x hx => ?_⟩
  · obtain ⟨hlt, rfl⟩ := List.getElem?_eq_some_iff.1 hs
    rw [List.map_append, h.1, List.take_succ_eq_append_getElem hlt]
    rfl
  · rcases List.mem_append.1 hx with hx | hx
    · exact h.2 x hx
    · rw [List.mem_singleton.1 hx]; exact hb

abbrev Et3 (bd : Nat) (W : Int) (br bt : Nat) : Env := [(0, Ptr bd), (3, In .i64 W), (10, Ptr br), (11, Ptr bt)]
abbrev Et (bd : Nat) (W : Int) (br bt bx : Nat) : Env := [(0, Ptr bd), (3, In .i64 W), (10, Ptr br), (11, Ptr bt), (12, Ptr bx)]

section
variable {L : List Int} {bd : Nat} {Sh : List Shd}

theorem task_c (hL : InR L) (hLn : L.length ≤ 400) (hSh : Sh.length ≤ 100) (nm : ByteArray) (W N : Int) (hW : 0 ≤ W ∧ W ≤ 1000000) (hN : 0 ≤ N ∧ N ≤ 14) :
    Con Tryz.prog 78 [Ptr bd, Str nm, .cell (.list (Sh.map ShRow)), In .i64 W, In .i64 N] [Dk bd L] (fun K => ∀ t : Tk, TaskG Sh nm W t → K (.row t.row) [Dk bd L]) := by
  refine con_intro Tryz.func78 rfl rfl (Nat.le_of_ble_eq_true rfl) (fun c hc => R_ (o_ r_ (bl_ rfl rfl (fun br => T_ (R_ (M_ r_ (M_ r_ (o_ r_ (bt_ [1] rfl rfl (Nx_c _ hL hLn g_) (fun k1 hk1 => o_ r_ (cz_ r_ r_ g_ (o_ r_ (bj_ r_ r_ g_ (M_ r_ (o_ r_ (bt_ [0] rfl rfl (Nx_c _ hL hLn g_) (fun k2 hk2 => o_ r_ (bj_ r_ r_ g_ (M_ r_ (o_ r_ (bt_ [0] rfl rfl (Nx_c _ hL hLn g_) (fun k3 hk3 => ?_))))))))))))))))))))))
  refine o_ r_ (cz_ r_ r_ g_ (o_ r_ (bu_ r_ r_ r_ r_ r_ (o_ r_ (bl_ rfl rfl (fun bt => S_ 0 r_ (T_ (am_ (jc_anyB 6 none rfl k_ k_ (yF_ r_ (yL_ 0 r_ (yM_ r_ (aa_ (fun c => ow_callA [1] r_ r_ (gNext_c L _ _ hL hLn g_)) (aa_ (fun c => ow_exarg 35 rfl (fun i => cz_ rfl rfl (by have := i.2; omega) ⟨rfl, .refl _⟩)) (aa_ (fun c => ow_exarg 36 rfl (fun i => cg_ rfl rfl (by have := i.2; omega) ⟨rfl, .refl _⟩)) ?_)))))))))))))))
  refine ae_ (afin_none (jl_slot 37 rfl (fun dl => F_ r_ (W_ 0 r_ (T_ (R_ (M_ r_ (M_ r_ (M_ r_ (o_ r_ (bu_ r_ r_ r_ r_ r_ (o_ r_ (ci_ r_ (fun bx => E_ r_ (T_ (am_ (R_ (E_ r_ ?_))))))))))))))))))
  refine T_ (jc_ownNil 9 1 g_ (jc_ownNil 92 3 g_ ?_))
  have hdl := dl.2
  generalize hper : 2000 + k1 * 500 = per
  generalize hdln : per - dl.1 * 100 = dln
  generalize hpri : 1 + k2 = pri
  generalize hjit : k3 * 10 = jit
  have hper2 : 2000 ≤ per ∧ per ≤ 6000 := by omega
  have hdln2 : per - 400 ≤ dln ∧ dln ≤ per := by omega
  have hpri2 : 1 ≤ pri ∧ pri ≤ 5 := by omega
  have hjit2 : 0 ≤ jit ∧ jit ≤ 30 := by omega
  clear hper hdln hpri hjit hdl hk1 hk2 hk3
  refine jc_cut (ι := (Value × List Inp) × (Value × List ByteArray)) [] (fun i => (c.Fresh i.1.1 ∧ c.Fresh i.2.1) ∧ ∃ n, n ≤ 2 ∧ InG n i.1.2 ∧ i.2.2 = XY.take n) (fun _ => Et bd W br bt bx)
    (fun i => [.blk bt 39 (Rw nm per dln pri jit (.val i.1.1) NilC NilC NilC NilC NilC), .blk bx 165 (M0 bd i.2.1 Sh N), .own i.1.1 92 3 (i.1.2.map InRow), .own i.2.1 9 1 (i.2.2.map Wrow), Dk bd L, .blk br 39 Zt]) ?_ ?_
  · refine au_ ?_
    refine jc_loopS (ι := Nat × (Value × List Inp) × (Value × List ByteArray)) [] (fun i => i.1 ≤ 2 ∧ (c.Fresh i.2.1.1 ∧ c.Fresh i.2.2.1) ∧ InG i.1 i.2.1.2 ∧ i.2.2.2 = XY.take i.1) (fun i => (13, In .i64 (i.1 : Int)) :: Et bd W br bt bx)
      (fun i => [.blk bt 39 (Rw nm per dln pri jit (.val i.2.1.1) NilC NilC NilC NilC NilC), .blk bx 165 (M0 bd i.2.2.1 Sh N), .own i.2.1.1 92 3 (i.2.1.2.map InRow), .own i.2.2.1 9 1 (i.2.2.2.map Wrow), Dk bd L, .blk br 39 Zt]) (fun i => 3 - i.1) (0, (.slice none 0 0, []), (.slice none 0 0, [])) ⟨by omega, ⟨fresh_nil, fresh_nil⟩, ⟨by simp, by simp⟩, by simp⟩ ?_ ?_ ?_
    · exact bc_ 3 r_ (bc_ 2 r_ (bc_ 0 r_ (bc_ 0 r_ (bc_ 0 r_ (bc_ 0 r_ sub_end)))))
    · (repeat (first | exact True.intro | refine ⟨rfl, ?_⟩))
    · rintro ⟨k, ⟨vI, lI⟩, vV, lV⟩ ⟨hk, ⟨hfI, hfV⟩, hokI, hlV⟩
      dsimp only at hk hfI hfV hokI hlV ⊢
      have hlI := hokI.len hk
      have hlV2 : lV.length ≤ 2 := by rw [hlV]; simp; omega
      refine am_ (R_ (M_ r_ (M_ r_ (o_ r_ (bt_ [4] rfl rfl (Nx_c _ hL hLn g_) (fun k4 hk4 => o_ r_ (bw_ r_ r_ (T_ (jc_condd rfl (fun hlt => ?_) (fun hge => ?_))))))))))
      · refine as_ (al_ (B_ (am_ (jc_cut (ι := ByteArray) [] (fun s => k ≤ 1 → XY[k]? = some s) (fun s => (14, Str s) :: ((13, In .i64 (k : Int)) :: Et bd W br bt bx)) (fun _ => [.blk bt 39 (Rw nm per dln pri jit (.val vI) NilC NilC NilC NilC NilC), .blk bx 165 (M0 bd vV Sh N), .own vI 92 3 (lI.map InRow), .own vV 9 1 (lV.map Wrow), Dk bd L, .blk br 39 Zt]) ?_ ?_))))
        · have hk3 : k = 0 ∨ k = 1 ∨ k = 2 := by omega
          rcases hk3 with rfl | rfl | rfl
          · refine an_ (o_ r_ (bq_ r_ r_ b_ r_ r_ b_ (M_ r_ (o_ r_ (ow_rem64 r_ r_ g_ g_ (o_ r_ (ow_indexAddr r_ r_ g_ r_ r_ b_ (o_ r_ (cb_ r_ r_ (E_ r_ (ak_ (jq_cutS (⟨#[120]⟩ : ByteArray) (fun _ => rfl) ?_ ?_))))))))))))
            · exact bc_ 1 r_ (bc_ 1 r_ (bc_ 1 r_ (bc_ 1 r_ (bc_ 0 r_ (bc_ 0 r_ sub_end)))))
            · (repeat (first | exact True.intro | refine ⟨rfl, ?_⟩))
          · refine an_ (o_ r_ (bq_ r_ r_ b_ r_ r_ b_ (M_ r_ (o_ r_ (ow_rem64 r_ r_ g_ g_ (o_ r_ (ow_indexAddr r_ r_ g_ r_ r_ b_ (o_ r_ (cb_ r_ r_ (E_ r_ (ak_ (jq_cutS (⟨#[121]⟩ : ByteArray) (fun _ => rfl) ?_ ?_))))))))))))
            · exact bc_ 1 r_ (bc_ 1 r_ (bc_ 1 r_ (bc_ 1 r_ (bc_ 0 r_ (bc_ 0 r_ sub_end)))))
            · (repeat (first | exact True.intro | refine ⟨rfl, ?_⟩))
          · refine an_ (o_ r_ (bq_ r_ r_ b_ r_ r_ b_ (M_ r_ (o_ r_ (ow_rem64 r_ r_ g_ g_ (o_ r_ (ow_indexAddr r_ r_ g_ r_ r_ b_ (o_ r_ (cb_ r_ r_ (E_ r_ (ak_ (jq_cutS (⟨#[120]⟩ : ByteArray) (fun h => by omega) ?_ ?_))))))))))))
            · exact bc_ 1 r_ (bc_ 1 r_ (bc_ 1 r_ (bc_ 1 r_ (bc_ 0 r_ (bc_ 0 r_ sub_end)))))
            · (repeat (first | exact True.intro | refine ⟨rfl, ?_⟩))
        intro s hsXY
        refine am_ (R_ (M_ r_ (o_ r_ (bz_ r_ r_ (T_ (jc_condd rfl (fun h1 => ?_) (fun h1 => ?_)))))))
        · refine av_ (ax_ (bb_ r_ (ax_ (ax_ (ba_ (jq_cutS ((vI, lI), (vV, lV)) ⟨⟨hfI, hfV⟩, k, hk, hokI, hlV⟩ ?_ ?_))))))
          · exact bc_ 0 r_ (bc_ 0 r_ (bc_ 0 r_ (bc_ 0 r_ (bc_ 0 r_ (bc_ 0 r_ sub_end)))))
          · (repeat (first | exact True.intro | refine ⟨rfl, ?_⟩))
        · refine as_ (al_ (R_ (M_ r_ (o_ r_ (bt_ [4] rfl rfl (Nx_c _ hL hLn g_) (fun k5 hk5 => o_ r_ (cg_ r_ r_ g_ (E_ r_ (T_ (am_ (jc_anyB 10 none rfl k_ k_ (yF_ r_ (yL_ 1 r_ (yM_ r_ (yM_ r_ (yM_ r_ (yM_ r_ ?_)))))))))))))))))
          refine aa_ (fun c => ow_callA [0] r_ r_ (gNext_c L _ _ hL hLn g_)) (aa_ (fun c => ow_exarg 66 rfl (fun i => bj_ rfl rfl (by have := i.2; omega) ⟨rfl, .refl _⟩)) (aa_ (fun c => ow_exarg 67 rfl (fun i => bu_ rfl rfl rfl rfl rfl ⟨rfl, .refl _⟩)) (aa_ (fun c => ow_exarg 68 rfl (fun i => bq_ rfl rfl b_ rfl rfl b_ ⟨rfl, .refl _⟩)) (ae_ (afin_none (jl_slot 69 rfl (fun n => ?_)))))))
          (first | refine jl_op (ow_append1F 3 ((s, k5 - 2, k5 - 2 + n.1)) rfl rfl rfl rfl rfl rfl rfl (fun _ => rfl) (by show (_ + _) * 32 ≤ _; first | omega | (simp only [List.length_append]; omega)) (by first | omega | (simp only [List.length_append]; omega)) (fun vI1 hvI1 fvI1 => ?_)) (nb rfl) | refine jl_op (ow_append1F 2 ((s, k5 - 2, k5 - 2 + n.1)) rfl rfl rfl rfl rfl rfl rfl (fun _ => rfl) (by show (_ + _) * 32 ≤ _; first | omega | (simp only [List.length_append]; omega)) (by first | omega | (simp only [List.length_append]; omega)) (fun vI1 hvI1 fvI1 => ?_)) (nb rfl) | refine jl_op (ow_append1F 4 ((s, k5 - 2, k5 - 2 + n.1)) rfl rfl rfl rfl rfl rfl rfl (fun _ => rfl) (by show (_ + _) * 32 ≤ _; first | omega | (simp only [List.length_append]; omega)) (by first | omega | (simp only [List.length_append]; omega)) (fun vI1 hvI1 fvI1 => ?_)) (nb rfl))
          refine F_ r_ (W_ 2 r_ (T_ (an_ (M_ r_ (M_ r_ (N_ r_ (F_ r_ (L_ 3 r_ (M_ r_ (o_ r_ (bq_ r_ r_ b_ r_ r_ b_ ?_)))))))))))
          (first | refine jl_op (ow_append1F 3 (s) rfl rfl rfl rfl rfl rfl rfl (fun _ => rfl) (by show (_ + _) * 16 ≤ _; first | omega | (simp only [List.length_append]; omega)) (by first | omega | (simp only [List.length_append]; omega)) (fun vV1 hvV1 fvV1 => ?_)) (nb rfl) | refine jl_op (ow_append1F 2 (s) rfl rfl rfl rfl rfl rfl rfl (fun _ => rfl) (by show (_ + _) * 16 ≤ _; first | omega | (simp only [List.length_append]; omega)) (by first | omega | (simp only [List.length_append]; omega)) (fun vV1 hvV1 fvV1 => ?_)) (nb rfl) | refine jl_op (ow_append1F 4 (s) rfl rfl rfl rfl rfl rfl rfl (fun _ => rfl) (by show (_ + _) * 16 ≤ _; first | omega | (simp only [List.length_append]; omega)) (by first | omega | (simp only [List.length_append]; omega)) (fun vV1 hvV1 fvV1 => ?_)) (nb rfl))
          refine N_ r_ (F_ r_ (W_ 4 r_ (ak_ (ay_ (al_ (an_ (M_ r_ (o_ r_ (bj_ r_ r_ g_ (E_ r_ (ak_ ?_)))))))))))
          have hk1 : k ≤ 1 := by omega
          refine jq_againS (i := (k, (vI, lI), (vV, lV))) (k + 1, (vI1, lI ++ [(s, k5 - 2, k5 - 2 + n.1)]), (vV1, lV ++ [s])) ⟨by dsimp only; omega, ⟨fvI1 hfI, fvV1 hfV⟩, hokI.snoc (hsXY hk1) (by have := n.2; omega), by
            obtain ⟨hlt, rfl⟩ := List.getElem?_eq_some_iff.1 (hsXY hk1)
            dsimp only
            rw [hlV, List.take_succ_eq_append_getElem hlt]⟩ (by dsimp only; omega) ?_ ?_
          · exact bc_ 2 r_ (bc_ 0 r_ (bc_ 1 r_ (bc_ 0 r_ (bc_ 0 r_ (bc_ 0 r_ sub_end)))))
          · (repeat (first | exact True.intro | refine ⟨rfl, ?_⟩))
      · refine av_ (ax_ (ax_ (ba_ (jq_cutS ((vI, lI), (vV, lV)) ⟨⟨hfI, hfV⟩, k, hk, hokI, hlV⟩ ?_ ?_))))
        · exact bc_ 1 r_ (bc_ 1 r_ (bc_ 1 r_ (bc_ 1 r_ (bc_ 0 r_ (bc_ 0 r_ sub_end)))))
        · (repeat (first | exact True.intro | refine ⟨rfl, ?_⟩))
  rintro ⟨⟨vI, lI⟩, vV, lV⟩ ⟨⟨hfI, hfV⟩, nI, hnI, hokI, hlV⟩
  dsimp only at hfI hfV hokI hlV ⊢
  have hlI := hokI.len hnI
  have hlV2 : lV.length ≤ 2 := by rw [hlV]; simp; omega
  have hlVI : lV = lI.map (·.1) := by rw [hlV, hokI.1]
  clear hlV
  refine jc_freezeB 2 0 5 rfl rfl hfI (R_ (o_ r_ (bq_ r_ r_ b_ r_ r_ b_ (F_ r_ (W_ 0 r_ (T_ (am_ (jc_anyF 7 none [0] rfl k_ k_ k_ rfl (yM_ r_ (yM_ r_ (yN_ r_ (yF_ r_ (yL_ 1 r_ (yF_ r_ (yL_ 0 r_ (ae_ ?_))))))))))))))))
  refine afin_none ?_
  (first | refine jl_op (ow_appendMF (f := Wrow) (l1 := lV) (l2 := [⟨#[105]⟩, ⟨#[107]⟩, ⟨#[110]⟩]) 2 rfl rfl rfl rfl rfl rfl rfl (fun _ => rfl) (by show (_ + 3) * 16 ≤ _; omega) (by simp; omega) (fun vV1 hvV1 fvV1 => ?_)) (nb rfl) | refine jl_op (ow_appendMF (f := Wrow) (l1 := lV) (l2 := [⟨#[105]⟩, ⟨#[107]⟩, ⟨#[110]⟩]) 3 rfl rfl rfl rfl rfl rfl rfl (fun _ => rfl) (by show (_ + 3) * 16 ≤ _; omega) (by simp; omega) (fun vV1 hvV1 fvV1 => ?_)) (nb rfl))
  refine jl_freezeF 91 0 rfl rfl (fvV1 hfV) ?_
  generalize hVe : lV ++ VS = V
  have hV0 : 0 < V.length := by rw [← hVe]; simp
  have hV : V.length ≤ 100 := by rw [← hVe]; simp; omega
  refine N_ r_ (F_ r_ (W_ 1 r_ (ak_ (jq_np (al_ (am_ ?_))))))
  have hMk : RowLe [.val (.pointer (some ⟨bd, 0, none⟩)), .list (V.map Wrow), NilC, NilC, .list (Sh.map ShRow), .val (.string ⟨#[]⟩), .val (.int .i64 0), .val (.int .i64 N), .val (.int .i64 0)] (MkRow bd V (.slice none 0 0) [] Sh ⟨#[]⟩ 0 N 0) :=
    .cons (.refl _) (.cons (.refl _) (.cons (.refl _) (.cons .nil (.refl _))))
  (first | refine jc_row 0 _ rfl hMk ?_ | refine jc_row 1 _ rfl hMk ?_ | refine jc_row 2 _ rfl hMk ?_)
  refine jc_cut (ι := List Arr) [] ArG (fun _ => Et bd W br bt bx) (fun ar => [.blk bt 39 (Rw nm per dln pri jit (.list (lI.map InRow)) (.list (VS.map Wrow)) (.list (ar.map ArRow)) NilC NilC NilC), Mk bx bd V (.slice none 0 0) (ar.map (·.1)) Sh ⟨#[]⟩ 0 N 0, Dk bd L, .blk br 39 Zt]) ?_ ?_
  · refine R_ (M_ r_ (o_ r_ (bt_ [2] rfl rfl (Nx_c _ hL hLn g_) (fun k6 hk6 => o_ r_ (bn_ r_ r_ (T_ (jc_condd rfl (fun h1 => ?_) (fun h1 => ?_))))))))
    · refine R_ (M_ r_ (o_ r_ (bt_ [0] rfl rfl (Nx_c _ hL hLn g_) (fun k7 hk7 => ?_))))
      have h5 := pow_bd k7 (by omega)
      refine o_ r_ (ow_convU64 r_ r_ r_ g_ (o_ r_ (ow_shl64 r_ r_ g_ g_ (o_ r_ (bu_ r_ r_ r_ r_ r_ (o_ r_ (bq_ r_ r_ b_ r_ r_ b_ (F_ r_ (W_ 2 r_ (T_ (an_ (M_ r_ (o_ r_ (bq_ r_ r_ b_ r_ r_ b_ (N_ r_ (F_ r_ (W_ 2 r_ (ak_ ?_))))))))))))))))))
      (first | refine jq_row 0 (MkRow bd V (.slice none 0 0) [⟨#[97]⟩] Sh ⟨#[]⟩ 0 N 0) rfl (.refl _) ?_ | refine jq_row 1 (MkRow bd V (.slice none 0 0) [⟨#[97]⟩] Sh ⟨#[]⟩ 0 N 0) rfl (.refl _) ?_ | refine jq_row 2 (MkRow bd V (.slice none 0 0) [⟨#[97]⟩] Sh ⟨#[]⟩ 0 N 0) rfl (.refl _) ?_ | refine jq_row 3 (MkRow bd V (.slice none 0 0) [⟨#[97]⟩] Sh ⟨#[]⟩ 0 N 0) rfl (.refl _) ?_)
      refine jq_cutS ([(⟨#[97]⟩, 1 * 2 ^ k7.toNat)] : List Arr) (.inr ⟨k7.toNat, by omega, by rw [Int.one_mul]⟩) ?_ ?_
      · exact bc_ 1 r_ (bc_ 0 r_ (bc_ 0 r_ (bc_ 0 r_ sub_end)))
      · (repeat (first | exact True.intro | refine ⟨rfl, ?_⟩))
    · refine as_ ?_
      (first | refine jq_row 0 (Rw nm per dln pri jit (.list (lI.map InRow)) (.list (VS.map Wrow)) (.list (([] : List Arr).map ArRow)) NilC NilC NilC) rfl (.cons (.refl _) (.cons (.refl _) (.cons (.refl _) (.cons (.refl _) (.cons (.refl _) (.cons (.refl _) (.cons (.refl _) (.cons .nil (.refl _))))))))) ?_ | refine jq_row 1 (Rw nm per dln pri jit (.list (lI.map InRow)) (.list (VS.map Wrow)) (.list (([] : List Arr).map ArRow)) NilC NilC NilC) rfl (.cons (.refl _) (.cons (.refl _) (.cons (.refl _) (.cons (.refl _) (.cons (.refl _) (.cons (.refl _) (.cons (.refl _) (.cons .nil (.refl _))))))))) ?_ | refine jq_row 2 (Rw nm per dln pri jit (.list (lI.map InRow)) (.list (VS.map Wrow)) (.list (([] : List Arr).map ArRow)) NilC NilC NilC) rfl (.cons (.refl _) (.cons (.refl _) (.cons (.refl _) (.cons (.refl _) (.cons (.refl _) (.cons (.refl _) (.cons (.refl _) (.cons .nil (.refl _))))))))) ?_ | refine jq_row 3 (Rw nm per dln pri jit (.list (lI.map InRow)) (.list (VS.map Wrow)) (.list (([] : List Arr).map ArRow)) NilC NilC NilC) rfl (.cons (.refl _) (.cons (.refl _) (.cons (.refl _) (.cons (.refl _) (.cons (.refl _) (.cons (.refl _) (.cons (.refl _) (.cons .nil (.refl _))))))))) ?_)
      refine jq_cutS ([] : List Arr) (.inl rfl) ?_ ?_
      · exact bc_ 0 r_ (bc_ 1 r_ (bc_ 0 r_ (bc_ 0 r_ sub_end)))
      · (repeat (first | exact True.intro | refine ⟨rfl, ?_⟩))
  intro ar har
  refine am_ (jc_cut (ι := List Md) [] (MdG lI) (fun _ => Et bd W br bt bx) (fun md => [.blk bt 39 (Rw nm per dln pri jit (.list (lI.map InRow)) (.list (VS.map Wrow)) (.list (ar.map ArRow)) (.list (md.map MdRow)) NilC NilC), Mk bx bd V (.slice none 0 0) (ar.map (·.1)) Sh ⟨#[]⟩ 0 N 0, Dk bd L, .blk br 39 Zt]) ?_ ?_)
  · refine am_ (jc_cut (ι := Bool) [] (fun b => b = true → 0 < lI.length) (fun b => (116, Bl b) :: Et bd W br bt bx) (fun _ => [.blk bt 39 (Rw nm per dln pri jit (.list (lI.map InRow)) (.list (VS.map Wrow)) (.list (ar.map ArRow)) NilC NilC NilC), Mk bx bd V (.slice none 0 0) (ar.map (·.1)) Sh ⟨#[]⟩ 0 N 0, Dk bd L, .blk br 39 Zt]) ?_ ?_)
    · by_cases hl : (0 : Int) < ((lI.map InRow).length : Int)
      · refine an_ (F_ r_ (L_ 0 r_ (o_ r_ (br_ r_ (fun hlen => o_ r_ (bz_ r_ r_ (M_ r_ (ah_ r_ u_ b_ (bd_ r_ (ah_ rfl (by (first | assumption | exact decide_eq_true rfl | exact decide_eq_true (by first | assumption | omega) | exact decide_eq_false (by first | assumption | omega) | with_reducible rfl | exact (rfl : false = !true) | exact (rfl : true = !false))) b_ (bt_ [2] rfl rfl (Nx_c _ hL hLn g_) (fun k8 hk8 => ?_))))))))))))
        refine ah_ r_ u_ b_ (bn_ r_ r_ (o_ r_ (bp_ r_ u_ r_ (ak_ (jq_cutS (decide (k8 = 1)) (fun _ => by simp at hl; omega) ?_ ?_)))))
        · exact bc_ 1 r_ (bc_ 1 r_ (bc_ 0 r_ (bc_ 0 r_ sub_end)))
        · (repeat (first | exact True.intro | refine ⟨rfl, ?_⟩))
      · refine an_ (F_ r_ (L_ 0 r_ (o_ r_ (br_ r_ (fun hlen => o_ r_ (bz_ r_ r_ (M_ r_ (ai_ r_ w_ b_ (ai_ r_ w_ b_ (ai_ r_ w_ b_ (o_ r_ (bv_ r_ w_ r_ (ak_ (jq_cutS false (by simp) ?_ ?_))))))))))))))
        · exact bc_ 0 r_ (bc_ 0 r_ (bc_ 0 r_ (bc_ 0 r_ sub_end)))
        · (repeat (first | exact True.intro | refine ⟨rfl, ?_⟩))
    intro b hb
    refine jc_cond rfl (fun hbt => ?_) (fun hbt => ?_)
    · have hl0 := hb hbt
      have hx := hokI.2 lI[0] (List.getElem_mem _)
      refine R_ (F_ r_ (L_ 0 r_ (o_ r_ (cc_ (k := 0) r_ r_ hl0 r_ r_ b_ (o_ r_ (cr_ r_ r_ r_ (o_ r_ (bl_ r_ r_ (fun bl => S_ 0 r_ (T_ (am_ (ao_ r_ r_ k_ k_ (yF_ r_ (yL_ 0 r_ (yM_ r_ (yF_ r_ (yL_ 0 r_ (yF_ r_ ?_))))))))))))))))))
      refine yL_ 0 r_ (aa_ (fun c => cg_ r_ r_ g_ p_) (aa_ (fun c => bj_ r_ r_ g_ p_) (aa_ (fun c => ow_callA [3] r_ r_ (gNext_c L _ (lI[0].2.2 - lI[0].2.1 + 1) hL hLn g_)) (aa_ (fun c => ow_exarg 130 rfl (fun i => bj_ rfl rfl (by have := i.2; omega) ⟨rfl, .refl _⟩)) (aa_ (fun c => ow_exarg 131 rfl (fun i => be_ rfl ⟨rfl, .refl _⟩)) (ae_ (jq_slot 17 rfl (fun lo => ?_))))))))
      have hlo := lo.2
      refine al_ (jc_anyB 14 none rfl k_ k_ (yF_ r_ (yL_ 0 r_ (yM_ r_ (yM_ r_ (yM_ r_ (yF_ r_ (yL_ 0 r_ (yM_ r_ (aa_ (fun c => cg_ r_ r_ g_ p_) (aa_ (fun c => bj_ r_ r_ g_ p_) (aa_ (fun c => ow_callA [3] r_ r_ (gNext_c L _ (lI[0].2.2 - (lI[0].2.1 + lo.1) + 1) hL hLn g_)) (aa_ (fun c => ow_exarg 142 rfl (fun i => bj_ rfl rfl (by have := i.2; omega) ⟨rfl, .refl _⟩)) ?_)))))))))))))
      refine aa_ (fun c => ow_exarg 143 rfl (fun i => bu_ rfl rfl rfl rfl rfl ⟨rfl, .refl _⟩)) (aa_ (fun c => ow_exarg 144 rfl (fun i => bq_ rfl rfl b_ rfl rfl b_ ⟨rfl, .refl _⟩)) (ae_ (afin_none (jl_slot 145 rfl (fun n => F_ r_ (W_ 1 r_ (ak_ (jq_cutS ([(⟨#[102, 101, 119]⟩, lI[0].1, lI[0].2.1 + lo.1, lI[0].2.1 + lo.1 + n.1)] : List Md) (.inr ⟨lI[0], _, _, by simp, by have := n.2; omega, rfl⟩) ?_ ?_))))))))
      · exact bc_ 0 r_ (bc_ 1 r_ (bc_ 1 r_ (bc_ 1 r_ sub_end)))
      · (repeat (first | exact True.intro | refine ⟨rfl, ?_⟩))
    · refine as_ ?_
      (first | refine jq_row 0 (Rw nm per dln pri jit (.list (lI.map InRow)) (.list (VS.map Wrow)) (.list (ar.map ArRow)) (.list (([] : List Md).map MdRow)) NilC NilC) rfl (.cons (.refl _) (.cons (.refl _) (.cons (.refl _) (.cons (.refl _) (.cons (.refl _) (.cons (.refl _) (.cons (.refl _) (.cons (.refl _) (.cons .nil (.refl _)))))))))) ?_ | refine jq_row 1 (Rw nm per dln pri jit (.list (lI.map InRow)) (.list (VS.map Wrow)) (.list (ar.map ArRow)) (.list (([] : List Md).map MdRow)) NilC NilC) rfl (.cons (.refl _) (.cons (.refl _) (.cons (.refl _) (.cons (.refl _) (.cons (.refl _) (.cons (.refl _) (.cons (.refl _) (.cons (.refl _) (.cons .nil (.refl _)))))))))) ?_ | refine jq_row 2 (Rw nm per dln pri jit (.list (lI.map InRow)) (.list (VS.map Wrow)) (.list (ar.map ArRow)) (.list (([] : List Md).map MdRow)) NilC NilC) rfl (.cons (.refl _) (.cons (.refl _) (.cons (.refl _) (.cons (.refl _) (.cons (.refl _) (.cons (.refl _) (.cons (.refl _) (.cons (.refl _) (.cons .nil (.refl _)))))))))) ?_ | refine jq_row 3 (Rw nm per dln pri jit (.list (lI.map InRow)) (.list (VS.map Wrow)) (.list (ar.map ArRow)) (.list (([] : List Md).map MdRow)) NilC NilC) rfl (.cons (.refl _) (.cons (.refl _) (.cons (.refl _) (.cons (.refl _) (.cons (.refl _) (.cons (.refl _) (.cons (.refl _) (.cons (.refl _) (.cons .nil (.refl _)))))))))) ?_)
      refine jq_cutS ([] : List Md) (.inl rfl) ?_ ?_
      · exact bc_ 0 r_ (bc_ 0 r_ (bc_ 0 r_ (bc_ 0 r_ sub_end)))
      · (repeat (first | exact True.intro | refine ⟨rfl, ?_⟩))
  intro md hmd
  have harl : ar.length ≤ 1 := by rcases har with rfl | ⟨k, _, rfl⟩ <;> simp
  have gv : Gv L V (ar.map (·.1)) Sh := ⟨hL, hLn, hV0, hV, by rw [List.length_map]; omega, hSh⟩
  have hblk := (maker_c (bm := bx) (bd := bd) gv 3 (by omega)).2.1
  refine jc_ownNil 9 1 g_ (R_ (M_ r_ ?_))
  have con := hblk ⟨.slice none 0 0, 0, N⟩ ⟨#[]⟩ 0 [] 3 5 ⟨⟨by dsimp only; omega, by dsimp only; omega⟩, hN.1, hN.2⟩ (by omega) (by omega) (by simp) rfl (by omega) (by omega)
  dsimp only at con
  refine o_ r_ (ow_callNP [2, 2, 0] rfl rfl (con) (fun r n hn hr => ?_))
  obtain ⟨⟨lv2, lab2, st2⟩, v2, l2⟩ := r
  obtain ⟨hok2, hf2, hl2, hsh2, hcz2⟩ := hr
  dsimp only at hl2 hsh2 hf2 ⊢
  refine jl_freezeF 148 0 rfl rfl (hf2.mono hn) ?_
  have hsz := body_szs hsh2
  have hcz3 : Mz l2 14 := by have h0 := hok2.2.1; dsimp only at hcz2 h0; exact hcz2.le (by omega)
  clear hcz2
  have hifs := ifs_le l2
  refine F_ r_ (W_ 3 r_ (T_ (R_ (F_ r_ (L_ 0 r_ (o_ r_ (bm_ r_ (Ifs_c _ g_) (E_ r_ (T_ (am_ ?_))))))))))
  refine jc_cut (ι := List Clm) [] (ClG (ifsOf l2)) (fun _ => ((18, .cell (.list ((ifsOf l2).map Irow))) :: Et3 bd W br bt)) (fun cl => [.blk bt 39 (Rw nm per dln pri jit (.list (lI.map InRow)) (.list (VS.map Wrow)) (.list (ar.map ArRow)) (.list (md.map MdRow)) (.list (cl.map ClRow)) (.list (l2.map Sm.row))), Dk bd L, .blk br 39 Zt]) ?_ ?_
  · refine am_ (jc_cut (ι := Bool) [] (fun b => b = true → 1 < (ifsOf l2).length) (fun b => (160, Bl b) :: ((18, .cell (.list ((ifsOf l2).map Irow))) :: Et3 bd W br bt)) (fun _ => [.blk bt 39 (Rw nm per dln pri jit (.list (lI.map InRow)) (.list (VS.map Wrow)) (.list (ar.map ArRow)) (.list (md.map MdRow)) NilC (.list (l2.map Sm.row))), Dk bd L, .blk br 39 Zt]) ?_ ?_)
    · by_cases hl : (1 : Int) < (((ifsOf l2).map Irow).length : Int)
      · refine an_ (M_ r_ (o_ r_ (br_ r_ (fun hlen => o_ r_ (bz_ r_ r_ (M_ r_ (ah_ r_ u_ b_ (bd_ r_ (ah_ rfl (by (first | assumption | exact decide_eq_true rfl | exact decide_eq_true (by first | assumption | omega) | exact decide_eq_false (by first | assumption | omega) | with_reducible rfl | exact (rfl : false = !true) | exact (rfl : true = !false))) b_ (bt_ [2] rfl rfl (Nx_c _ hL hLn g_) (fun k9 hk9 => ?_)))))))))))
        refine ah_ r_ u_ b_ (bn_ r_ r_ (o_ r_ (bp_ r_ u_ r_ (ak_ (jq_cutS (decide (k9 = 1)) (fun _ => by simp at hl; omega) ?_ ?_)))))
        · exact bc_ 1 r_ (bc_ 0 r_ (bc_ 2 r_ sub_end))
        · (repeat (first | exact True.intro | refine ⟨rfl, ?_⟩))
      · refine an_ (M_ r_ (o_ r_ (br_ r_ (fun hlen => o_ r_ (bz_ r_ r_ (M_ r_ (ai_ r_ w_ b_ (ai_ r_ w_ b_ (ai_ r_ w_ b_ (o_ r_ (bv_ r_ w_ r_ (ak_ (jq_cutS false (by simp) ?_ ?_)))))))))))))
        · exact bc_ 0 r_ (bc_ 1 r_ (bc_ 2 r_ sub_end))
        · (repeat (first | exact True.intro | refine ⟨rfl, ?_⟩))
    intro b hb
    refine jc_cond rfl (fun hbt => ?_) (fun hbt => ?_)
    · have hl1 := hb hbt
      have eI : ((ifsOf l2).map Irow).length = (ifsOf l2).length := List.length_map _
      refine R_ (M_ r_ (M_ r_ (o_ r_ (br_ r_ (fun hlen => o_ r_ (bt_ [1] rfl rfl (Nx_c _ hL hLn g_) (fun k10 hk10 => E_ r_ (T_ (jc_anyB 20 none rfl k_ k_ (yM_ r_ (yM_ r_ (aa_ (fun c => cv_ r_ r_ g_ g_ r_ r_ b_ p_) (aa_ (fun c => cb_ r_ r_ p_) (yM_ r_ (yM_ r_ (aa_ (fun c => bj_ r_ r_ g_ p_) (yM_ r_ ?_)))))))))))))))))
      refine yM_ r_ (aa_ (fun c => br_ r_ (fun hlen => p_)) (aa_ (fun c => cg_ r_ r_ g_ p_) (aa_ (fun c => ow_callA [0] r_ r_ (gNext_c L _ _ hL hLn g_)) (aa_ (fun c => ow_exarg 176 rfl (fun i => bj_ rfl rfl (by have := i.2; omega) ⟨rfl, .refl _⟩)) (yM_ r_ (aa_ (fun c => br_ r_ (fun hlen => p_)) (aa_ (fun c => ow_exarg 177 rfl (fun i => ow_rem64 rfl rfl (by have := i.2; omega) g_ ⟨rfl, .refl _⟩)) ?_)))))))
      have hrem : ∀ i : {i : Int // 0 ≤ i ∧ (i < (((ifsOf l2).map Irow).length : Int) - 1 ∨ i = 0)}, 0 ≤ (k10 + 1 + i.1) % (((ifsOf l2).map Irow).length : Int) ∧ ((k10 + 1 + i.1) % (((ifsOf l2).map Irow).length : Int)).toNat < (ifsOf l2).length := by
        intro i
        have h1 := Int.emod_nonneg (k10 + 1 + i.1) (show (((ifsOf l2).map Irow).length : Int) ≠ 0 by omega)
        have h2 := Int.emod_lt_of_pos (k10 + 1 + i.1) (show (0 : Int) < (((ifsOf l2).map Irow).length : Int) by omega)
        omega
      have hne : ∀ i : {i : Int // 0 ≤ i ∧ (i < (((ifsOf l2).map Irow).length : Int) - 1 ∨ i = 0)}, k10.toNat ≠ ((k10 + 1 + i.1) % (((ifsOf l2).map Irow).length : Int)).toNat := by
        intro i h
        have hi := i.2
        have h1 := hrem i
        have h2 : (k10 + 1 + i.1) % (((ifsOf l2).map Irow).length : Int) = k10 := by omega
        have h3 := Int.emod_emod_of_dvd (k10 + 1 + i.1) (Int.dvd_refl (((ifsOf l2).map Irow).length : Int))
        have h4 : (1 + i.1) % (((ifsOf l2).map Irow).length : Int) = 0 := by
          have h5 := Int.sub_emod (k10 + 1 + i.1) k10 (((ifsOf l2).map Irow).length : Int)
          rw [h2, show k10 % (((ifsOf l2).map Irow).length : Int) = k10 from Int.emod_eq_of_lt (by omega) (by omega), Int.sub_self, Int.zero_emod, show k10 + 1 + i.1 - k10 = 1 + i.1 by omega] at h5
          exact h5
        rw [Int.emod_eq_of_lt (by omega) (by omega)] at h4
        omega
      refine aa_ (fun c => ow_exarg 180 rfl (fun i => cv_ rfl rfl (hrem i).1 (hrem i).2 rfl rfl b_ ⟨rfl, .refl _⟩)) (aa_ (fun c => ow_exarg 181 rfl (fun i => cb_ rfl rfl ⟨rfl, .refl _⟩)) (aa_ (fun c => ow_exarg 182 rfl (fun i => bu_ rfl rfl rfl rfl rfl ⟨rfl, .refl _⟩)) (aa_ (fun c => ow_exarg 183 rfl (fun i => bq_ rfl rfl b_ rfl rfl b_ ⟨rfl, .refl _⟩)) (ae_ (afin_none (jl_slot 184 rfl (fun i => F_ r_ (W_ 1 r_ (ak_ ?_)))))))))
      refine jq_cutS ([((ifsOf l2)[k10.toNat]'g_, (ifsOf l2)[((k10 + 1 + i.1) % (((ifsOf l2).map Irow).length : Int)).toNat]'(hrem i).2)] : List Clm) (.inr ⟨_, _, by omega, (hrem i).2, hne i, rfl⟩) ?_ ?_
      · exact bc_ 0 r_ (bc_ 0 r_ (bc_ 0 r_ sub_end))
      · (repeat (first | exact True.intro | refine ⟨rfl, ?_⟩))
    · refine as_ ?_
      (first | refine jq_row 0 (Rw nm per dln pri jit (.list (lI.map InRow)) (.list (VS.map Wrow)) (.list (ar.map ArRow)) (.list (md.map MdRow)) (.list (([] : List Clm).map ClRow)) (.list (l2.map Sm.row))) rfl (.cons (.refl _) (.cons (.refl _) (.cons (.refl _) (.cons (.refl _) (.cons (.refl _) (.cons (.refl _) (.cons (.refl _) (.cons (.refl _) (.cons (.refl _) (.cons .nil (.refl _))))))))))) ?_ | refine jq_row 1 (Rw nm per dln pri jit (.list (lI.map InRow)) (.list (VS.map Wrow)) (.list (ar.map ArRow)) (.list (md.map MdRow)) (.list (([] : List Clm).map ClRow)) (.list (l2.map Sm.row))) rfl (.cons (.refl _) (.cons (.refl _) (.cons (.refl _) (.cons (.refl _) (.cons (.refl _) (.cons (.refl _) (.cons (.refl _) (.cons (.refl _) (.cons (.refl _) (.cons .nil (.refl _))))))))))) ?_ | refine jq_row 2 (Rw nm per dln pri jit (.list (lI.map InRow)) (.list (VS.map Wrow)) (.list (ar.map ArRow)) (.list (md.map MdRow)) (.list (([] : List Clm).map ClRow)) (.list (l2.map Sm.row))) rfl (.cons (.refl _) (.cons (.refl _) (.cons (.refl _) (.cons (.refl _) (.cons (.refl _) (.cons (.refl _) (.cons (.refl _) (.cons (.refl _) (.cons (.refl _) (.cons .nil (.refl _))))))))))) ?_ | refine jq_row 3 (Rw nm per dln pri jit (.list (lI.map InRow)) (.list (VS.map Wrow)) (.list (ar.map ArRow)) (.list (md.map MdRow)) (.list (([] : List Clm).map ClRow)) (.list (l2.map Sm.row))) rfl (.cons (.refl _) (.cons (.refl _) (.cons (.refl _) (.cons (.refl _) (.cons (.refl _) (.cons (.refl _) (.cons (.refl _) (.cons (.refl _) (.cons (.refl _) (.cons .nil (.refl _))))))))))) ?_)
      refine jq_cutS ([] : List Clm) (.inl rfl) ?_ ?_
      · exact bc_ 0 r_ (bc_ 0 r_ (bc_ 0 r_ sub_end))
      · (repeat (first | exact True.intro | refine ⟨rfl, ?_⟩))
  intro cl hcl
  refine am_ (jc_cut (ι := List Sm × List Clm) [] (fun i => (∃ n, i.1 = l2.take n) ∧ ClG (ifsOf i.1) i.2 ∧ wAll 20 i.1 0 ≤ W) (fun _ => ((18, .cell (.list ((ifsOf l2).map Irow))) :: Et3 bd W br bt)) (fun i => [.blk bt 39 (Rw nm per dln pri jit (.list (lI.map InRow)) (.list (VS.map Wrow)) (.list (ar.map ArRow)) (.list (md.map MdRow)) (.list (i.2.map ClRow)) (.list (i.1.map Sm.row))), Dk bd L, .blk br 39 Zt]) ?_ ?_)
  · refine au_ ?_
    refine jc_loopS (ι := List Sm × List Clm) [] (fun i => (∃ n, i.1 = l2.take n) ∧ ClG (ifsOf i.1) i.2) (fun _ => ((18, .cell (.list ((ifsOf l2).map Irow))) :: Et3 bd W br bt)) (fun i => [.blk bt 39 (Rw nm per dln pri jit (.list (lI.map InRow)) (.list (VS.map Wrow)) (.list (ar.map ArRow)) (.list (md.map MdRow)) (.list (i.2.map ClRow)) (.list (i.1.map Sm.row))), Dk bd L, .blk br 39 Zt]) (fun i => i.1.length) (l2, cl) ⟨⟨l2.length, by simp⟩, hcl⟩ ?_ ?_ ?_
    · exact bc_ 0 r_ (bc_ 0 r_ (bc_ 0 r_ sub_end))
    · (repeat (first | exact True.intro | refine ⟨rfl, ?_⟩))
    · rintro ⟨l, cl⟩ ⟨⟨nT, hl10⟩, hsh⟩
      dsimp only at hl10 hsh ⊢
      have hll : l.length ≤ l2.length := by rw [hl10, List.length_take]; omega
      have eL : (l.map Sm.row).length = l.length := List.length_map _
      by_cases hl : (0 : Int) < ((l.map Sm.row).length : Int)
      · refine am_ (R_ (F_ r_ (L_ 0 r_ (o_ r_ (br_ r_ (fun hlen => o_ r_ (bz_ r_ r_ (M_ r_ (ah_ r_ u_ b_ (bf_ r_ r_ r_ b_ (ah_ r_ u_ b_ (bg_ 0 r_ r_ r_ r_ (ah_ r_ u_ b_ (bm_ r_ (rWeight_c _) (ah_ r_ u_ b_ (bd_ r_ (ah_ r_ u_ b_ (bz_ r_ r_ (o_ r_ (bp_ r_ u_ r_ (T_ (jc_condd rfl (fun hw => ?_) (fun hw => ?_)))))))))))))))))))))))
        · refine as_ (al_ (au_ (an_ (F_ r_ (L_ 0 r_ (F_ r_ (L_ 0 r_ (o_ r_ (br_ r_ (fun hlen => o_ r_ (cg_ r_ r_ g_ (o_ r_ (ow_prefix r_ r_ g_ g_ (F_ r_ (W_ 0 r_ (F_ r_ (W_ 0 r_ (ak_ ?_))))))))))))))))))
          refine ay_ ?_
          rw [show List.take ((((l.map Sm.row).length : Nat) : Int) - 1).toNat (l.map Sm.row) = (l.take (l.length - 1)).map Sm.row by
            rw [List.map_take, eL]; congr 1; omega]
          skip
          (first | refine jq_row 0 (Rw nm per dln pri jit (.list (lI.map InRow)) (.list (VS.map Wrow)) (.list (ar.map ArRow)) (.list (md.map MdRow)) (.list (([] : List Clm).map ClRow)) (.list ((l.take (l.length - 1)).map Sm.row))) rfl (.cons (.refl _) (.cons (.refl _) (.cons (.refl _) (.cons (.refl _) (.cons (.refl _) (.cons (.refl _) (.cons (.refl _) (.cons (.refl _) (.cons (.refl _) (.cons .nil (.refl _))))))))))) ?_ | refine jq_row 1 (Rw nm per dln pri jit (.list (lI.map InRow)) (.list (VS.map Wrow)) (.list (ar.map ArRow)) (.list (md.map MdRow)) (.list (([] : List Clm).map ClRow)) (.list ((l.take (l.length - 1)).map Sm.row))) rfl (.cons (.refl _) (.cons (.refl _) (.cons (.refl _) (.cons (.refl _) (.cons (.refl _) (.cons (.refl _) (.cons (.refl _) (.cons (.refl _) (.cons (.refl _) (.cons .nil (.refl _))))))))))) ?_ | refine jq_row 2 (Rw nm per dln pri jit (.list (lI.map InRow)) (.list (VS.map Wrow)) (.list (ar.map ArRow)) (.list (md.map MdRow)) (.list (([] : List Clm).map ClRow)) (.list ((l.take (l.length - 1)).map Sm.row))) rfl (.cons (.refl _) (.cons (.refl _) (.cons (.refl _) (.cons (.refl _) (.cons (.refl _) (.cons (.refl _) (.cons (.refl _) (.cons (.refl _) (.cons (.refl _) (.cons .nil (.refl _))))))))))) ?_ | refine jq_row 3 (Rw nm per dln pri jit (.list (lI.map InRow)) (.list (VS.map Wrow)) (.list (ar.map ArRow)) (.list (md.map MdRow)) (.list (([] : List Clm).map ClRow)) (.list ((l.take (l.length - 1)).map Sm.row))) rfl (.cons (.refl _) (.cons (.refl _) (.cons (.refl _) (.cons (.refl _) (.cons (.refl _) (.cons (.refl _) (.cons (.refl _) (.cons (.refl _) (.cons (.refl _) (.cons .nil (.refl _))))))))))) ?_)
          refine jq_againS (i := (l, cl)) (l.take (l.length - 1), []) ⟨⟨min (l.length - 1) nT, by dsimp only; rw [hl10, List.take_take]⟩, .inl rfl⟩ (by simp; omega) ?_ ?_
          · exact bc_ 0 r_ (bc_ 0 r_ (bc_ 0 r_ sub_end))
          · (repeat (first | exact True.intro | refine ⟨rfl, ?_⟩))
        · refine av_ (ax_ (ax_ (ba_ (jq_cutS (l, cl) ⟨⟨nT, hl10⟩, hsh, by dsimp only; omega⟩ ?_ ?_))))
          · exact bc_ 0 r_ (bc_ 0 r_ (bc_ 0 r_ sub_end))
          · (repeat (first | exact True.intro | refine ⟨rfl, ?_⟩))
      · have hl0 : l = [] := List.eq_nil_of_length_eq_zero (by omega)
        subst hl0
        refine am_ (R_ (F_ r_ (L_ 0 r_ (o_ r_ (br_ r_ (fun hlen => o_ r_ (bz_ r_ r_ (M_ r_ (ai_ r_ r_ b_ (ai_ r_ r_ b_ (ai_ r_ r_ b_ (ai_ r_ r_ b_ (ai_ r_ r_ b_ (o_ r_ (bv_ r_ r_ r_ (T_ (jc_cond rfl (fun h => by cases h) (fun _ => av_ ?_))))))))))))))))))
        refine ax_ (ax_ (ba_ (jq_cutS ([], cl) ⟨⟨nT, hl10⟩, hsh, by simp only [wAll]; omega⟩ ?_ ?_)))
        · exact bc_ 0 r_ (bc_ 0 r_ (bc_ 0 r_ sub_end))
        · (repeat (first | exact True.intro | refine ⟨rfl, ?_⟩))
  rintro ⟨l, cl⟩ ⟨⟨nT, hl10⟩, hsh, hwt⟩
  dsimp only at hl10 hsh hwt ⊢
  have hsz2 : Sm.szs l ≤ 635 := by rw [hl10]; exact Nat.le_trans (Sm.szs_take _ _) hsz
  have hifs2 := ifs_le l
  refine am_ (jc_cut (ι := List Clm) [] (ClG (ifsOf l)) (fun _ => Et3 bd W br bt) (fun cl => [.blk bt 39 (Rw nm per dln pri jit (.list (lI.map InRow)) (.list (VS.map Wrow)) (.list (ar.map ArRow)) (.list (md.map MdRow)) (.list (cl.map ClRow)) (.list (l.map Sm.row))), Dk bd L, .blk br 39 Zt]) ?_ ?_)
  · by_cases hl : (0 : Int) < ((cl.map ClRow).length : Int)
    · refine R_ (F_ r_ (L_ 0 r_ (o_ r_ (br_ r_ (fun hlen => o_ r_ (bz_ r_ r_ (M_ r_ (ah_ r_ u_ b_ (bf_ r_ r_ r_ b_ (ah_ r_ u_ b_ (bg_ 0 r_ r_ r_ r_ (ah_ r_ u_ b_ (bm_ r_ (Ifs_c _ g_) (ah_ r_ u_ b_ (br_ r_ (fun hlen => ah_ r_ u_ b_ (bd_ r_ (ah_ r_ u_ b_ (br_ r_ (fun hlen => ah_ r_ u_ b_ (bx_ r_ r_ (o_ r_ (bp_ r_ u_ r_ (T_ (jc_cond rfl (fun _ => ?_) (fun _ => ?_))))))))))))))))))))))))))
      · refine an_ (F_ r_ (W_ 0 r_ (ak_ ?_)))
        (first | refine jq_row 0 (Rw nm per dln pri jit (.list (lI.map InRow)) (.list (VS.map Wrow)) (.list (ar.map ArRow)) (.list (md.map MdRow)) (.list (([] : List Clm).map ClRow)) (.list (l.map Sm.row))) rfl (.cons (.refl _) (.cons (.refl _) (.cons (.refl _) (.cons (.refl _) (.cons (.refl _) (.cons (.refl _) (.cons (.refl _) (.cons (.refl _) (.cons (.refl _) (.cons .nil (.refl _))))))))))) ?_ | refine jq_row 1 (Rw nm per dln pri jit (.list (lI.map InRow)) (.list (VS.map Wrow)) (.list (ar.map ArRow)) (.list (md.map MdRow)) (.list (([] : List Clm).map ClRow)) (.list (l.map Sm.row))) rfl (.cons (.refl _) (.cons (.refl _) (.cons (.refl _) (.cons (.refl _) (.cons (.refl _) (.cons (.refl _) (.cons (.refl _) (.cons (.refl _) (.cons (.refl _) (.cons .nil (.refl _))))))))))) ?_ | refine jq_row 2 (Rw nm per dln pri jit (.list (lI.map InRow)) (.list (VS.map Wrow)) (.list (ar.map ArRow)) (.list (md.map MdRow)) (.list (([] : List Clm).map ClRow)) (.list (l.map Sm.row))) rfl (.cons (.refl _) (.cons (.refl _) (.cons (.refl _) (.cons (.refl _) (.cons (.refl _) (.cons (.refl _) (.cons (.refl _) (.cons (.refl _) (.cons (.refl _) (.cons .nil (.refl _))))))))))) ?_ | refine jq_row 3 (Rw nm per dln pri jit (.list (lI.map InRow)) (.list (VS.map Wrow)) (.list (ar.map ArRow)) (.list (md.map MdRow)) (.list (([] : List Clm).map ClRow)) (.list (l.map Sm.row))) rfl (.cons (.refl _) (.cons (.refl _) (.cons (.refl _) (.cons (.refl _) (.cons (.refl _) (.cons (.refl _) (.cons (.refl _) (.cons (.refl _) (.cons (.refl _) (.cons .nil (.refl _))))))))))) ?_)
        refine jq_cutS ([] : List Clm) (.inl rfl) ?_ ?_
        · exact bc_ 0 r_ (bc_ 0 r_ (bc_ 0 r_ sub_end))
        · (repeat (first | exact True.intro | refine ⟨rfl, ?_⟩))
      · refine as_ (jq_cutS cl hsh ?_ ?_)
        · exact bc_ 0 r_ (bc_ 0 r_ (bc_ 0 r_ sub_end))
        · (repeat (first | exact True.intro | refine ⟨rfl, ?_⟩))
    · refine R_ (F_ r_ (L_ 0 r_ (o_ r_ (br_ r_ (fun hlen => o_ r_ (bz_ r_ r_ (M_ r_ (ai_ r_ w_ b_ (ai_ r_ w_ b_ (ai_ r_ w_ b_ (ai_ r_ w_ b_ (ai_ r_ w_ b_ (ai_ r_ w_ b_ (ai_ r_ w_ b_ (o_ r_ (bv_ r_ w_ r_ (T_ (jc_cond rfl (fun h => by cases h) (fun _ => ?_)))))))))))))))))))
      refine as_ (jq_cutS cl hsh ?_ ?_)
      · exact bc_ 0 r_ (bc_ 0 r_ (bc_ 0 r_ sub_end))
      · (repeat (first | exact True.intro | refine ⟨rfl, ?_⟩))
  clear hsh
  intro cl hcl2
  refine R_ (A_ 0 r_ (S_ 2 r_ (T_ (ar_ ?_))))
  have fin : TaskG Sh nm W ⟨nm, per, dln, pri, jit, lI, VS, ar, md, cl, l⟩ := ⟨rfl, hper2, hdln2, hpri2, hjit2, ⟨by dsimp only; omega, by dsimp only; rw [hlI]; exact hokI⟩, rfl, har, hmd, hcl2, ⟨lab2, l2, nT, by dsimp only; rw [← hlVI, hVe]; exact hsh2, hl10⟩, hwt, by dsimp only; rw [hl10]; exact hcz3.take _⟩
  (first | refine jq_retRowS rfl rfl rfl rfl 0 rfl (fun K h => h _ fin) ?_ | refine jq_retRowS rfl rfl rfl rfl 1 rfl (fun K h => h _ fin) ?_ | refine jq_retRowS rfl rfl rfl rfl 2 rfl (fun K h => h _ fin) ?_)
  exact bc_ 2 r_ sub_end
end
end Go.Proofs.YtalkkcfojplmdaaGreatDoor
end

section
namespace Go.Proofs.YtalkkcfojplmdaaGreatDoor
open Go.Vc
set_option maxHeartbeats 8000000
attribute [local irreducible] JL JC JQ OpWp Con ConN

abbrev Nr : ByteArray := ⟨#[114]⟩
abbrev Ns : ByteArray := ⟨#[115]⟩
def RSl : Nat → List ByteArray
  | 0 => []
  | 1 => [Ns]
  | _ => [Nr, Ns]
def ShG (R : List ByteArray) (l : List Shd) : Prop := l = [] ∨ ∃ (r : ByteArray) (k : Nat), R[0]? = some r ∧ k ≤ 3 ∧ l = [(⟨#[98, 117, 102]⟩, 2 ^ k, r)]
def nmT (i : Nat) : ByteArray := ⟨#[116]⟩ ++ bytesOf [97 + (i : Int)]
structure PgG (T : Nat) (W : Int) (p : Pg) : Prop where
  res : ∃ n, n ≤ 2 ∧ p.res = RSl n
  shared : ShG p.res p.shared
  len : p.tasks.length = T
  tasks : ∀ (i : Nat) (h : i < p.tasks.length), TaskG p.shared (nmT i) W p.tasks[i]
section
variable {L : List Int} {bd : Nat}

theorem programs_c (hL : InR L) (hLn : L.length ≤ 400) (T W N : Int) (hT : 0 ≤ T ∧ T ≤ 6) (hW : 0 ≤ W ∧ W ≤ 1000000) (hN : 0 ≤ N ∧ N ≤ 14) :
    Con Tryz.prog 44 [Ptr bd, In .i64 T, In .i64 W, In .i64 N] [Dk bd L] (fun K => ∀ p : Pg, PgG T.toNat W p → K (.row p.row) [Dk bd L]) := by
  refine con_intro Tryz.func44 rfl rfl (Nat.le_of_ble_eq_true rfl) (fun c hc => R_ (o_ r_ (bl_ rfl rfl (fun b8 => T_ (R_ (o_ r_ (bl_ rfl rfl (fun b9 => T_ (am_ (R_ (M_ r_ (o_ r_ (bt_ [2] rfl rfl (Nx_c _ hL hLn g_) (fun k1 hk1 => E_ r_ (T_ (jc_ownNil 9 1 g_ ?_))))))))))))))))
  obtain ⟨n1, hn1⟩ : ∃ n : Nat, k1 = (n : Int) := ⟨k1.toNat, by omega⟩
  subst hn1
  have hn12 : n1 ≤ 2 := by omega
  refine jc_cut (ι := Value × List ByteArray) [] (fun i => c.Fresh i.1 ∧ i.2 = RSl n1) (fun _ => [(0, Ptr bd), (1, In .i64 T), (2, In .i64 W), (3, In .i64 N), (8, Ptr b8), (9, Ptr b9)])
    (fun i => [.blk b9 31 [.val i.1, NilC, NilC], .own i.1 9 1 (i.2.map Wrow), Dk bd L, .blk b8 31 [NilC, NilC, NilC]]) ?_ ?_
  · refine au_ ?_
    refine jc_loopS (ι := Nat × Value × List ByteArray) [] (fun i => i.1 ≤ n1 ∧ c.Fresh i.2.1 ∧ i.2.2 = (RSl n1).take (n1 - i.1)) (fun i => (10, In .i64 (i.1 : Int)) :: [(0, Ptr bd), (1, In .i64 T), (2, In .i64 W), (3, In .i64 N), (8, Ptr b8), (9, Ptr b9)])
      (fun i => [.blk b9 31 [.val i.2.1, NilC, NilC], .own i.2.1 9 1 (i.2.2.map Wrow), Dk bd L, .blk b8 31 [NilC, NilC, NilC]]) (fun i => i.1) (n1, .slice none 0 0, []) ⟨Nat.le_refl _, fresh_nil, by simp⟩ ?_ ?_ ?_
    · exact bc_ 2 r_ (bc_ 0 r_ (bc_ 0 r_ (bc_ 0 r_ sub_end)))
    · (repeat (first | exact True.intro | refine ⟨rfl, ?_⟩))
    · rintro ⟨k, vR, lR⟩ ⟨hk, hfR, hlR⟩
      dsimp only at hk hfR hlR ⊢
      by_cases hk0 : k = 0
      · subst hk0
        refine am_ (R_ (M_ r_ (o_ r_ (bz_ r_ r_ (T_ (jc_cond rfl (fun h => by cases h) (fun _ => av_ (ax_ (ax_ (ba_ (jq_cutS (vR, lR) ⟨hfR, by dsimp only; rw [hlR, List.take_of_length_le]; rcases n1 with _ | _ | _ | n <;> simp [RSl]⟩ ?_ ?_)))))))))))
        · exact bc_ 0 r_ (bc_ 0 r_ (bc_ 0 r_ (bc_ 0 r_ sub_end)))
        · (repeat (first | exact True.intro | refine ⟨rfl, ?_⟩))
      have hlR2 : lR.length ≤ 2 := by rw [hlR, List.length_take]; omega
      have hcase : (n1 = 1 ∧ k = 1) ∨ (n1 = 2 ∧ k = 1) ∨ (n1 = 2 ∧ k = 2) := by omega
      rcases hcase with ⟨rfl, rfl⟩ | ⟨rfl, rfl⟩ | ⟨rfl, rfl⟩
      · refine am_ (R_ (M_ r_ (o_ r_ (bz_ r_ r_ (T_ (jc_condd rfl (fun _ => as_ (al_ (B_ (jc_anyB 8 none rfl k_ k_ (yF_ r_ (yL_ 0 r_ (aa_ (fun c => bq_ r_ r_ b_ r_ r_ b_ p_) (yM_ r_ (aa_ (fun c => ow_rem64 r_ r_ g_ g_ p_) (aa_ (fun c => ow_indexAddr r_ r_ g_ r_ r_ b_ p_) ?_)))))))))) (fun h => by omega)))))))
        refine aa_ (fun c => cb_ r_ r_ p_) (aa_ (fun c => bq_ r_ r_ b_ r_ r_ b_ p_) (ae_ (afin_none ?_)))
        (first | refine jl_op (ow_append1F 1 (⟨#[115]⟩) rfl rfl rfl rfl rfl rfl rfl (fun _ => rfl) (by show (_ + _) * 16 ≤ _; first | omega | (simp only [List.length_append]; omega)) (by first | omega | (simp only [List.length_append]; omega)) (fun vR1 hvR1 fvR1 => ?_)) (nb rfl) | refine jl_op (ow_append1F 2 (⟨#[115]⟩) rfl rfl rfl rfl rfl rfl rfl (fun _ => rfl) (by show (_ + _) * 16 ≤ _; first | omega | (simp only [List.length_append]; omega)) (by first | omega | (simp only [List.length_append]; omega)) (fun vR1 hvR1 fvR1 => ?_)) (nb rfl) | refine jl_op (ow_append1F 0 (⟨#[115]⟩) rfl rfl rfl rfl rfl rfl rfl (fun _ => rfl) (by show (_ + _) * 16 ≤ _; first | omega | (simp only [List.length_append]; omega)) (by first | omega | (simp only [List.length_append]; omega)) (fun vR1 hvR1 fvR1 => ?_)) (nb rfl))
        refine F_ r_ (W_ 1 r_ (ak_ (ay_ (al_ (an_ (M_ r_ (o_ r_ (cg_ r_ r_ g_ (E_ r_ (ak_ (jq_againS (i := (1, vR, lR)) (0, vR1, lR ++ [⟨#[115]⟩]) ⟨by dsimp only; omega, fvR1 hfR, by dsimp only; rw [hlR]; rfl⟩ (by dsimp only; omega) ?_ ?_)))))))))))
        · exact bc_ 0 r_ (bc_ 0 r_ (bc_ 0 r_ (bc_ 0 r_ sub_end)))
        · (repeat (first | exact True.intro | refine ⟨rfl, ?_⟩))
      · refine am_ (R_ (M_ r_ (o_ r_ (bz_ r_ r_ (T_ (jc_condd rfl (fun _ => as_ (al_ (B_ (jc_anyB 8 none rfl k_ k_ (yF_ r_ (yL_ 0 r_ (aa_ (fun c => bq_ r_ r_ b_ r_ r_ b_ p_) (yM_ r_ (aa_ (fun c => ow_rem64 r_ r_ g_ g_ p_) (aa_ (fun c => ow_indexAddr r_ r_ g_ r_ r_ b_ p_) ?_)))))))))) (fun h => by omega)))))))
        refine aa_ (fun c => cb_ r_ r_ p_) (aa_ (fun c => bq_ r_ r_ b_ r_ r_ b_ p_) (ae_ (afin_none ?_)))
        (first | refine jl_op (ow_append1F 1 (⟨#[115]⟩) rfl rfl rfl rfl rfl rfl rfl (fun _ => rfl) (by show (_ + _) * 16 ≤ _; first | omega | (simp only [List.length_append]; omega)) (by first | omega | (simp only [List.length_append]; omega)) (fun vR1 hvR1 fvR1 => ?_)) (nb rfl) | refine jl_op (ow_append1F 2 (⟨#[115]⟩) rfl rfl rfl rfl rfl rfl rfl (fun _ => rfl) (by show (_ + _) * 16 ≤ _; first | omega | (simp only [List.length_append]; omega)) (by first | omega | (simp only [List.length_append]; omega)) (fun vR1 hvR1 fvR1 => ?_)) (nb rfl) | refine jl_op (ow_append1F 0 (⟨#[115]⟩) rfl rfl rfl rfl rfl rfl rfl (fun _ => rfl) (by show (_ + _) * 16 ≤ _; first | omega | (simp only [List.length_append]; omega)) (by first | omega | (simp only [List.length_append]; omega)) (fun vR1 hvR1 fvR1 => ?_)) (nb rfl))
        refine F_ r_ (W_ 1 r_ (ak_ (ay_ (al_ (an_ (M_ r_ (o_ r_ (cg_ r_ r_ g_ (E_ r_ (ak_ (jq_againS (i := (1, vR, lR)) (0, vR1, lR ++ [⟨#[115]⟩]) ⟨by dsimp only; omega, fvR1 hfR, by dsimp only; rw [hlR]; rfl⟩ (by dsimp only; omega) ?_ ?_)))))))))))
        · exact bc_ 0 r_ (bc_ 0 r_ (bc_ 0 r_ (bc_ 0 r_ sub_end)))
        · (repeat (first | exact True.intro | refine ⟨rfl, ?_⟩))
      · refine am_ (R_ (M_ r_ (o_ r_ (bz_ r_ r_ (T_ (jc_condd rfl (fun _ => as_ (al_ (B_ (jc_anyB 8 none rfl k_ k_ (yF_ r_ (yL_ 0 r_ (aa_ (fun c => bq_ r_ r_ b_ r_ r_ b_ p_) (yM_ r_ (aa_ (fun c => ow_rem64 r_ r_ g_ g_ p_) (aa_ (fun c => ow_indexAddr r_ r_ g_ r_ r_ b_ p_) ?_)))))))))) (fun h => by omega)))))))
        refine aa_ (fun c => cb_ r_ r_ p_) (aa_ (fun c => bq_ r_ r_ b_ r_ r_ b_ p_) (ae_ (afin_none ?_)))
        (first | refine jl_op (ow_append1F 1 (⟨#[114]⟩) rfl rfl rfl rfl rfl rfl rfl (fun _ => rfl) (by show (_ + _) * 16 ≤ _; first | omega | (simp only [List.length_append]; omega)) (by first | omega | (simp only [List.length_append]; omega)) (fun vR1 hvR1 fvR1 => ?_)) (nb rfl) | refine jl_op (ow_append1F 2 (⟨#[114]⟩) rfl rfl rfl rfl rfl rfl rfl (fun _ => rfl) (by show (_ + _) * 16 ≤ _; first | omega | (simp only [List.length_append]; omega)) (by first | omega | (simp only [List.length_append]; omega)) (fun vR1 hvR1 fvR1 => ?_)) (nb rfl) | refine jl_op (ow_append1F 0 (⟨#[114]⟩) rfl rfl rfl rfl rfl rfl rfl (fun _ => rfl) (by show (_ + _) * 16 ≤ _; first | omega | (simp only [List.length_append]; omega)) (by first | omega | (simp only [List.length_append]; omega)) (fun vR1 hvR1 fvR1 => ?_)) (nb rfl))
        refine F_ r_ (W_ 1 r_ (ak_ (ay_ (al_ (an_ (M_ r_ (o_ r_ (cg_ r_ r_ g_ (E_ r_ (ak_ (jq_againS (i := (2, vR, lR)) (1, vR1, lR ++ [⟨#[114]⟩]) ⟨by dsimp only; omega, fvR1 hfR, by dsimp only; rw [hlR]; rfl⟩ (by dsimp only; omega) ?_ ?_)))))))))))
        · exact bc_ 0 r_ (bc_ 0 r_ (bc_ 0 r_ (bc_ 0 r_ sub_end)))
        · (repeat (first | exact True.intro | refine ⟨rfl, ?_⟩))
  rintro ⟨vR, lR⟩ ⟨hfR, hlR⟩
  dsimp only at hfR hlR ⊢
  have hlR2 : lR.length ≤ 2 := by rw [hlR]; rcases n1 with _ | _ | _ | n <;> simp [RSl]
  refine jc_freezeB 1 0 0 rfl rfl hfR (am_ (jc_cut (ι := List Shd) [] (ShG lR) (fun _ => [(0, Ptr bd), (1, In .i64 T), (2, In .i64 W), (3, In .i64 N), (8, Ptr b8), (9, Ptr b9)]) (fun Sh => [.blk b9 31 [.list (lR.map Wrow), .list (Sh.map ShRow), NilC], Dk bd L, .blk b8 31 [NilC, NilC, NilC]]) ?_ ?_))
  · refine am_ (jc_cut (ι := Bool) [] (fun b => b = true → 0 < lR.length) (fun b => (36, Bl b) :: [(0, Ptr bd), (1, In .i64 T), (2, In .i64 W), (3, In .i64 N), (8, Ptr b8), (9, Ptr b9)]) (fun _ => [.blk b9 31 [.list (lR.map Wrow), NilC, NilC], Dk bd L, .blk b8 31 [NilC, NilC, NilC]]) ?_ ?_)
    · by_cases hl : (0 : Int) < ((lR.map Wrow).length : Int)
      · refine an_ (F_ r_ (L_ 0 r_ (o_ r_ (br_ r_ (fun hlen => o_ r_ (bz_ r_ r_ (M_ r_ (ah_ r_ u_ b_ (bd_ r_ (ah_ rfl (by (first | assumption | exact decide_eq_true rfl | exact decide_eq_true (by first | assumption | omega) | exact decide_eq_false (by first | assumption | omega) | with_reducible rfl | exact (rfl : false = !true) | exact (rfl : true = !false))) b_ (bt_ [1] rfl rfl (Nx_c _ hL hLn g_) (fun k9 hk9 => ?_))))))))))))
        refine ah_ r_ u_ b_ (bn_ r_ r_ (o_ r_ (bp_ r_ u_ r_ (ak_ (jq_cutS (decide (k9 = 1)) (fun _ => by simp at hl; omega) ?_ ?_)))))
        · exact bc_ 1 r_ (bc_ 0 r_ (bc_ 0 r_ sub_end))
        · (repeat (first | exact True.intro | refine ⟨rfl, ?_⟩))
      · refine an_ (F_ r_ (L_ 0 r_ (o_ r_ (br_ r_ (fun hlen => o_ r_ (bz_ r_ r_ (M_ r_ (ai_ r_ w_ b_ (ai_ r_ w_ b_ (ai_ r_ w_ b_ (o_ r_ (bv_ r_ w_ r_ (ak_ (jq_cutS false (by simp) ?_ ?_))))))))))))))
        · exact bc_ 0 r_ (bc_ 0 r_ (bc_ 0 r_ sub_end))
        · (repeat (first | exact True.intro | refine ⟨rfl, ?_⟩))
    intro b hb
    refine jc_cond rfl (fun hbt => ?_) (fun hbt => ?_)
    · have hl0 := hb hbt
      refine jc_ownNil 86 3 g_ ?_
      skip
      refine jc_anyB 13 none rfl k_ k_ (yF_ r_ (yL_ 1 r_ (yM_ r_ (aa_ (fun c => ow_callA [2] r_ r_ (gNext_c L _ _ hL hLn g_)) (aa_ (fun c => ow_exarg 40 rfl (fun i => ow_convU64 rfl rfl rfl (by have := i.2; omega) ⟨rfl, .refl _⟩)) ?_)))))
      refine aa_ (fun c => ow_exarg 41 rfl (fun i : {i : Int // 0 ≤ i ∧ (i < 4 ∨ i = 0)} => ow_shl64 (n := i.1) rfl rfl (by have := i.2; omega) (by have := i.2; have := pow_bd i.1 g_; omega) ⟨rfl, .refl _⟩)) (aa_ (fun c => ow_exarg 42 rfl (fun i => bu_ rfl rfl rfl rfl rfl ⟨rfl, .refl _⟩)) (yF_ r_ (yL_ 1 r_ (aa_ (fun c => cc_ (k := 0) r_ r_ hl0 r_ r_ b_ ⟨rfl, .refl _⟩) (aa_ (fun c => cb_ r_ r_ p_) ?_)))))
      refine aa_ (fun c => ow_exarg 43 rfl (fun i => bu_ rfl rfl rfl rfl rfl ⟨rfl, .refl _⟩)) (aa_ (fun c => ow_exarg 48 rfl (fun i => bq_ rfl rfl b_ rfl rfl b_ ⟨rfl, .refl _⟩)) (ae_ (afin_none (jl_slot 49 rfl (fun n => o_ r_ (ow_append1F (f := ShRow) (l1 := []) 0 (⟨#[98, 117, 102]⟩, 1 * 2 ^ n.1.toNat, lR[0]) rfl rfl rfl rfl rfl rfl rfl (fun _ => rfl) (by show (0 + 1) * 40 ≤ _; omega) (by simp) (fun vS hvS fvS => ?_)))))))
      refine jl_freezeF 50 0 rfl rfl (fvS fresh_nil) (F_ r_ (W_ 0 r_ (ak_ ?_)))
      (first | refine jq_row 0 [.list (lR.map Wrow), .list ([((⟨#[98, 117, 102]⟩ : ByteArray), (1 : Int) * 2 ^ n.1.toNat, lR[0])].map ShRow), NilC] rfl (.cons (.refl _) (.refl _)) ?_ | refine jq_row 1 [.list (lR.map Wrow), .list ([((⟨#[98, 117, 102]⟩ : ByteArray), (1 : Int) * 2 ^ n.1.toNat, lR[0])].map ShRow), NilC] rfl (.cons (.refl _) (.refl _)) ?_)
      refine jq_cutS [((⟨#[98, 117, 102]⟩ : ByteArray), (1 : Int) * 2 ^ n.1.toNat, lR[0])] (.inr ⟨lR[0], n.1.toNat, by simp, by have := n.2; omega, by rw [Int.one_mul]⟩) ?_ ?_
      · exact bc_ 0 r_ (bc_ 0 r_ (bc_ 0 r_ sub_end))
      · (repeat (first | exact True.intro | refine ⟨rfl, ?_⟩))
    · refine as_ ?_
      (first | refine jq_row 0 [.list (lR.map Wrow), .list (([] : List Shd).map ShRow), NilC] rfl (.cons (.refl _) (.cons .nil (.refl _))) ?_ | refine jq_row 1 [.list (lR.map Wrow), .list (([] : List Shd).map ShRow), NilC] rfl (.cons (.refl _) (.cons .nil (.refl _))) ?_)
      refine jq_cutS ([] : List Shd) (.inl rfl) ?_ ?_
      · exact bc_ 0 r_ (bc_ 0 r_ (bc_ 0 r_ sub_end))
      · (repeat (first | exact True.intro | refine ⟨rfl, ?_⟩))
  intro Sh hSh
  have hShl : Sh.length ≤ 1 := by rcases hSh with rfl | ⟨r, k, _, _, rfl⟩ <;> simp
  have tk := fun nm => con_toEx (task_c (Sh := Sh) (bd := bd) hL hLn (by omega) nm W N hW hN)
  refine jc_ownNil 39 11 g_ (am_ (R_ (E_ r_ (T_ ?_))))
  refine jc_cut (ι := Value × List Tk) [] (fun i => c.Fresh i.1 ∧ i.2.length = T.toNat ∧ ∀ (j : Nat) (h : j < i.2.length), TaskG Sh (nmT j) W i.2[j]) (fun _ => [(0, Ptr bd), (1, In .i64 T), (2, In .i64 W), (3, In .i64 N), (8, Ptr b8), (9, Ptr b9)])
    (fun i => [.blk b9 31 [.list (lR.map Wrow), .list (Sh.map ShRow), .val i.1], .own i.1 39 11 (i.2.map Tk.row), Dk bd L, .blk b8 31 [NilC, NilC, NilC]]) ?_ ?_
  · refine au_ ?_
    refine jc_loopS (ι := Nat × Value × List Tk) [] (fun i => i.1 ≤ T.toNat ∧ c.Fresh i.2.1 ∧ i.2.2.length = i.1 ∧ ∀ (j : Nat) (h : j < i.2.2.length), TaskG Sh (nmT j) W i.2.2[j]) (fun i => (11, In .i64 (i.1 : Int)) :: [(0, Ptr bd), (1, In .i64 T), (2, In .i64 W), (3, In .i64 N), (8, Ptr b8), (9, Ptr b9)])
      (fun i => [.blk b9 31 [.list (lR.map Wrow), .list (Sh.map ShRow), .val i.2.1], .own i.2.1 39 11 (i.2.2.map Tk.row), Dk bd L, .blk b8 31 [NilC, NilC, NilC]]) (fun i => T.toNat - i.1) (0, .slice none 0 0, []) ⟨Nat.zero_le _, fresh_nil, rfl, by simp⟩ ?_ ?_ ?_
    · exact bc_ 1 r_ (bc_ 0 r_ (bc_ 0 r_ (bc_ 0 r_ sub_end)))
    · (repeat (first | exact True.intro | refine ⟨rfl, ?_⟩))
    · rintro ⟨k, vT, ls⟩ ⟨hk, hfT, hls, hg⟩
      dsimp only at hk hfT hls hg ⊢
      refine am_ (R_ (M_ r_ (M_ r_ (o_ r_ (bw_ r_ r_ (T_ (jc_condd rfl (fun hlt => ?_) (fun hge => ?_))))))))
      · refine as_ (al_ (B_ (jc_anyB 15 none rfl k_ k_ (yF_ r_ (yL_ 0 r_ (yM_ r_ (yM_ r_ (aa_ (fun c => bj_ r_ r_ g_ p_) (aa_ (fun c => ow_convU8 r_ r_ r_ g_ p_) (aa_ (fun c => bq_ r_ r_ b_ r_ r_ b_ p_) (aa_ (fun c => ow_bytesToString (l := [_]) r_ r_ r_ p_) (aa_ (fun c => ow_strcat rfl rfl (by show 1 + 1 ≤ 9223372036854775807; omega) ⟨rfl, .refl _⟩) (yF_ r_ (yL_ 0 r_ (yM_ r_ ?_)))))))))))))))
        refine yM_ r_ (aa_ (fun c => ow_callA [2] r_ r_ (tk _)) (aa_ (fun c => ow_exarg 70 rfl (fun i => bq_ rfl rfl b_ rfl rfl b_ ⟨rfl, .refl _⟩)) (ae_ (afin_none (jl_slot 71 rfl (fun l => ?_))))))
        (first | refine jl_op (ow_append1F 1 (l.1) rfl rfl rfl rfl rfl rfl rfl (fun _ => rfl) (by show (_ + _) * 192 ≤ _; first | omega | (simp only [List.length_append]; omega)) (by first | omega | (simp only [List.length_append]; omega)) (fun vT1 hvT1 fvT1 => ?_)) (nb rfl) | refine jl_op (ow_append1F 2 (l.1) rfl rfl rfl rfl rfl rfl rfl (fun _ => rfl) (by show (_ + _) * 192 ≤ _; first | omega | (simp only [List.length_append]; omega)) (by first | omega | (simp only [List.length_append]; omega)) (fun vT1 hvT1 fvT1 => ?_)) (nb rfl))
        refine F_ r_ (W_ 1 r_ (ak_ (ay_ (al_ (an_ (M_ r_ (o_ r_ (bj_ r_ r_ g_ (E_ r_ (ak_ (jq_againS (i := (k, vT, ls)) (k + 1, vT1, ls ++ [l.1]) ⟨by dsimp only; omega, fvT1 hfT, by simp [hls], ?_⟩ (by dsimp only; omega) ?_ ?_)))))))))))
        · intro j hj
          simp only [List.length_append, List.length_cons, List.length_nil] at hj
          dsimp only
          by_cases hjl : j < ls.length
          · rw [List.getElem_append_left hjl]
            exact hg j hjl
          · have hjk : j = k := by omega
            subst hjk
            rw [List.getElem_append_right (by omega)]
            simp only [List.getElem_singleton]
            exact l.2
        · exact bc_ 0 r_ (bc_ 0 r_ (bc_ 0 r_ (bc_ 0 r_ sub_end)))
        · (repeat (first | exact True.intro | refine ⟨rfl, ?_⟩))
      · refine av_ (ax_ (ax_ (ba_ (jq_cutS (vT, ls) ⟨hfT, by dsimp only; omega, hg⟩ ?_ ?_))))
        · exact bc_ 0 r_ (bc_ 0 r_ (bc_ 0 r_ (bc_ 0 r_ sub_end)))
        · (repeat (first | exact True.intro | refine ⟨rfl, ?_⟩))
  rintro ⟨vT, ls⟩ ⟨hfT, hls, hg⟩
  dsimp only at hfT hls hg ⊢
  refine jc_freezeB 1 0 2 rfl rfl hfT (R_ (A_ 0 r_ (S_ 2 r_ (T_ (ar_ ?_)))))
  (first | refine jq_retRowS rfl rfl rfl rfl 0 rfl (fun K h => h ⟨lR, Sh, ls⟩ ⟨⟨n1, hn12, hlR⟩, hSh, hls, hg⟩) ?_ | refine jq_retRowS rfl rfl rfl rfl 1 rfl (fun K h => h ⟨lR, Sh, ls⟩ ⟨⟨n1, hn12, hlR⟩, hSh, hls, hg⟩) ?_ | refine jq_retRowS rfl rfl rfl rfl 2 rfl (fun K h => h ⟨lR, Sh, ls⟩ ⟨⟨n1, hn12, hlR⟩, hSh, hls, hg⟩) ?_)
  exact bc_ 2 r_ sub_end

theorem gProgram_c (hL : InR L) (hLn : L.length ≤ 400) (T : Int) :
    Con Tryz.prog 15 [Ptr bd, In .i64 T] [Dk bd L] (fun K => ∀ p : Pg, PgG (max 1 (min T 6)).toNat 300 p → K (.row p.row) [Dk bd L]) := by
  refine con_intro Tryz.func15 rfl rfl (Nat.le_of_ble_eq_true rfl) (fun c hc => R_ (o_ r_ (bl_ rfl rfl (fun b4 => T_ (R_ (M_ r_ (M_ r_ (o_ r_ (cl_ r_ r_ (o_ r_ (ck_ r_ r_ (o_ r_ (bt_ [1] rfl rfl (programs_c hL hLn _ _ _ g_ g_ g_) (fun p hp => S_ 1 r_ (T_ (ar_ ?_))))))))))))))))
  (first | refine jq_retRowS rfl rfl rfl rfl 0 rfl (fun K h => h p hp) ?_ | refine jq_retRowS rfl rfl rfl rfl 1 rfl (fun K h => h p hp) ?_)
  exact bc_ 1 r_ sub_end
end
end Go.Proofs.YtalkkcfojplmdaaGreatDoor
end

section
namespace Go.Proofs.YtalkkcfojplmdaaGreatDoor
open Go.Vc

theorem nmOk_lit {s : ByteArray} (h : (isName s && !hasW s) = true) : nmOk s := by
  simp only [Bool.and_eq_true, Bool.not_eq_true'] at h
  exact h
theorem ExG.fine {V U : List ByteArray} (hV : ∀ s ∈ V, nmOk s) (hU : ∀ s ∈ U, nmOk s) : ∀ {d : Nat} {t : T}, ExG V U d t → t.ok ∧ t.dep ≤ d + 1 := by
  intro d t h
  induction h with
  | nu d n h => exact ⟨h, by simp [T.dep]⟩
  | nm d s h => exact ⟨hV s h, by simp [T.dep]⟩
  | ix d s t h _ ih => exact ⟨⟨hU s h, ih.1⟩, by simp only [T.dep]; omega⟩
  | bn d o a b ho _ _ iha ihb => exact ⟨⟨ho, iha.1, ihb.1⟩, by simp only [T.dep]; omega⟩
theorem pc_all {St : Int → Int → List Sm → Prop} {P : Sm → Prop} (h : ∀ a b l, St a b l → 0 ≤ a → a ≤ b ∧ ∀ s ∈ l, P s) {k : Nat} {a b : Int} {l : List Sm} (hp : PcG St k a b l) (h0 : 0 ≤ a) : a ≤ b ∧ ∀ s ∈ l, P s := by
  induction hp with
  | nil => exact ⟨Int.le_refl _, by simp⟩
  | snoc k _ _ _ l l2 _ h2 ih =>
    obtain ⟨i1, i2⟩ := ih h0
    obtain ⟨j1, j2⟩ := h _ _ _ h2 (by omega)
    refine ⟨by omega, fun s hs => ?_⟩
    rcases List.mem_append.1 hs with hs | hs
    · exact i2 s hs
    · exact j2 s hs
theorem bl_all {St : Int → Int → List Sm → Prop} {P : Sm → Prop} (h : ∀ a b l, St a b l → 0 ≤ a → a ≤ b ∧ ∀ s ∈ l, P s) {m : Int} {a b : Int} {l : List Sm} (hp : BlG St m a b l) (h0 : 0 ≤ a) : a ≤ b ∧ ∀ s ∈ l, P s := by
  obtain ⟨k, _, hp⟩ := hp
  exact pc_all h hp h0
/-- An expression as makers make it. -/
def Fm (x : T) : Prop := x.ok ∧ x.dep ≤ 3
theorem Fm.fx {x : T} (h : Fm x) : Fx x := ⟨h.1, Nat.le_trans h.2 (by decide)⟩
/-- A statement as the grammar has it: of at most a depth. -/
def mdS : Nat → Sm → Prop
  | 0, _ => False
  | n + 1, s =>
    (∃ v x, nmOk v ∧ Fm x ∧ s = .mk 1 v [] [x] 0 0 [] []) ∨
    (∃ v y x, nmOk v ∧ Fm y ∧ Fm x ∧ s = .mk 2 v [y] [x] 0 0 [] []) ∨
    (∃ x lab t e, Fm x ∧ Pl lab ∧ (∀ u ∈ t, mdS n u) ∧ (∀ u ∈ e, mdS n u) ∧ s = .mk 3 E0 [] [x] 0 lab t e) ∨
    (∃ x mx lab t, Fm x ∧ Pl mx ∧ Pl lab ∧ (∀ u ∈ t, mdS n u) ∧ s = .mk 4 E0 [] [x] mx lab t []) ∨
    (∃ v t, nmOk v ∧ (∀ u ∈ t, mdS n u) ∧ s = .mk 5 v [] [] 0 0 t [])
theorem mdS.fine : ∀ {n : Nat} {s : Sm}, mdS n s → fineS n s
  | 0, _, h => h.elim
  | n + 1, s, h => by
    unfold mdS at h
    unfold fineS
    rcases h with ⟨v, x, hv, hx, rfl⟩ | ⟨v, y, x, hv, hy, hx, rfl⟩ | ⟨x, lab, t, e, hx, hl, ht, he, rfl⟩ | ⟨x, mx, lab, t, hx, hm, hl, ht, rfl⟩ | ⟨v, t, hv, ht, rfl⟩
    · exact .inl ⟨rfl, hv, x, rfl, hx.fx⟩
    · exact .inr (.inl ⟨rfl, hv, y, x, rfl, rfl, hy.fx, hx.fx⟩)
    · exact .inr (.inr (.inl ⟨rfl, ⟨x, rfl, hx.fx⟩, hl, fun u hu => (ht u hu).fine, fun u hu => (he u hu).fine⟩))
    · exact .inr (.inr (.inr (.inl ⟨rfl, ⟨x, rfl, hx.fx⟩, hm, hl, fun u hu => (ht u hu).fine, rfl⟩)))
    · exact .inr (.inr (.inr (.inr ⟨rfl, hv, fun u hu => (ht u hu).fine, rfl⟩)))
theorem md_set {n : Nat} {v : ByteArray} {x : T} (hv : nmOk v) (hx : Fm x) : mdS (n + 1) (.mk 1 v [] [x] 0 0 [] []) := .inl ⟨v, x, hv, hx, rfl⟩
theorem StG.md {V A : List ByteArray} {Sh : List Shd} (hV : ∀ s ∈ V, nmOk s) (hU : ∀ hs, ∀ s ∈ usableF A Sh hs, nmOk s) (hR : ∀ x ∈ Sh, nmOk x.2.2) : ∀ (d : Nat) (il : Int) (hs : ByteArray) (a b : Int) (l : List Sm), StG V A Sh d il hs a b l → 0 ≤ a → a ≤ b ∧ ∀ s ∈ l, mdS (d + 1) s := by
  have ex : ∀ {hs : ByteArray} {d : Nat} {t : T}, ExG V (usableF A Sh hs) d t → d ≤ 2 → Fm t := fun h hd => ⟨(h.fine hV (hU _)).1, by have := (h.fine hV (hU _)).2; omega⟩
  have leaf : ∀ {n : Nat} {hs : ByteArray} {a b : Int} {l : List Sm}, LeafG V (usableF A Sh hs) a b l → a ≤ b ∧ ∀ s ∈ l, mdS (n + 1) s := by
    rintro n hs a b l ⟨rfl, ⟨s, e, h1, h2, rfl⟩ | ⟨s, e1, e2, h1, h2, h3, rfl⟩⟩
    · refine ⟨Int.le_refl _, fun t ht => ?_⟩
      rw [List.mem_singleton.1 ht]
      exact md_set (hV s h1) (ex h2 (by omega))
    · refine ⟨Int.le_refl _, fun t ht => ?_⟩
      rw [List.mem_singleton.1 ht]
      exact .inr (.inl ⟨s, e1, e2, hU _ s h1, ex h2 (by omega), ex h3 (by omega), rfl⟩)
  intro d
  induction d with
  | zero => intro il hs a b l h _; exact leaf h
  | succ d ih =>
    intro il hs a b l h h0
    rcases h with h | ⟨hl, c, l1, l2, lab1, hc, hb1, hb2, rfl⟩ | ⟨_, hl, ⟨c, mx, l1, hc, hm, hb, rfl⟩ | ⟨v, n, op, top, mx, l1, st, hv, hn, ho, ht, hm, hst, hb, rfl⟩⟩ | ⟨_, sh, hsh, l1, hb, rfl⟩
    · exact leaf h
    · obtain ⟨g1, g2⟩ := bl_all (ih il hs) hb1 (by omega)
      have g3 : lab1 ≤ b ∧ ∀ s ∈ l2, mdS (d + 1) s := by
        rcases hb2 with ⟨rfl, rfl⟩ | hb2
        · exact ⟨Int.le_refl _, by simp⟩
        · exact bl_all (ih il hs) hb2 (by omega)
      refine ⟨by omega, fun t ht => ?_⟩
      rw [List.mem_singleton.1 ht]
      exact .inr (.inr (.inl ⟨c, a + 1, l1, l2, ex hc (by omega), ⟨by omega, by omega⟩, g2, g3.2, rfl⟩))
    · obtain ⟨g1, g2⟩ := bl_all (ih (il + 1) hs) hb (by omega)
      refine ⟨by omega, fun t ht => ?_⟩
      rw [List.mem_singleton.1 ht]
      exact .inr (.inr (.inr (.inl ⟨c, mx, a + 1, l1, ex hc (by omega), ⟨by omega, by omega⟩, ⟨by omega, by omega⟩, g2, rfl⟩)))
    · obtain ⟨g1, g2⟩ := bl_all (ih (il + 1) hs) hb (by omega)
      have hv2 := hV v hv
      have htop : top.ok ∧ top.dep ≤ 1 := by
        rcases ht with ⟨t, ht, rfl⟩ | ⟨s, hs, rfl⟩
        · exact ⟨by show _ ∧ _; omega, by simp [T.dep]⟩
        · exact ⟨hV s hs, by simp [T.dep]⟩
      have hfn : Fm (.nu n) := ⟨by show _ ∧ _; omega, by simp [T.dep]⟩
      have hfc : Fm (.bn (11 + op) (.nm v) top) := ⟨⟨by omega, hv2, htop.1⟩, by simp only [T.dep]; omega⟩
      have hfs : Fm (.bn 1 (.nm v) (.nu st)) := ⟨⟨by omega, hv2, by show _ ∧ _; omega⟩, by simp [T.dep]⟩
      refine ⟨by omega, fun t ht => ?_⟩
      rcases List.mem_cons.1 ht with rfl | ht
      · exact md_set hv2 hfn
      · rw [List.mem_singleton.1 ht]
        refine .inr (.inr (.inr (.inl ⟨_, mx, a + 1, _, hfc, ⟨by omega, by omega⟩, ⟨by omega, by omega⟩, fun s hs => ?_, rfl⟩)))
        rcases List.mem_append.1 hs with hs | hs
        · exact g2 s hs
        · rw [List.mem_singleton.1 hs]
          exact md_set hv2 hfs
    · obtain ⟨g1, g2⟩ := bl_all (ih il sh.2.2) hb h0
      refine ⟨g1, fun t ht => ?_⟩
      rw [List.mem_singleton.1 ht]
      exact .inr (.inr (.inr (.inr ⟨sh.2.2, l1, hR sh hsh, g2, rfl⟩)))
/-- The names of a made task. -/
structure NmsG (Sh : List Shd) (t : Tk) : Prop where
  vars : ∀ s ∈ t.inputs.map (·.1) ++ VS, nmOk s
  usable : ∀ hs, ∀ s ∈ usableF (t.arrays.map (·.1)) Sh hs, nmOk s
  locks : ∀ x ∈ Sh, nmOk x.2.2
theorem RS_ok {n : Nat} : ∀ s ∈ RSl n, nmOk s := by
  rcases n with _ | _ | n
  · simp [RSl]
  · intro s hs
    simp only [RSl, List.mem_singleton] at hs
    subst hs
    exact nmOk_lit (by decide +kernel)
  · intro s hs
    simp only [RSl, List.mem_cons, List.not_mem_nil, or_false] at hs
    rcases hs with rfl | rfl <;> exact nmOk_lit (by decide +kernel)
theorem nms_of {R : List ByteArray} {n : Nat} {Sh : List Shd} {nm : ByteArray} {W : Int} {t : Tk} (hR : R = RSl n) (hSh : ShG R Sh) (h : TaskG Sh nm W t) : NmsG Sh t := by
  have hshN : ∀ x ∈ Sh, nmOk x.1 ∧ nmOk x.2.2 := by
    rcases hSh with rfl | ⟨r, k, hr, _, rfl⟩
    · simp
    · intro x hx
      rw [List.mem_singleton.1 hx]
      exact ⟨nmOk_lit (s := ⟨#[98, 117, 102]⟩) (by decide +kernel), RS_ok (n := n) r (by rw [← hR]; exact List.mem_of_getElem? hr)⟩
  refine ⟨?_, ?_, fun x hx => (hshN x hx).2⟩
  · intro s hs
    rcases List.mem_append.1 hs with hs | hs
    · rw [h.inputs.2.1] at hs
      have := List.mem_of_mem_take hs
      simp only [List.mem_cons, List.not_mem_nil, or_false] at this
      rcases this with rfl | rfl <;> exact nmOk_lit (by decide +kernel)
    · simp only [List.mem_cons, List.not_mem_nil, or_false] at hs
      rcases hs with rfl | rfl | rfl <;> exact nmOk_lit (by decide +kernel)
  · intro hs s hm
    unfold usableF at hm
    rcases List.mem_append.1 hm with hm | hm
    · rcases h.arrays with e | ⟨k, _, e⟩
      · rw [e] at hm; simp at hm
      · rw [e] at hm
        simp only [List.map_cons, List.map_nil, List.mem_singleton] at hm
        subst hm
        exact nmOk_lit (by decide +kernel)
    · obtain ⟨x, hx, he⟩ := List.mem_filterMap.1 hm
      split at he
      · rw [← Option.some.inj he]
        exact (hshN x hx).1
      · cases he
theorem TaskG.md {Sh : List Shd} {nm : ByteArray} {W : Int} {t : Tk} (hN : NmsG Sh t) (h : TaskG Sh nm W t) : ∀ s ∈ t.body, mdS 4 s := by
  obtain ⟨lab, l, n, hl, hb⟩ := h.body
  obtain ⟨_, g⟩ := bl_all (StG.md hN.vars hN.usable hN.locks 3 0 E0) hl (Int.le_refl _)
  intro s hs
  rw [hb] at hs
  exact g s (List.mem_of_mem_take hs)
theorem PgG.md {T : Nat} {W : Int} {p : Pg} (h : PgG T W p) : ∀ t ∈ p.tasks, ∀ s ∈ t.body, mdS 4 s := by
  intro t ht
  obtain ⟨i, hi, rfl⟩ := List.mem_iff_getElem.1 ht
  obtain ⟨n, _, hR⟩ := h.res
  exact (h.tasks i hi).md (nms_of hR h.shared (h.tasks i hi))
end Go.Proofs.YtalkkcfojplmdaaGreatDoor
end

section
namespace Go.Proofs.YtalkkcfojplmdaaGreatDoor
open Go.Vc
theorem con_conseq {P : Program} [Gl P] {f : FuncId} {ss : List S} {Hin : List Ch} {post post' : (S → List Ch → Prop) → Prop} (hp : ∀ K, post' K → post K) (h : Con P f ss Hin post) : Con P f ss Hin post' := by
  intro vs w A h1 h2 h3 h4 h5 h6
  refine (h vs w A h1 h2 h3 h4 h5 h6).mono ?_
  rintro e w' ⟨v, s, Ho, he, hK, hs, hrest⟩
  exact ⟨v, s, Ho, he, fun K h => hK K (hp K h), hs, hrest⟩
attribute [local irreducible] JL JC JQ OpWp Con ConN
theorem gNewT_c (L : List Int) : Con Tryz.prog 14 [.cell (.list (L.map Irow))] [] (fun K => ∀ b : Nat, True → K (Ptr b) [Dk b L]) := con_conseq (fun _ h b => h b trivial) (gNew_c L)
end Go.Proofs.YtalkkcfojplmdaaGreatDoor
end

section
namespace Go.Proofs.YtalkkcfojplmdaaGreatDoor
open Go.Vc
attribute [local irreducible] JL JC JQ OpWp Con ConN
attribute [local irreducible] progT StG BlG
attribute [local irreducible] progF

theorem TaskG.sz {Sh : List Shd} {nm : ByteArray} {W : Int} {t : Tk} (h : TaskG Sh nm W t) : TkSz t := by
  obtain ⟨lab, l, n, hl, hb⟩ := h.body
  have h1 := body_szs hl
  have h2 := Sm.szs_take l n
  refine ⟨by have := h.inputs.1; omega, by rw [h.vars]; decide, ?_, ?_, ?_, by rw [hb]; omega⟩
  · rcases h.arrays with e | ⟨k, _, e⟩ <;> rw [e] <;> simp
  · rcases h.modes with e | ⟨x, lo, hi, _, _, e⟩ <;> rw [e] <;> simp
  · rcases h.claims with e | ⟨a, b, _, _, _, e⟩ <;> rw [e] <;> simp
theorem PgG.sz {T : Nat} {W : Int} {p : Pg} (hT : T ≤ 1000) (h : PgG T W p) : PgSz p := by
  refine ⟨?_, ?_, by rw [h.len]; exact hT, ?_⟩
  · obtain ⟨n, hn, e⟩ := h.res
    rw [e]
    rcases n with _ | _ | n <;> simp [RSl]
  · rcases h.shared with e | ⟨r, k, _, _, e⟩ <;> rw [e] <;> simp
  · intro t ht
    obtain ⟨i, hi, rfl⟩ := List.mem_iff_getElem.1 ht
    exact (h.tasks i hi).sz
end Go.Proofs.YtalkkcfojplmdaaGreatDoor
end

section
namespace Go.Proofs.YtalkkcfojplmdaaGreatDoor
open Go.Vc
set_option maxHeartbeats 1000000

theorem Fm.one {x : T} (h : Fm x) : oneB [x] = true := (shpF_ok 20 x (by have := h.2; omega)).2 h.1
theorem Pl.b {n : Int} (h : Pl n) : plainB n = true := plainB_ok.2 h
end Go.Proofs.YtalkkcfojplmdaaGreatDoor
end

section
namespace Go.Proofs.YtalkkcfojplmdaaGreatDoor
open Go.Vc
set_option maxHeartbeats 1000000

def seqI (a : Int) (n : Nat) : List Int := (List.range n).map fun i : Nat => a + 1 + (i : Int)
theorem seqI_app (a : Int) (n m : Nat) : seqI a n ++ seqI (a + n) m = seqI a (n + m) := by
  unfold seqI
  rw [List.range_add, List.map_append, List.map_map]
  congr 1
  refine List.map_congr_left (fun i _ => ?_)
  simp only [Function.comp]
  omega
theorem seqI_one (a : Int) : seqI a 1 = [a + 1] := by simp [seqI]
theorem Sm.lbss_flat (w : Int → Bool) : ∀ l : List Sm, Sm.lbss w l = l.flatMap (Sm.lbs w)
  | [] => rfl
  | s :: l => by rw [Sm.lbss, Sm.lbss_flat w l, List.flatMap_cons]
theorem Sm.lbss_app (w : Int → Bool) (l m : List Sm) : Sm.lbss w (l ++ m) = Sm.lbss w l ++ Sm.lbss w m := by rw [Sm.lbss_flat, Sm.lbss_flat, Sm.lbss_flat, List.flatMap_append]
/-- Labels that go from one number to another. -/
def Lb (a b : Int) (l : List Sm) : Prop := a ≤ b ∧ b ≤ 12 ∧ Sm.lbss isIW l = seqI a (b - a).toNat
theorem Lb.nil {a : Int} (h : a ≤ 12) : Lb a a [] := ⟨Int.le_refl _, h, by rw [Int.sub_self]; rfl⟩
theorem Lb.app {a b c : Int} {l m : List Sm} (h : Lb a b l) (k : Lb b c m) : Lb a c (l ++ m) := by
  obtain ⟨h1, h2, h3⟩ := h
  obtain ⟨k1, k2, k3⟩ := k
  refine ⟨by omega, k2, ?_⟩
  have e := seqI_app a (b - a).toNat (c - b).toNat
  rw [show a + ((b - a).toNat : Int) = b by omega] at e
  rw [Sm.lbss_app, h3, k3, e]
  congr 1
  omega
theorem pc_lab {St : Int → Int → List Sm → Prop} (h : ∀ a b l, St a b l → 0 ≤ a → a ≤ 12 → Lb a b l) {k : Nat} {a b : Int} {l : List Sm} (hp : PcG St k a b l) (h0 : 0 ≤ a) (h1 : a ≤ 12) : Lb a b l := by
  induction hp with
  | nil => exact .nil h1
  | snoc k _ _ _ l l2 _ h2 ih =>
    have h3 := ih h0 h1
    exact h3.app (h _ _ _ h2 (by have := h3.1; omega) h3.2.1)
theorem bl_lab {St : Int → Int → List Sm → Prop} (h : ∀ a b l, St a b l → 0 ≤ a → a ≤ 12 → Lb a b l) {m : Int} {a b : Int} {l : List Sm} (hp : BlG St m a b l) (h0 : 0 ≤ a) (h1 : a ≤ 12) : Lb a b l := by
  obtain ⟨k, _, hp⟩ := hp
  exact pc_lab h hp h0 h1
theorem StG.lab {V A : List ByteArray} {Sh : List Shd} : ∀ (d : Nat) (il : Int) (hs : ByteArray) (a b : Int) (l : List Sm), StG V A Sh d il hs a b l → 0 ≤ a → a ≤ 12 → Lb a b l := by
  have leaf : ∀ {U : List ByteArray} {a b : Int} {l : List Sm}, LeafG V U a b l → a ≤ 12 → Lb a b l := by
    rintro U a b l ⟨rfl, ⟨s, e, h1, h2, rfl⟩ | ⟨s, e1, e2, h1, h2, h3, rfl⟩⟩ h12
    · exact ⟨Int.le_refl _, h12, by rw [Int.sub_self]; simp [Sm.lbss, Sm.lbs, isIW]; rfl⟩
    · exact ⟨Int.le_refl _, h12, by rw [Int.sub_self]; simp [Sm.lbss, Sm.lbs, isIW]; rfl⟩
  have node : ∀ {a b : Int} {k : Int} {nm : ByteArray} {i v : List T} {m : Int} {t e : List Sm}, isIW k = true → Lb (a + 1) b (t ++ e) → Lb a b [.mk k nm i v m (a + 1) t e] := by
    intro a b k nm i v m t e hk h
    obtain ⟨h1, h2, h3⟩ := h
    refine ⟨by omega, h2, ?_⟩
    have e1 := seqI_app a 1 (b - (a + 1)).toNat
    rw [show a + ((1 : Nat) : Int) = a + 1 by omega, seqI_one] at e1
    rw [Sm.lbss_app] at h3
    simp only [Sm.lbss, Sm.lbs, hk, if_true, List.append_nil]
    rw [List.append_assoc, h3, e1]
    congr 1
    omega
  intro d
  induction d with
  | zero => intro il hs a b l h _ h12; exact leaf h h12
  | succ d ih =>
    intro il hs a b l h h0 h12
    rcases h with h | ⟨hl, c, l1, l2, lab1, hc, hb1, hb2, rfl⟩ | ⟨_, hl, ⟨c, mx, l1, hc, hm, hb, rfl⟩ | ⟨v, n, op, top, mx, l1, st, hv, hn, ho, ht, hm, hst, hb, rfl⟩⟩ | ⟨_, sh, hsh, l1, hb, rfl⟩
    · exact leaf h h12
    · have g1 := bl_lab (ih il hs) hb1 (by omega) (by omega)
      have g3 : Lb lab1 b l2 := by
        rcases hb2 with ⟨rfl, rfl⟩ | hb2
        · exact .nil g1.2.1
        · exact bl_lab (ih il hs) hb2 (by have := g1.1; omega) g1.2.1
      exact node rfl (g1.app g3)
    · have g1 := bl_lab (ih (il + 1) hs) hb (by omega) (by omega)
      exact node rfl (by rw [List.append_nil]; exact g1)
    · have g1 := bl_lab (ih (il + 1) hs) hb (by omega) (by omega)
      have g2 : Lb b b [Sm.mk 1 v [] [.bn 1 (.nm v) (.nu st)] 0 0 [] []] := ⟨Int.le_refl _, g1.2.1, by rw [Int.sub_self]; simp [Sm.lbss, Sm.lbs, isIW]; rfl⟩
      have g3 : Lb a a [Sm.mk 1 v [] [.nu n] 0 0 [] []] := ⟨Int.le_refl _, h12, by rw [Int.sub_self]; simp [Sm.lbss, Sm.lbs, isIW]; rfl⟩
      exact g3.app (node rfl (by rw [List.append_nil]; exact g1.app g2))
    · have g1 := bl_lab (ih il sh.2.2) hb h0 h12
      obtain ⟨k1, k2, k3⟩ := g1
      exact ⟨k1, k2, by rw [← k3]; simp [Sm.lbss, Sm.lbs, isIW]⟩
theorem ExG.use {V U vs ar : List ByteArray} (hV : ∀ s ∈ V, s ∈ vs) (hU : ∀ s ∈ U, s ∈ ar) : ∀ {d : Nat} {t : T}, ExG V U d t → useB vs ar t = true := by
  intro d t h
  induction h with
  | nu d n h => rfl
  | nm d s h => exact hasB_iff.2 (hV s h)
  | ix d s t h _ ih => simp only [useB, Bool.and_eq_true]; exact ⟨hasB_iff.2 (hU s h), ih⟩
  | bn d o a b _ _ _ ia ib => simp only [useB, Bool.and_eq_true]; exact ⟨ia, ib⟩
theorem ExG.wd {V U : List ByteArray} : ∀ {d : Nat} {t : T}, ExG V U d t → wdT t = true := by
  intro d t h
  induction h with
  | nu d n h => simp only [wdT, Bool.and_eq_true, decide_eq_true_eq]; omega
  | nm d s h => rfl
  | ix d s t h _ ih => exact ih
  | bn d o a b _ _ _ ia ib => simp only [wdT, Bool.and_eq_true]; exact ⟨ia, ib⟩
theorem ExG.free {V U : List ByteArray} {sh : List Shd} {h : ByteArray} (hU : ∀ s ∈ U, allowB sh h s = true) : ∀ {d : Nat} {t : T}, ExG V U d t → freeB sh h t = true := by
  intro d t hh
  induction hh with
  | nu d n h => rfl
  | nm d s h => rfl
  | ix d s t h _ ih => simp only [freeB, Bool.and_eq_true]; exact ⟨hU s h, ih⟩
  | bn d o a b _ _ _ ia ib => simp only [freeB, Bool.and_eq_true]; exact ⟨ia, ib⟩
end Go.Proofs.YtalkkcfojplmdaaGreatDoor
end
