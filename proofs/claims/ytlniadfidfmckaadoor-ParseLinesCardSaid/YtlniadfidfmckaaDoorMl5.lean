import Derived.Test.YtlniadfidfmckaaDoorMl4
import Derived.Lib.AppendStr
import Derived.KernelRfl
section
namespace Go.Proofs.YtlniadfidfmckaaDoor
open Go.Vc
attribute [local irreducible] JL JC JQ OpWp Con ConN
attribute [local irreducible] byteAt runLen isL isD isName hasW
set_option maxHeartbeats 4000000

theorem rtext_c : ∀ (t : T), t.ok → (textT t).size ≤ 1000000000 → Con Tryd.prog 49 [.row t.row'] [] (fun K => K (Str (textT t)) []) := by
  intro t
  induction t with
  | nu n =>
    intro hok hz
    have hI := refNumber_c n hok
    have hz := numS_size n hok.1 hok.2
    have h40 := one_size 40
    have h41 := one_size 41
    have h2 : (⟨#[40]⟩ ++ numS n).size ≤ 30 := by rw [ByteArray.size_append]; omega
    show Con _ _ [.row [.val (.int .i64 1), .val (.int .i64 n), .val (.string ⟨#[]⟩), .val (.int .i64 0), .list (([] : List T).map T.row)]] [] _
    refine con_intro Tryd.func49 rfl rfl (Nat.le_of_ble_eq_true rfl) (fun c hc => R_ (o_ r_ (ci_ r_ (fun bx => E_ r_ (T_ (am_ (R_ (F_ r_ (L_ 0 r_ (T_ (au_ (R_ (o_ r_ (bn_ r_ r_ (E_ r_ (T_ (jc_condd rfl (fun _ => ?_) (fun h => absurd rfl h))))))))))))))))))
    refine am_ (R_ (F_ r_ (L_ 0 r_ (o_ r_ (bw_ r_ r_ (T_ (jc_condd rfl (fun hn => ?_) (fun hn => ?_))))))))
    · have e : textT (.nu n) = (⟨#[40]⟩ ++ numS n) ++ ⟨#[41]⟩ := by unfold textT; rw [if_pos hn]
      refine R_ (F_ r_ (L_ 0 r_ (o_ r_ (bm_ r_ (hI) (o_ r_ (ow_strcat r_ r_ g_ (o_ r_ (ow_strcat r_ r_ g_ (E_ r_ (T_ (ar_ (aw_ (az_ (aw_ (jq_ret1 rfl rfl [] rfl (fun K h => by rw [e] at h; exact h))))))))))))))))
    · have e : textT (.nu n) = numS n := by unfold textT; rw [if_neg hn]
      refine as_ (al_ (R_ (F_ r_ (L_ 0 r_ (o_ r_ (bm_ r_ (hI) (E_ r_ (T_ (ar_ (az_ (aw_ (jq_ret1 rfl rfl [] rfl (fun K h => by rw [e] at h; exact h)))))))))))))
  | nm s =>
    intro hok hz
    show Con _ _ [.row [.val (.int .i64 2), .val (.int .i64 0), .val (.string s), .val (.int .i64 0), .list (([] : List T).map T.row)]] [] _
    refine con_intro Tryd.func49 rfl rfl (Nat.le_of_ble_eq_true rfl) (fun c hc => R_ (o_ r_ (ci_ r_ (fun bx => E_ r_ (T_ (am_ (R_ (F_ r_ (L_ 0 r_ (T_ (au_ (R_ (o_ r_ (bn_ r_ r_ (E_ r_ (T_ (jc_condd rfl (fun h => by cases h) (fun _ => ?_))))))))))))))))))
    refine R_ (o_ r_ (bn_ r_ r_ (E_ r_ (T_ (jc_condd rfl (fun _ => R_ (F_ r_ (L_ 0 r_ (E_ r_ (T_ (ar_ (az_ (aw_ (jq_ret1 rfl rfl [] rfl (fun K h => h)))))))))) (fun h => absurd rfl h))))))
  | ix s t ih =>
    intro hok hz
    have e : textT (.ix s t) = ((s ++ ⟨#[91]⟩) ++ textT t) ++ ⟨#[93]⟩ := by rw [textT]
    rw [e] at hz
    have h91 := one_size 91
    have h93 := one_size 93
    have hz1 := hz
    rw [ByteArray.size_append] at hz1
    have hz2 := hz1
    rw [ByteArray.size_append] at hz2
    have hz3 := hz2
    rw [ByteArray.size_append] at hz3
    have hI := ih hok.2 (by omega)
    have e1 : [t].length = 1 := rfl
    show Con _ _ [.row [.val (.int .i64 3), .val (.int .i64 0), .val (.string s), .val (.int .i64 0), .list ([t].map T.row)]] [] _
    refine con_intro Tryd.func49 rfl rfl (Nat.le_of_ble_eq_true rfl) (fun c hc => R_ (o_ r_ (ci_ r_ (fun bx => E_ r_ (T_ (am_ (R_ (F_ r_ (L_ 0 r_ (T_ (au_ (R_ (o_ r_ (bn_ r_ r_ (E_ r_ (T_ (jc_condd rfl (fun h => by cases h) (fun _ => ?_))))))))))))))))))
    refine R_ (o_ r_ (bn_ r_ r_ (E_ r_ (T_ (jc_condd rfl (fun h => by cases h) (fun _ => R_ (o_ r_ (bn_ r_ r_ (E_ r_ (T_ (jc_condd rfl (fun _ => am_ (ao_ r_ r_ k_ k_ (yF_ r_ (yL_ 0 r_ (aa_ (fun c => ow_strcat r_ r_ g_ p_) (yF_ r_ ?_)))))) (fun h => absurd rfl h))))))))))))
    refine yL_ 0 r_ (aa_ (fun c => cv_ r_ r_ g_ g_ (T.row_eq _) r_ b_ p_) (aa_ (fun c => cr_ r_ r_ r_ p_) (aa_ (fun c => bm_ r_ (hI) p_) (aa_ (fun c => ow_strcat r_ r_ g_ p_) (aa_ (fun c => ow_strcat r_ r_ g_ p_) (yE_ r_ (ae_ (al_ (ar_ (az_ (aw_ (jq_ret1 rfl rfl [] rfl (fun K h => by rw [e] at h; exact h)))))))))))))
  | bn o a b iha ihb =>
    intro hok hz
    have e : textT (.bn o a b) = (((((⟨#[40]⟩ ++ textT a) ++ ⟨#[32]⟩) ++ signT o) ++ ⟨#[32]⟩) ++ textT b) ++ ⟨#[41]⟩ := by rw [textT]
    rw [e] at hz
    have h40 := one_size 40
    have h32 := one_size 32
    have h41 := one_size 41
    have hz1 := hz
    rw [ByteArray.size_append] at hz1
    have hz2 := hz1
    rw [ByteArray.size_append] at hz2
    have hz3 := hz2
    rw [ByteArray.size_append] at hz3
    have hz4 := hz3
    rw [ByteArray.size_append] at hz4
    have hz5 := hz4
    rw [ByteArray.size_append] at hz5
    have hz6 := hz5
    rw [ByteArray.size_append] at hz6
    have hS := RSign_c o hok.1
    have hA := iha hok.2.1 (by omega)
    have hB := ihb hok.2.2 (by omega)
    have e1 : [a, b].length = 2 := rfl
    show Con _ _ [.row [.val (.int .i64 4), .val (.int .i64 0), .val (.string ⟨#[]⟩), .val (.int .i64 o), .list ([a, b].map T.row)]] [] _
    refine con_intro Tryd.func49 rfl rfl (Nat.le_of_ble_eq_true rfl) (fun c hc => R_ (o_ r_ (ci_ r_ (fun bx => E_ r_ (T_ (am_ (R_ (F_ r_ (L_ 0 r_ (T_ (au_ (R_ (o_ r_ (bn_ r_ r_ (E_ r_ (T_ (jc_condd rfl (fun h => by cases h) (fun _ => ?_))))))))))))))))))
    refine R_ (o_ r_ (bn_ r_ r_ (E_ r_ (T_ (jc_condd rfl (fun h => by cases h) (fun _ => R_ (o_ r_ (bn_ r_ r_ (E_ r_ (T_ (jc_condd rfl (fun h => by cases h) (fun _ => as_ (ay_ (al_ (am_ (ao_ r_ r_ k_ k_ (yF_ r_ ?_)))))))))))))))))
    refine yL_ 0 r_ (aa_ (fun c => cv_ r_ r_ g_ g_ (T.row_eq _) r_ b_ p_) (aa_ (fun c => cr_ r_ r_ r_ p_) (aa_ (fun c => bm_ r_ (hA) p_) (aa_ (fun c => ow_strcat r_ r_ g_ p_) (aa_ (fun c => ow_strcat r_ r_ g_ p_) (yF_ r_ (yL_ 0 r_ (aa_ (fun c => bm_ r_ (hS) p_) (aa_ (fun c => ow_strcat r_ r_ g_ p_) (aa_ (fun c => ow_strcat r_ r_ g_ p_) (yF_ r_ (yL_ 0 r_ (aa_ (fun c => cv_ r_ r_ g_ g_ (T.row_eq _) r_ b_ p_) ?_)))))))))))))
    refine aa_ (fun c => cr_ r_ r_ r_ p_) (aa_ (fun c => bm_ r_ (hB) p_) (aa_ (fun c => ow_strcat r_ r_ g_ p_) (aa_ (fun c => ow_strcat r_ r_ g_ p_) (yE_ r_ (ae_ (al_ (ar_ (jq_ret1 rfl rfl [] rfl (fun K h => by rw [e] at h; exact h)))))))))

theorem name_size {s : ByteArray} (h : nmOk s) : s.size ≤ 12 := by
  have := h.1
  unfold isName at this
  simp only [Bool.and_eq_true, decide_eq_true_eq] at this
  exact this.1.2
theorem text_size : ∀ (t : T), t.ok → (textT t).size + 50 ≤ 100 * 2 ^ t.dep
  | .nu n, h => by
    have := numS_size n h.1 h.2
    have h40 := one_size 40
    have h41 := one_size 41
    unfold textT
    simp only [T.dep]
    split
    · rw [ByteArray.size_append, ByteArray.size_append]; omega
    · omega
  | .nm s, h => by
    have := name_size h
    simp only [textT, T.dep]
    omega
  | .ix s t, h => by
    have := name_size h.1
    have := text_size t h.2
    have h91 := one_size 91
    have h93 := one_size 93
    simp only [textT, T.dep, ByteArray.size_append, Nat.pow_succ]
    omega
  | .bn o a b, h => by
    have h1 := text_size a h.2.1
    have h2 := text_size b h.2.2
    have h3 := sign_size h.1
    have h40 := one_size 40
    have h32 := one_size 32
    have h41 := one_size 41
    have e1 : 2 ^ a.dep ≤ 2 ^ max a.dep b.dep := Nat.pow_le_pow_right (by decide) (by omega)
    have e2 : 2 ^ b.dep ≤ 2 ^ max a.dep b.dep := Nat.pow_le_pow_right (by decide) (by omega)
    simp only [textT, T.dep, ByteArray.size_append, Nat.pow_succ]
    omega
theorem text_small {t : T} (h : t.ok) (hd : t.dep ≤ 8) : (textT t).size ≤ 1000000000 := by
  have h1 := text_size t h
  have h2 : 2 ^ t.dep ≤ 2 ^ 8 := Nat.pow_le_pow_right (by decide) hd
  omega
end Go.Proofs.YtlniadfidfmckaaDoor
end

section
namespace Go.Proofs.YtlniadfidfmckaaDoor
open Go.Vc
attribute [local irreducible] JL JC JQ OpWp Con ConN
attribute [local irreducible] byteAt runLen isL isD isName hasW
set_option maxHeartbeats 4000000

def dpx (x : T) : Bool := decide (8 < x.dep)
def dpS (rec : List Sm → Bool) (s : Sm) : Bool := rec s.thn || rec s.els || s.index.any dpx || s.value.any dpx
def dpF : Nat → List Sm → Bool
  | 0, l => !l.isEmpty
  | n + 1, l => l.any (dpS (dpF n))
def Fx (x : T) : Prop := x.ok ∧ x.dep ≤ 8
def Pl (n : Int) : Prop := 0 ≤ n ∧ n ≤ 2147483647
def fineS : Nat → Sm → Prop
  | 0, _ => False
  | n + 1, s =>
    (s.kind = 1 ∧ nmOk s.name ∧ ∃ x, s.value = [x] ∧ Fx x) ∨
    (s.kind = 2 ∧ nmOk s.name ∧ ∃ y x, s.index = [y] ∧ s.value = [x] ∧ Fx y ∧ Fx x) ∨
    (s.kind = 3 ∧ (∃ x, s.value = [x] ∧ Fx x) ∧ Pl s.label ∧ (∀ t ∈ s.thn, fineS n t) ∧ ∀ t ∈ s.els, fineS n t) ∨
    (s.kind = 4 ∧ (∃ x, s.value = [x] ∧ Fx x) ∧ Pl s.max ∧ Pl s.label ∧ (∀ t ∈ s.thn, fineS n t) ∧ s.els = []) ∨
    (s.kind = 5 ∧ nmOk s.name ∧ (∀ t ∈ s.thn, fineS n t) ∧ s.els = [])
theorem nameB_ok {s : ByteArray} : nameB s = true ↔ nmOk s := by
  unfold nameB nmOk
  rw [Bool.and_eq_true, Bool.not_eq_true']
theorem smallB_ok {n : Int} : smallB n = true ↔ -2147483647 ≤ n ∧ n ≤ 2147483647 := by
  unfold smallB
  rw [Bool.and_eq_true, decide_eq_true_eq, decide_eq_true_eq]; omega
theorem plainB_ok {n : Int} : plainB n = true ↔ Pl n := by
  unfold plainB Pl
  rw [Bool.and_eq_true, decide_eq_true_eq, decide_eq_true_eq]; omega
theorem shpF_ok : ∀ (F : Nat) (t : T), t.dep ≤ F → (shpF F t = true ↔ t.ok)
  | 0, t, h => by have : 1 ≤ t.dep := by rw [T.dep_args]; omega
                  omega
  | F + 1, t, h => by
    cases t with
    | nu n => simp only [shpF, T.ok]; exact smallB_ok
    | nm s => simp only [shpF, T.ok]; exact nameB_ok
    | ix s x =>
      simp only [T.dep] at h
      simp only [shpF, T.ok, Bool.and_eq_true, nameB_ok, shpF_ok F x (by omega)]
    | bn o a b =>
      simp only [T.dep] at h
      simp only [shpF, T.ok, Bool.and_eq_true, decide_eq_true_eq, shpF_ok F a (by omega), shpF_ok F b (by omega), and_assoc]
theorem oneB_ok {l : List T} (h : oneB l = true) (hd : l.any dpx = false) : ∃ x, l = [x] ∧ Fx x := by
  match l, h with
  | [x], h =>
    have hd : ¬ 8 < x.dep := by simpa [dpx] using hd
    exact ⟨x, rfl, (shpF_ok 20 x (by omega)).1 h, by omega⟩
theorem fine_of : ∀ (n F : Nat) (l : List Sm), n ≤ F → okSs F l = true → dpF n l = false → ∀ s ∈ l, fineS n s
  | 0, F, l, _, _, hd, s, hs => by
    cases l with
    | nil => cases hs
    | cons a l => cases hd
  | n + 1, 0, l, hle, _, _, s, hs => by omega
  | n + 1, F + 1, l, hle, ho, hd, s, hs => by
    have h1 : okOne (okSs F) s = true := List.all_eq_true.1 ho s hs
    have h2 : dpS (dpF n) s = false := by
      have := List.any_eq_false.1 hd s hs
      simpa using this
    simp only [dpS, Bool.or_eq_false_iff] at h2
    obtain ⟨⟨⟨d1, d2⟩, d3⟩, d4⟩ := h2
    have ht := fun h => fine_of n F s.thn (by omega) h d1
    have he := fun h => fine_of n F s.els (by omega) h d2
    unfold okOne at h1
    unfold fineS
    split at h1
    · rename_i hk
      simp only [Bool.and_eq_true] at h1
      exact .inl ⟨hk, nameB_ok.1 h1.1.1.1.1.1.1, oneB_ok h1.1.1.1.1.2 d4⟩
    split at h1
    · rename_i hk
      simp only [Bool.and_eq_true] at h1
      obtain ⟨y, hy, fy⟩ := oneB_ok h1.1.1.1.1.1.2 d3
      obtain ⟨x, hx, fx⟩ := oneB_ok h1.1.1.1.1.2 d4
      exact .inr (.inl ⟨hk, nameB_ok.1 h1.1.1.1.1.1.1, y, x, hy, hx, fy, fx⟩)
    split at h1
    · rename_i hk
      simp only [Bool.and_eq_true] at h1
      exact .inr (.inr (.inl ⟨hk, oneB_ok h1.1.1.1.1.2 d4, plainB_ok.1 h1.1.1.2, ht h1.1.2, he h1.2⟩))
    split at h1
    · rename_i hk
      simp only [Bool.and_eq_true, decide_eq_true_eq] at h1
      exact .inr (.inr (.inr (.inl ⟨hk, oneB_ok h1.1.1.1.1.2 d4, plainB_ok.1 h1.1.1.1.2, plainB_ok.1 h1.1.1.2, ht h1.1.2, List.eq_nil_of_length_eq_zero h1.2⟩)))
    split at h1
    · rename_i hk
      simp only [Bool.and_eq_true, decide_eq_true_eq] at h1
      exact .inr (.inr (.inr (.inr ⟨hk, nameB_ok.1 h1.1.1.1.1.1.1, ht h1.1.2, List.eq_nil_of_length_eq_zero h1.2⟩)))
    · cases h1

abbrev Ksp : ByteArray := ⟨#[32, 32]⟩
abbrev Kelse2 : ByteArray := ⟨#[125, 32, 101, 108, 115, 101, 32, 123, 10]⟩
abbrev Kclose : ByteArray := ⟨#[125, 10]⟩
abbrev Kopen : ByteArray := ⟨#[32, 123, 10]⟩
abbrev Kif2 : ByteArray := ⟨#[105, 102, 32]⟩
abbrev Klab : ByteArray := ⟨#[32, 108, 97, 98, 101, 108, 32]⟩
abbrev Kwh : ByteArray := ⟨#[119, 104, 105, 108, 101, 32]⟩
abbrev Kmx : ByteArray := ⟨#[32, 109, 97, 120, 32]⟩
abbrev Klk : ByteArray := ⟨#[108, 111, 99, 107, 32]⟩
abbrev Kst : ByteArray := ⟨#[32, 61, 32]⟩
abbrev Knl : ByteArray := ⟨#[10]⟩
abbrev Kx1 : ByteArray := ⟨#[91]⟩
abbrev Kx2 : ByteArray := ⟨#[93, 32, 61, 32]⟩
def tx1 : List T → ByteArray
  | x :: _ => textT x
  | [] => ⟨#[]⟩
/-- The first line of a statement, without the space ahead of it. -/
def hdT (s : Sm) : ByteArray :=
  if s.kind = 1 then ((s.name ++ Kst) ++ tx1 s.value) ++ Knl
  else if s.kind = 2 then ((((s.name ++ Kx1) ++ tx1 s.index) ++ Kx2) ++ tx1 s.value) ++ Knl
  else if s.kind = 3 then (((Kif2 ++ tx1 s.value) ++ Klab) ++ numS s.label) ++ Kopen
  else if s.kind = 4 then (((((Kwh ++ tx1 s.value) ++ Kmx) ++ numS s.max) ++ Klab) ++ numS s.label) ++ Kopen
  else (Klk ++ s.name) ++ Kopen
mutual
def stT (sp : ByteArray) : Sm → ByteArray
  | .mk k nm i v m lb t e =>
    if k = 1 ∨ k = 2 then sp ++ hdT (.mk k nm i v m lb t e)
    else (sp ++ hdT (.mk k nm i v m lb t e)) ++ stsT (sp ++ Ksp) t ++ (if e = [] then ⟨#[]⟩ else (sp ++ Kelse2) ++ stsT (sp ++ Ksp) e) ++ (sp ++ Kclose)
def stsT (sp : ByteArray) : List Sm → ByteArray
  | [] => ⟨#[]⟩
  | s :: l => stT sp s ++ stsT sp l
end
theorem ba_nil (X : ByteArray) : X ++ (⟨#[]⟩ : ByteArray) = X := by apply ByteArray.ext; simp
theorem nil_ba (X : ByteArray) : (⟨#[]⟩ : ByteArray) ++ X = X := by apply ByteArray.ext; simp
theorem stsT_app (sp : ByteArray) : ∀ l m : List Sm, stsT sp (l ++ m) = stsT sp l ++ stsT sp m
  | [], m => by rw [List.nil_append, stsT, nil_ba]
  | s :: l, m => by rw [List.cons_append, stsT, stsT, stsT_app sp l m, ByteArray.append_assoc]
theorem stsT_take (sp : ByteArray) {l : List Sm} {k : Nat} (h : k < l.length) : stsT sp (l.take (k + 1)) = stsT sp (l.take k) ++ stT sp l[k] := by
  rw [List.take_succ_eq_append_getElem h, stsT_app, stsT, stsT, ba_nil]
theorem stT_leaf (sp : ByteArray) {s : Sm} (h : s.kind = 1 ∨ s.kind = 2) : stT sp s = sp ++ hdT s := by
  cases s
  rw [stT]
  exact if_pos h
theorem stT_node (sp : ByteArray) {s : Sm} (h : ¬ (s.kind = 1 ∨ s.kind = 2)) : stT sp s = (sp ++ hdT s) ++ stsT (sp ++ Ksp) s.thn ++ (if s.els = [] then ⟨#[]⟩ else (sp ++ Kelse2) ++ stsT (sp ++ Ksp) s.els) ++ (sp ++ Kclose) := by
  cases s
  rw [stT]
  exact if_neg h

theorem Fx.size {x : T} (h : Fx x) : (textT x).size ≤ 25600 := by
  have h1 := text_size x h.1
  have h2 : 2 ^ x.dep ≤ 2 ^ 8 := Nat.pow_le_pow_right (by decide) h.2
  omega
theorem Pl.size {n : Int} (h : Pl n) : (numS n).size ≤ 21 := numS_size n (by have := h.1; omega) h.2
theorem hd_size {n : Nat} {s : Sm} (h : fineS n s) : (hdT s).size ≤ 51400 := by
  cases n with
  | zero => exact h.elim
  | succ n =>
    unfold fineS at h
    unfold hdT
    rcases h with ⟨hk, hn, x, hx, fx⟩ | ⟨hk, hn, y, x, hy, hx, fy, fx⟩ | ⟨hk, ⟨x, hx, fx⟩, hl, _⟩ | ⟨hk, ⟨x, hx, fx⟩, hm, hl, _⟩ | ⟨hk, hn, _⟩
    · have := name_size hn
      have := fx.size
      rw [if_pos hk, hx]
      simp only [tx1, ByteArray.size_append, show Kst.size = 3 from rfl, show Knl.size = 1 from rfl]
      omega
    · have := name_size hn
      have := fx.size
      have := fy.size
      rw [if_neg (by omega), if_pos hk, hx, hy]
      simp only [tx1, ByteArray.size_append, show Kx1.size = 1 from rfl, show Kx2.size = 4 from rfl, show Knl.size = 1 from rfl]
      omega
    · have := hl.size
      have := fx.size
      rw [if_neg (by omega), if_neg (by omega), if_pos hk, hx]
      simp only [tx1, ByteArray.size_append, show Kif2.size = 3 from rfl, show Klab.size = 7 from rfl, show Kopen.size = 3 from rfl]
      omega
    · have := hl.size
      have := hm.size
      have := fx.size
      rw [if_neg (by omega), if_neg (by omega), if_neg (by omega), if_pos hk, hx]
      simp only [tx1, ByteArray.size_append, show Kwh.size = 6 from rfl, show Kmx.size = 5 from rfl, show Klab.size = 7 from rfl, show Kopen.size = 3 from rfl]
      omega
    · have := name_size hn
      rw [if_neg (by omega), if_neg (by omega), if_neg (by omega), if_neg (by omega)]
      simp only [ByteArray.size_append, show Klk.size = 5 from rfl, show Kopen.size = 3 from rfl]
      omega
theorem sts_size_of {n : Nat} {sp : ByteArray} (h : ∀ s, fineS n s → (stT sp s).size ≤ 60000 * s.sz) : ∀ l : List Sm, (∀ s ∈ l, fineS n s) → (stsT sp l).size ≤ 60000 * Sm.szs l
  | [], _ => by simp [stsT, Sm.szs]; rfl
  | s :: l, hl => by
    have h1 := h s (hl s (by simp))
    have h2 := sts_size_of h l (fun t ht => hl t (by simp [ht]))
    rw [stsT, Sm.szs, ByteArray.size_append]
    omega
theorem st_size : ∀ (n : Nat) (sp : ByteArray) (s : Sm), fineS n s → sp.size + 2 * n ≤ 100 → (stT sp s).size ≤ 60000 * s.sz
  | 0, _, _, h, _ => h.elim
  | n + 1, sp, s, h, hsp => by
    have hh := hd_size h
    have ez := Sm.sz_eq s
    by_cases hk : s.kind = 1 ∨ s.kind = 2
    · rw [stT_leaf sp hk, ByteArray.size_append]; omega
    · have ih := sts_size_of (fun s hs => st_size n (sp ++ Ksp) s hs (by rw [ByteArray.size_append, show Ksp.size = 2 from rfl]; omega))
      have ht : ∀ t ∈ s.thn, fineS n t := by
        unfold fineS at h
        rcases h with h | h | h | h | h
        · exact absurd (.inl h.1) hk
        · exact absurd (.inr h.1) hk
        · exact h.2.2.2.1
        · exact h.2.2.2.2.1
        · exact h.2.2.1
      have he : ∀ t ∈ s.els, fineS n t := by
        unfold fineS at h
        rcases h with h | h | h | h | h
        · exact absurd (.inl h.1) hk
        · exact absurd (.inr h.1) hk
        · exact h.2.2.2.2
        · rw [h.2.2.2.2.2]; simp
        · rw [h.2.2.2]; simp
      have h1 := ih s.thn ht
      have h2 := ih s.els he
      rw [stT_node sp hk]
      split
      · simp only [ByteArray.size_append, show Kclose.size = 2 from rfl, show (⟨#[]⟩ : ByteArray).size = 0 from rfl]
        omega
      · simp only [ByteArray.size_append, show Kclose.size = 2 from rfl, show Kelse2.size = 9 from rfl]
        omega
theorem sts_size {n : Nat} {sp : ByteArray} {l : List Sm} (h : ∀ s ∈ l, fineS n s) (hsp : sp.size + 2 * n ≤ 100) : (stsT sp l).size ≤ 60000 * Sm.szs l := sts_size_of (fun s hs => st_size n sp s hs hsp) l h
theorem szs_take_succ {l : List Sm} {k : Nat} (h : k < l.length) : Sm.szs (l.take k) + l[k].sz ≤ Sm.szs l := by
  have h1 := Sm.szs_take l (k + 1)
  rw [List.take_succ_eq_append_getElem h, Sm.szs_app] at h1
  simp only [Sm.szs] at h1
  omega
end Go.Proofs.YtlniadfidfmckaaDoor
end

section
namespace Go.Proofs.YtlniadfidfmckaaDoor
open Go.Vc

theorem nmOk_lit {s : ByteArray} (h : (isName s && !hasW s) = true) : nmOk s := by
  simp only [Bool.and_eq_true, Bool.not_eq_true'] at h
  exact h
theorem ExG.fine {V U : List ByteArray} (hV : ∀ s ∈ V, nmOk s) (hU : ∀ s ∈ U, nmOk s) : ∀ {d : Nat} {t : T}, ExG V U d t → t.ok ∧ t.dep ≤ d + 1 := by
  intro d t h
  induction h with
  | nu d n h => exact ⟨h, by simp [T.dep]⟩
  | nm d s h => exact ⟨hV s h, by simp [T.dep]⟩
  | ix d s t h _ ih => exact ⟨⟨hU s h, ih.1⟩, by simp only [T.dep]; omega⟩
  | bn d o a b ho _ _ iha ihb => exact ⟨⟨ho, iha.1, ihb.1⟩, by simp only [T.dep]; omega⟩
theorem pc_all {St : Int → Int → List Sm → Prop} {P : Sm → Prop} (h : ∀ a b l, St a b l → 0 ≤ a → a ≤ b ∧ ∀ s ∈ l, P s) {k : Nat} {a b : Int} {l : List Sm} (hp : PcG St k a b l) (h0 : 0 ≤ a) : a ≤ b ∧ ∀ s ∈ l, P s := by
  induction hp with
  | nil => exact ⟨Int.le_refl _, by simp⟩
  | snoc k _ _ _ l l2 _ h2 ih =>
    obtain ⟨i1, i2⟩ := ih h0
    obtain ⟨j1, j2⟩ := h _ _ _ h2 (by omega)
    refine ⟨by omega, fun s hs => ?_⟩
    rcases List.mem_append.1 hs with hs | hs
    · exact i2 s hs
    · exact j2 s hs
theorem bl_all {St : Int → Int → List Sm → Prop} {P : Sm → Prop} (h : ∀ a b l, St a b l → 0 ≤ a → a ≤ b ∧ ∀ s ∈ l, P s) {m : Int} {a b : Int} {l : List Sm} (hp : BlG St m a b l) (h0 : 0 ≤ a) : a ≤ b ∧ ∀ s ∈ l, P s := by
  obtain ⟨k, _, hp⟩ := hp
  exact pc_all h hp h0
/-- An expression as makers make it. -/
def Fm (x : T) : Prop := x.ok ∧ x.dep ≤ 3
theorem Fm.fx {x : T} (h : Fm x) : Fx x := ⟨h.1, Nat.le_trans h.2 (by decide)⟩
/-- A statement as the grammar has it: of at most a depth. -/
def mdS : Nat → Sm → Prop
  | 0, _ => False
  | n + 1, s =>
    (∃ v x, nmOk v ∧ Fm x ∧ s = .mk 1 v [] [x] 0 0 [] []) ∨
    (∃ v y x, nmOk v ∧ Fm y ∧ Fm x ∧ s = .mk 2 v [y] [x] 0 0 [] []) ∨
    (∃ x lab t e, Fm x ∧ Pl lab ∧ (∀ u ∈ t, mdS n u) ∧ (∀ u ∈ e, mdS n u) ∧ s = .mk 3 E0 [] [x] 0 lab t e) ∨
    (∃ x mx lab t, Fm x ∧ Pl mx ∧ Pl lab ∧ (∀ u ∈ t, mdS n u) ∧ s = .mk 4 E0 [] [x] mx lab t []) ∨
    (∃ v t, nmOk v ∧ (∀ u ∈ t, mdS n u) ∧ s = .mk 5 v [] [] 0 0 t [])
theorem mdS.fine : ∀ {n : Nat} {s : Sm}, mdS n s → fineS n s
  | 0, _, h => h.elim
  | n + 1, s, h => by
    unfold mdS at h
    unfold fineS
    rcases h with ⟨v, x, hv, hx, rfl⟩ | ⟨v, y, x, hv, hy, hx, rfl⟩ | ⟨x, lab, t, e, hx, hl, ht, he, rfl⟩ | ⟨x, mx, lab, t, hx, hm, hl, ht, rfl⟩ | ⟨v, t, hv, ht, rfl⟩
    · exact .inl ⟨rfl, hv, x, rfl, hx.fx⟩
    · exact .inr (.inl ⟨rfl, hv, y, x, rfl, rfl, hy.fx, hx.fx⟩)
    · exact .inr (.inr (.inl ⟨rfl, ⟨x, rfl, hx.fx⟩, hl, fun u hu => (ht u hu).fine, fun u hu => (he u hu).fine⟩))
    · exact .inr (.inr (.inr (.inl ⟨rfl, ⟨x, rfl, hx.fx⟩, hm, hl, fun u hu => (ht u hu).fine, rfl⟩)))
    · exact .inr (.inr (.inr (.inr ⟨rfl, hv, fun u hu => (ht u hu).fine, rfl⟩)))
theorem md_set {n : Nat} {v : ByteArray} {x : T} (hv : nmOk v) (hx : Fm x) : mdS (n + 1) (.mk 1 v [] [x] 0 0 [] []) := .inl ⟨v, x, hv, hx, rfl⟩
theorem StG.md {V A : List ByteArray} {Sh : List Shd} (hV : ∀ s ∈ V, nmOk s) (hU : ∀ hs, ∀ s ∈ usableF A Sh hs, nmOk s) (hR : ∀ x ∈ Sh, nmOk x.2.2) : ∀ (d : Nat) (il : Int) (hs : ByteArray) (a b : Int) (l : List Sm), StG V A Sh d il hs a b l → 0 ≤ a → a ≤ b ∧ ∀ s ∈ l, mdS (d + 1) s := by
  have ex : ∀ {hs : ByteArray} {d : Nat} {t : T}, ExG V (usableF A Sh hs) d t → d ≤ 2 → Fm t := fun h hd => ⟨(h.fine hV (hU _)).1, by have := (h.fine hV (hU _)).2; omega⟩
  have leaf : ∀ {n : Nat} {hs : ByteArray} {a b : Int} {l : List Sm}, LeafG V (usableF A Sh hs) a b l → a ≤ b ∧ ∀ s ∈ l, mdS (n + 1) s := by
    rintro n hs a b l ⟨rfl, ⟨s, e, h1, h2, rfl⟩ | ⟨s, e1, e2, h1, h2, h3, rfl⟩⟩
    · refine ⟨Int.le_refl _, fun t ht => ?_⟩
      rw [List.mem_singleton.1 ht]
      exact md_set (hV s h1) (ex h2 (by omega))
    · refine ⟨Int.le_refl _, fun t ht => ?_⟩
      rw [List.mem_singleton.1 ht]
      exact .inr (.inl ⟨s, e1, e2, hU _ s h1, ex h2 (by omega), ex h3 (by omega), rfl⟩)
  intro d
  induction d with
  | zero => intro il hs a b l h _; exact leaf h
  | succ d ih =>
    intro il hs a b l h h0
    rcases h with h | ⟨hl, c, l1, l2, lab1, hc, hb1, hb2, rfl⟩ | ⟨_, hl, ⟨c, mx, l1, hc, hm, hb, rfl⟩ | ⟨v, n, op, top, mx, l1, st, hv, hn, ho, ht, hm, hst, hb, rfl⟩⟩ | ⟨_, sh, hsh, l1, hb, rfl⟩
    · exact leaf h
    · obtain ⟨g1, g2⟩ := bl_all (ih il hs) hb1 (by omega)
      have g3 : lab1 ≤ b ∧ ∀ s ∈ l2, mdS (d + 1) s := by
        rcases hb2 with ⟨rfl, rfl⟩ | hb2
        · exact ⟨Int.le_refl _, by simp⟩
        · exact bl_all (ih il hs) hb2 (by omega)
      refine ⟨by omega, fun t ht => ?_⟩
      rw [List.mem_singleton.1 ht]
      exact .inr (.inr (.inl ⟨c, a + 1, l1, l2, ex hc (by omega), ⟨by omega, by omega⟩, g2, g3.2, rfl⟩))
    · obtain ⟨g1, g2⟩ := bl_all (ih (il + 1) hs) hb (by omega)
      refine ⟨by omega, fun t ht => ?_⟩
      rw [List.mem_singleton.1 ht]
      exact .inr (.inr (.inr (.inl ⟨c, mx, a + 1, l1, ex hc (by omega), ⟨by omega, by omega⟩, ⟨by omega, by omega⟩, g2, rfl⟩)))
    · obtain ⟨g1, g2⟩ := bl_all (ih (il + 1) hs) hb (by omega)
      have hv2 := hV v hv
      have htop : top.ok ∧ top.dep ≤ 1 := by
        rcases ht with ⟨t, ht, rfl⟩ | ⟨s, hs, rfl⟩
        · exact ⟨by show _ ∧ _; omega, by simp [T.dep]⟩
        · exact ⟨hV s hs, by simp [T.dep]⟩
      have hfn : Fm (.nu n) := ⟨by show _ ∧ _; omega, by simp [T.dep]⟩
      have hfc : Fm (.bn (11 + op) (.nm v) top) := ⟨⟨by omega, hv2, htop.1⟩, by simp only [T.dep]; omega⟩
      have hfs : Fm (.bn 1 (.nm v) (.nu st)) := ⟨⟨by omega, hv2, by show _ ∧ _; omega⟩, by simp [T.dep]⟩
      refine ⟨by omega, fun t ht => ?_⟩
      rcases List.mem_cons.1 ht with rfl | ht
      · exact md_set hv2 hfn
      · rw [List.mem_singleton.1 ht]
        refine .inr (.inr (.inr (.inl ⟨_, mx, a + 1, _, hfc, ⟨by omega, by omega⟩, ⟨by omega, by omega⟩, fun s hs => ?_, rfl⟩)))
        rcases List.mem_append.1 hs with hs | hs
        · exact g2 s hs
        · rw [List.mem_singleton.1 hs]
          exact md_set hv2 hfs
    · obtain ⟨g1, g2⟩ := bl_all (ih il sh.2.2) hb h0
      refine ⟨g1, fun t ht => ?_⟩
      rw [List.mem_singleton.1 ht]
      exact .inr (.inr (.inr (.inr ⟨sh.2.2, l1, hR sh hsh, g2, rfl⟩)))
/-- The names of a made task. -/
structure NmsG (Sh : List Shd) (t : Tk) : Prop where
  vars : ∀ s ∈ t.inputs.map (·.1) ++ VS, nmOk s
  usable : ∀ hs, ∀ s ∈ usableF (t.arrays.map (·.1)) Sh hs, nmOk s
  locks : ∀ x ∈ Sh, nmOk x.2.2
theorem RS_ok {n : Nat} : ∀ s ∈ RSl n, nmOk s := by
  rcases n with _ | _ | n
  · simp [RSl]
  · intro s hs
    simp only [RSl, List.mem_singleton] at hs
    subst hs
    exact nmOk_lit (by decide +kernel)
  · intro s hs
    simp only [RSl, List.mem_cons, List.not_mem_nil, or_false] at hs
    rcases hs with rfl | rfl <;> exact nmOk_lit (by decide +kernel)
theorem nms_of {R : List ByteArray} {n : Nat} {Sh : List Shd} {nm : ByteArray} {W : Int} {t : Tk} (hR : R = RSl n) (hSh : ShG R Sh) (h : TaskG Sh nm W t) : NmsG Sh t := by
  have hshN : ∀ x ∈ Sh, nmOk x.1 ∧ nmOk x.2.2 := by
    rcases hSh with rfl | ⟨r, k, hr, _, rfl⟩
    · simp
    · intro x hx
      rw [List.mem_singleton.1 hx]
      exact ⟨nmOk_lit (s := ⟨#[98, 117, 102]⟩) (by decide +kernel), RS_ok (n := n) r (by rw [← hR]; exact List.mem_of_getElem? hr)⟩
  refine ⟨?_, ?_, fun x hx => (hshN x hx).2⟩
  · intro s hs
    rcases List.mem_append.1 hs with hs | hs
    · rw [h.inputs.2.1] at hs
      have := List.mem_of_mem_take hs
      simp only [List.mem_cons, List.not_mem_nil, or_false] at this
      rcases this with rfl | rfl <;> exact nmOk_lit (by decide +kernel)
    · simp only [List.mem_cons, List.not_mem_nil, or_false] at hs
      rcases hs with rfl | rfl | rfl <;> exact nmOk_lit (by decide +kernel)
  · intro hs s hm
    unfold usableF at hm
    rcases List.mem_append.1 hm with hm | hm
    · rcases h.arrays with e | ⟨k, _, e⟩
      · rw [e] at hm; simp at hm
      · rw [e] at hm
        simp only [List.map_cons, List.map_nil, List.mem_singleton] at hm
        subst hm
        exact nmOk_lit (by decide +kernel)
    · obtain ⟨x, hx, he⟩ := List.mem_filterMap.1 hm
      split at he
      · rw [← Option.some.inj he]
        exact (hshN x hx).1
      · cases he
theorem TaskG.md {Sh : List Shd} {nm : ByteArray} {W : Int} {t : Tk} (hN : NmsG Sh t) (h : TaskG Sh nm W t) : ∀ s ∈ t.body, mdS 4 s := by
  obtain ⟨lab, l, n, hl, hb⟩ := h.body
  obtain ⟨_, g⟩ := bl_all (StG.md hN.vars hN.usable hN.locks 3 0 E0) hl (Int.le_refl _)
  intro s hs
  rw [hb] at hs
  exact g s (List.mem_of_mem_take hs)
theorem PgG.md {T : Nat} {W : Int} {p : Pg} (h : PgG T W p) : ∀ t ∈ p.tasks, ∀ s ∈ t.body, mdS 4 s := by
  intro t ht
  obtain ⟨i, hi, rfl⟩ := List.mem_iff_getElem.1 ht
  obtain ⟨n, _, hR⟩ := h.res
  exact (h.tasks i hi).md (nms_of hR h.shared (h.tasks i hi))
end Go.Proofs.YtlniadfidfmckaaDoor
end

section
namespace Go.Proofs.YtlniadfidfmckaaDoor
open Go.Vc
attribute [local irreducible] JL JC JQ OpWp Con ConN
attribute [local irreducible] byteAt runLen isL isD isName hasW rd
set_option maxHeartbeats 4000000

theorem any_yes {α : Type} {p : α → Bool} {l : List α} {k : Nat} (h : k < l.length) (h2 : p l[k] = true) : l.any p = true := List.any_eq_true.2 ⟨l[k], List.getElem_mem h, h2⟩
theorem any_snoc {α : Type} {p : α → Bool} {l : List α} {k : Nat} (h : k < l.length) (h1 : (l.take k).any p = false) (h2 : p l[k] = false) : (l.take (k + 1)).any p = false := by
  rw [List.take_succ_eq_append_getElem h, List.any_append, h1]
  simp [h2]
def RDeepP (n : Nat) : Prop := ∀ l : List Sm, Con Tryd.prog 47 [.cell (.list (l.map Sm.row)), In .i64 (9 - (n : Int))] [] (fun K => K (Bl (dpF n l)) [])
theorem rdeep_zero : RDeepP 0 := by
  intro l
  cases l with
  | nil =>
    have eL : (([] : List Sm).map Sm.row).length = 0 := rfl
    refine con_intro Tryd.func47 rfl rfl (Nat.le_of_ble_eq_true rfl) (fun c hc => R_ (E_ r_ (T_ (am_ (R_ (E_ r_ (T_ (au_ (jc_loopS (ι := Unit) [] (fun _ => True) (fun _ => [(0, .cell (.list (([] : List Sm).map Sm.row))), (1, In .i64 (9 - ((0 : Nat) : Int))), (5, In .i64 0)]) (fun _ => []) (fun _ => 0) () trivial ?_ ?_ ?_)))))))))
    · exact sub_end
    · (repeat (first | exact True.intro | refine ⟨rfl, ?_⟩))
    intro _ _
    refine am_ (R_ (M_ r_ (M_ r_ (o_ r_ (br_ r_ (fun hlen => o_ r_ (bw_ r_ r_ (T_ (ap_ r_ r_ (av_ (ax_ (ax_ (ba_ (al_ (R_ (E_ r_ (T_ ?_)))))))))))))))))
    refine ar_ (jq_ret1 rfl rfl [] rfl (fun K h => h))
  | cons s l =>
    have eL : (((s :: l).map Sm.row).length : Int) = (l.length : Int) + 1 := by simp
    refine con_intro Tryd.func47 rfl rfl (Nat.le_of_ble_eq_true rfl) (fun c hc => R_ (E_ r_ (T_ (am_ (R_ (E_ r_ (T_ (au_ (jc_loopS (ι := Unit) [] (fun _ => True) (fun _ => [(0, .cell (.list ((s :: l).map Sm.row))), (1, In .i64 (9 - ((0 : Nat) : Int))), (5, In .i64 0)]) (fun _ => []) (fun _ => 0) () trivial ?_ ?_ ?_)))))))))
    · exact sub_end
    · (repeat (first | exact True.intro | refine ⟨rfl, ?_⟩))
    intro _ _
    refine am_ (R_ (M_ r_ (M_ r_ (o_ r_ (br_ r_ (fun hlen => o_ r_ (bw_ r_ r_ (T_ (aq_ r_ t_ (as_ (al_ (B_ (am_ (R_ (M_ r_ (o_ r_ (bz_ r_ r_ (M_ r_ ?_))))))))))))))))))
    refine ai_ r_ r_ b_ (ai_ r_ r_ b_ (ai_ r_ r_ b_ (ai_ r_ r_ b_ (ai_ r_ r_ b_ (ai_ r_ r_ b_ (ai_ r_ r_ b_ (ai_ r_ r_ b_ (o_ r_ (bp_ r_ r_ r_ (M_ r_ (ai_ r_ r_ b_ (ai_ r_ r_ b_ (ai_ r_ r_ b_ (ai_ r_ r_ b_ (ai_ r_ r_ b_ (ai_ r_ r_ b_ ?_))))))))))))))))
    refine ai_ r_ r_ b_ (ai_ r_ r_ b_ (o_ r_ (bp_ r_ r_ r_ (T_ (aq_ r_ r_ (R_ (E_ r_ (T_ (ar_ (aw_ (az_ (aw_ (aw_ (az_ (aw_ (jq_ret1 rfl rfl [] rfl (fun K h => h)))))))))))))))))
theorem rdeep_succ (n : Nat) (hn : n + 1 ≤ 8) (ih : RDeepP n) : RDeepP (n + 1) := by
  intro l
  have hF1 : (9 - ((n + 1 : Nat) : Int) + 1) = 9 - (n : Int) := by omega
  have hF2 : ¬ 8 < (9 - ((n + 1 : Nat) : Int)) := by omega
  have hF3 : 0 ≤ (9 - ((n + 1 : Nat) : Int)) ∧ (9 - ((n + 1 : Nat) : Int)) ≤ 8 := by omega
  generalize (9 - ((n + 1 : Nat) : Int)) = d at hF1 hF2 hF3 ⊢
  have hI := fun m => ih m
  rw [← hF1] at hI
  clear ih
  have eL : (l.map Sm.row).length = l.length := List.length_map _
  refine con_intro Tryd.func47 rfl rfl (Nat.le_of_ble_eq_true rfl) (fun c hc => R_ (E_ r_ (T_ (am_ (R_ (E_ r_ (T_ (au_ (jc_loopS (ι := Nat) [] (fun k => k ≤ l.length ∧ (l.take k).any (dpS (dpF n)) = false) (fun k => [(0, .cell (.list (l.map Sm.row))), (1, In .i64 d), (5, In .i64 (k : Int))]) (fun _ => []) (fun k => l.length - k) 0 ⟨Nat.zero_le _, rfl⟩ ?_ ?_ ?_)))))))))
  · exact sub_end
  · (repeat (first | exact True.intro | refine ⟨rfl, ?_⟩))
  rintro k ⟨hk, hallS⟩
  by_cases hlt : k < l.length
  · have hlt2 : (k : Int) < ((l.map Sm.row).length : Int) := by omega
    refine am_ (R_ (M_ r_ (M_ r_ (o_ r_ (br_ r_ (fun hlen => o_ r_ (bw_ r_ r_ (T_ (aq_ r_ u_ (as_ (al_ (B_ (am_ (R_ (M_ r_ (o_ r_ (bz_ r_ r_ (M_ r_ ?_))))))))))))))))))
    refine ah_ r_ w_ b_ (bd_ r_ (ah_ r_ w_ b_ (bd_ r_ (ah_ r_ w_ b_ (cc_ r_ r_ g_ (Sm.row_eq _) r_ b_ (ah_ r_ w_ b_ (cf_ r_ r_ r_ b_ r_ b_ (ah_ r_ w_ b_ (cb_ r_ r_ (ah_ r_ w_ b_ (bd_ r_ (ah_ r_ w_ b_ (bj_ r_ r_ g_ (ah_ r_ w_ b_ (bm_ r_ (hI _) (o_ r_ (bv_ r_ w_ r_ (M_ r_ (jl_or 8 12 rfl rfl rfl rfl (nb rfl) ?_)))))))))))))))))))
    apply Exists.intro
    refine ⟨fun hb1 => ?_, ?_⟩
    exact ah_ r_ h_ b_ (bd_ r_ (ah_ r_ h_ b_ (bd_ r_ (ah_ r_ h_ b_ (cc_ r_ r_ g_ (Sm.row_eq _) r_ b_ (ah_ r_ h_ b_ (cf_ r_ r_ r_ b_ r_ b_ (ah_ r_ h_ b_ (cb_ r_ r_ (ah_ r_ h_ b_ (bd_ r_ (ah_ r_ h_ b_ (bj_ r_ r_ g_ (ah_ r_ h_ b_ (bm_ r_ (hI _) (ak_ (jq_seg 8 rfl rfl rfl (List.Perm.refl _))))))))))))))))))
    refine T_ (jc_cond rfl (fun hy => ?_) (fun hn => ?_))
    · have hres : dpF (n + 1) l = true := any_yes hlt (by unfold dpS; rw [hy]; rfl)
      refine R_ (E_ r_ (T_ (ar_ (aw_ (az_ (aw_ (aw_ (az_ (aw_ (jq_ret1 rfl rfl [] rfl (fun K h => by rw [hres] at h; exact h)))))))))))
    refine as_ (al_ (am_ (jc_cut (ι := Unit) [] (fun _ => (l[k].index).any dpx = false) (fun _ => [(0, .cell (.list (l.map Sm.row))), (1, In .i64 d), (5, In .i64 (k : Int))]) (fun _ => []) ?_ ?_)))
    · refine R_ (E_ r_ (T_ (au_ (jc_loopS (ι := Nat) [] (fun q => q ≤ (l[k].index).length ∧ ((l[k].index).take q).any dpx = false) (fun q => (6, In .i64 (q : Int)) :: [(0, .cell (.list (l.map Sm.row))), (1, In .i64 d), (5, In .i64 (k : Int))]) (fun _ => []) (fun q => (l[k].index).length - q) 0 ⟨Nat.zero_le _, rfl⟩ ?_ ?_ ?_))))
      · exact sub_end
      · (repeat (first | exact True.intro | refine ⟨rfl, ?_⟩))
      rintro q ⟨hq, hall⟩
      have eF : ((l[k].index).map T.row).length = (l[k].index).length := List.length_map _
      by_cases hltq : q < (l[k].index).length
      · have hltq2 : (q : Int) < (((l[k].index).map T.row).length : Int) := by omega
        have hrd := rd_eq 20 (l[k].index)[q] (Nat.le_refl _)
        by_cases hd : 8 < (l[k].index)[q].dep
        · have hd2 : (8 : Int) < (rd 20 (l[k].index)[q] : Int) := by omega
          have hyes : (l[k].index).any dpx = true := any_yes hltq (by unfold dpx; exact decide_eq_true hd)
          have hres : dpF (n + 1) l = true := any_yes hlt (by unfold dpS; rw [hyes]; simp)
          refine am_ (R_ (M_ r_ (M_ r_ (M_ r_ (o_ r_ (cc_ r_ r_ g_ (Sm.row_eq _) r_ b_ (o_ r_ (cf_ r_ r_ r_ b_ r_ b_ (o_ r_ (cb_ r_ r_ (o_ r_ (br_ r_ (fun hlen => o_ r_ (bw_ r_ r_ (T_ (aq_ r_ u_ (as_ (al_ (B_ (R_ ?_))))))))))))))))))))
          refine M_ r_ (M_ r_ (o_ r_ (cc_ r_ r_ g_ (Sm.row_eq _) r_ b_ (o_ r_ (cf_ r_ r_ r_ b_ r_ b_ (o_ r_ (cb_ r_ r_ (M_ r_ (o_ r_ (cc_ r_ r_ g_ (T.row_eq _) r_ b_ (o_ r_ (cr_ r_ r_ r_ (o_ r_ (bm_ r_ (RDepth_c _) (o_ r_ (bz_ r_ r_ (T_ (aq_ r_ u_ (R_ (E_ r_ (T_ (ar_ ?_))))))))))))))))))))))
          refine az_ (aw_ (aw_ (az_ (aw_ (az_ (aw_ (aw_ (az_ (aw_ (jq_ret1 rfl rfl [] rfl (fun K h => by rw [hres] at h; exact h)))))))))))
        · have hd2 : ¬ (8 : Int) < (rd 20 (l[k].index)[q] : Int) := by omega
          refine am_ (R_ (M_ r_ (M_ r_ (M_ r_ (o_ r_ (cc_ r_ r_ g_ (Sm.row_eq _) r_ b_ (o_ r_ (cf_ r_ r_ r_ b_ r_ b_ (o_ r_ (cb_ r_ r_ (o_ r_ (br_ r_ (fun hlen => o_ r_ (bw_ r_ r_ (T_ (aq_ r_ u_ (as_ (al_ (B_ (R_ ?_))))))))))))))))))))
          refine M_ r_ (M_ r_ (o_ r_ (cc_ r_ r_ g_ (Sm.row_eq _) r_ b_ (o_ r_ (cf_ r_ r_ r_ b_ r_ b_ (o_ r_ (cb_ r_ r_ (M_ r_ (o_ r_ (cc_ r_ r_ g_ (T.row_eq _) r_ b_ (o_ r_ (cr_ r_ r_ r_ (o_ r_ (bm_ r_ (RDepth_c _) (o_ r_ (bz_ r_ r_ (T_ (ap_ r_ w_ (as_ (ay_ (al_ (an_ ?_))))))))))))))))))))))
          refine M_ r_ (o_ r_ (bj_ r_ r_ g_ (E_ r_ (ak_ (jq_againS (q + 1) ⟨hltq, any_snoc hltq hall (by unfold dpx; exact decide_eq_false hd)⟩ g_ ?_ ?_)))))
          · exact sub_end
          · (repeat (first | exact True.intro | refine ⟨rfl, ?_⟩))
      · have hltq2 : ¬ (q : Int) < (((l[k].index).map T.row).length : Int) := by omega
        refine am_ (R_ (M_ r_ (M_ r_ (M_ r_ (o_ r_ (cc_ r_ r_ g_ (Sm.row_eq _) r_ b_ (o_ r_ (cf_ r_ r_ r_ b_ r_ b_ (o_ r_ (cb_ r_ r_ (o_ r_ (br_ r_ (fun hlen => o_ r_ (bw_ r_ r_ (T_ (ap_ r_ w_ (av_ (ax_ (ax_ (ba_ ?_))))))))))))))))))))
        refine jq_cutS () (by rw [List.take_of_length_le g_] at hall; exact hall) ?_ ?_
        · exact sub_end
        · (repeat (first | exact True.intro | refine ⟨rfl, ?_⟩))
    intro _ hi1
    refine R_ (E_ r_ (T_ (au_ (jc_loopS (ι := Nat) [] (fun q => q ≤ (l[k].value).length ∧ ((l[k].value).take q).any dpx = false) (fun q => (7, In .i64 (q : Int)) :: [(0, .cell (.list (l.map Sm.row))), (1, In .i64 d), (5, In .i64 (k : Int))]) (fun _ => []) (fun q => (l[k].value).length - q) 0 ⟨Nat.zero_le _, rfl⟩ ?_ ?_ ?_))))
    · exact sub_end
    · (repeat (first | exact True.intro | refine ⟨rfl, ?_⟩))
    rintro q ⟨hq, hall⟩
    have eF : ((l[k].value).map T.row).length = (l[k].value).length := List.length_map _
    by_cases hltq : q < (l[k].value).length
    · have hltq2 : (q : Int) < (((l[k].value).map T.row).length : Int) := by omega
      have hrd := rd_eq 20 (l[k].value)[q] (Nat.le_refl _)
      by_cases hd : 8 < (l[k].value)[q].dep
      · have hd2 : (8 : Int) < (rd 20 (l[k].value)[q] : Int) := by omega
        have hyes : (l[k].value).any dpx = true := any_yes hltq (by unfold dpx; exact decide_eq_true hd)
        have hres : dpF (n + 1) l = true := any_yes hlt (by unfold dpS; rw [hyes]; simp)
        refine am_ (R_ (M_ r_ (M_ r_ (M_ r_ (o_ r_ (cc_ r_ r_ g_ (Sm.row_eq _) r_ b_ (o_ r_ (cf_ r_ r_ r_ b_ r_ b_ (o_ r_ (cb_ r_ r_ (o_ r_ (br_ r_ (fun hlen => o_ r_ (bw_ r_ r_ (T_ (aq_ r_ u_ (as_ (al_ (B_ (R_ ?_))))))))))))))))))))
        refine M_ r_ (M_ r_ (o_ r_ (cc_ r_ r_ g_ (Sm.row_eq _) r_ b_ (o_ r_ (cf_ r_ r_ r_ b_ r_ b_ (o_ r_ (cb_ r_ r_ (M_ r_ (o_ r_ (cc_ r_ r_ g_ (T.row_eq _) r_ b_ (o_ r_ (cr_ r_ r_ r_ (o_ r_ (bm_ r_ (RDepth_c _) (o_ r_ (bz_ r_ r_ (T_ (aq_ r_ u_ (R_ (E_ r_ (T_ (ar_ ?_))))))))))))))))))))))
        refine az_ (aw_ (aw_ (az_ (az_ (aw_ (aw_ (az_ (aw_ (jq_ret1 rfl rfl [] rfl (fun K h => by rw [hres] at h; exact h))))))))))
      · have hd2 : ¬ (8 : Int) < (rd 20 (l[k].value)[q] : Int) := by omega
        refine am_ (R_ (M_ r_ (M_ r_ (M_ r_ (o_ r_ (cc_ r_ r_ g_ (Sm.row_eq _) r_ b_ (o_ r_ (cf_ r_ r_ r_ b_ r_ b_ (o_ r_ (cb_ r_ r_ (o_ r_ (br_ r_ (fun hlen => o_ r_ (bw_ r_ r_ (T_ (aq_ r_ u_ (as_ (al_ (B_ (R_ ?_))))))))))))))))))))
        refine M_ r_ (M_ r_ (o_ r_ (cc_ r_ r_ g_ (Sm.row_eq _) r_ b_ (o_ r_ (cf_ r_ r_ r_ b_ r_ b_ (o_ r_ (cb_ r_ r_ (M_ r_ (o_ r_ (cc_ r_ r_ g_ (T.row_eq _) r_ b_ (o_ r_ (cr_ r_ r_ r_ (o_ r_ (bm_ r_ (RDepth_c _) (o_ r_ (bz_ r_ r_ (T_ (ap_ r_ w_ (as_ (ay_ (al_ (an_ ?_))))))))))))))))))))))
        refine M_ r_ (o_ r_ (bj_ r_ r_ g_ (E_ r_ (ak_ (jq_againS (q + 1) ⟨hltq, any_snoc hltq hall (by unfold dpx; exact decide_eq_false hd)⟩ g_ ?_ ?_)))))
        · exact sub_end
        · (repeat (first | exact True.intro | refine ⟨rfl, ?_⟩))
    · have hltq2 : ¬ (q : Int) < (((l[k].value).map T.row).length : Int) := by omega
      refine am_ (R_ (M_ r_ (M_ r_ (M_ r_ (o_ r_ (cc_ r_ r_ g_ (Sm.row_eq _) r_ b_ (o_ r_ (cf_ r_ r_ r_ b_ r_ b_ (o_ r_ (cb_ r_ r_ (o_ r_ (br_ r_ (fun hlen => o_ r_ (bw_ r_ r_ (T_ (ap_ r_ w_ (av_ (ax_ (ax_ (ba_ ?_))))))))))))))))))))
      refine ay_ (al_ (an_ (M_ r_ (o_ r_ (bj_ r_ r_ g_ (E_ r_ (ak_ ?_)))))))
      rw [List.take_of_length_le (by omega)] at hall
      have hS : dpS (dpF n) l[k] = false := by unfold dpS; rw [hn, hi1, hall]; rfl
      refine jq_againS (k + 1) ⟨hlt, any_snoc hlt hallS hS⟩ g_ ?_ ?_
      · exact sub_end
      · (repeat (first | exact True.intro | refine ⟨rfl, ?_⟩))
  · have hlt2 : ¬ (k : Int) < ((l.map Sm.row).length : Int) := by omega
    have hres : dpF (n + 1) l = false := by rw [List.take_of_length_le (by omega)] at hallS; exact hallS
    refine am_ (R_ (M_ r_ (M_ r_ (o_ r_ (br_ r_ (fun hlen => o_ r_ (bw_ r_ r_ (T_ (ap_ r_ w_ (av_ (ax_ (ax_ (ba_ (al_ (R_ (E_ r_ (T_ ?_)))))))))))))))))
    refine ar_ (jq_ret1 rfl rfl [] rfl (fun K h => by rw [hres] at h; exact h))
theorem rdeep_c : ∀ n : Nat, n ≤ 8 → RDeepP n
  | 0, _ => rdeep_zero
  | n + 1, h => rdeep_succ n h (rdeep_c n (by omega))
theorem rDeep_c (l : List Sm) : Con Tryd.prog 27 [.cell (.list (l.map Sm.row))] [] (fun K => K (Bl (dpF 8 l)) []) := by
  have h := rdeep_c 8 (Nat.le_refl _) l
  refine con_intro Tryd.func27 rfl rfl (Nat.le_of_ble_eq_true rfl) (fun c hc => R_ (E_ r_ (T_ (R_ (M_ r_ (o_ r_ (bm_ r_ (h) (E_ r_ (T_ (ar_ (jq_ret1 rfl rfl [] rfl (fun K h => h))))))))))))
end Go.Proofs.YtlniadfidfmckaaDoor
end

section
namespace Go.Vc
open Go.RowKit

theorem append_string_new {P : Program} (w : World) (t u ty e : TypeId) (i : TypeInfo) (ht : P.underlying t = some (.slice e)) (hu : P.underlying u = some .string) (hi : P.info? e = some i) (hz : i.zero = some (.int .u8 0))
    (hsize : i.size = 1) (hby : i.bytes = 1) (v : Value) (n : Nat) (xs : List Value) (hown : w.ownsRow 0 e 1 v n xs) (s : ByteArray) (hbytes : n + s.size ≤ 140737488355328) {v' : Value} {w' : World}
    (hrun : (Builtin.append_ #[t, u] ty #[v, .string s]).run P w = .ok v' w') : ∀ b, v'.ownBlock = some b → v.ownBlock = some b ∨ w.heap.size ≤ b := by
  have hxl : xs.length = n := by simpa using hown.1
  intro b hb
  rcases hown.2 with ⟨rfl, rfl⟩ | ⟨g, cap, cur, rfl, hbg, hg, hnc, hcm, hcs, htake⟩
  · by_cases hm : s.size = 0
    · have hf := Lib.run_firstCells_string (P := P) w 1 s
      rw [hm] at hf
      have hn : Lib.strCells s = [] := List.eq_nil_of_length_eq_zero (by rw [Lib.strCells_length]; exact hm)
      simp [Builtin.append_, run_underlying ht, run_underlying hu, sizeOf, typeInfo, hi, hsize, Builtin.lenOf, hm, hf, hn] at hrun
      rw [← hrun.1] at hb
      simp [Value.ownBlock] at hb
    · have hr := run_append_nil_string (P := P) w t u ty e i (.int .u8 0) ht hu hi hz s (by omega) (by omega) (by rw [hby]; omega)
      rw [hr] at hrun
      simp only [Result.ok.injEq] at hrun
      rw [← hrun.1] at hb
      simp only [Value.ownBlock, Option.some.injEq] at hb
      exact .inr (by omega)
  · by_cases hroom : n + s.size ≤ cap
    · have hcs' : cur.size = cap := by simpa using hcs
      have hr := Lib.run_append_room_string (P := P) w t u ty e i ht hu hi hsize g n cap cur hg s hroom (by omega)
      rw [hr] at hrun
      simp only [Result.ok.injEq] at hrun
      rw [← hrun.1] at hb
      exact .inl hb
    · have holds : ∀ j u, xs[j]? = some u → w.cell? ((⟨g, 0, none⟩ : Addr).add j) = some u := hown.cells (g := g) rfl
      have hr := Lib.run_append_grow_string (P := P) w t u ty e i (.int .u8 0) ht hu hi hz ⟨g, 0, none⟩ n cap xs (by rw [hsize]; simpa using hxl) holds s (by omega) (by omega) (by rw [hby]; exact growslice_fits (by omega) (by omega))
      rw [hr] at hrun
      simp only [Result.ok.injEq] at hrun
      rw [← hrun.1] at hb
      simp only [Value.ownBlock, Option.some.injEq] at hb
      exact .inr (by omega)
theorem rdRows_bytes {w : World} {A : Nat → Prop} (s : ByteArray) : RdRows w A 1 ((bytesI s).map Brow) (Lib.strCells s) := by
  have : ∀ l : List UInt8, RdRows w A 1 ((l.map fun b => (b.toNat : Int)).map Brow) (l.map fun b => Value.int .u8 b.toNat) := by
    intro l
    induction l with
    | nil => rfl
    | cons b l ih => exact ⟨[.int .u8 b.toNat], _, rfl, rfl, ⟨_, _, rfl, ⟨rfl, rfl⟩, rfl⟩, ih⟩
  exact this s.data.toList
theorem ba_lit (l : List UInt8) : (⟨l.toArray⟩ : ByteArray).size = l.length := rfl
theorem bytesI_app (s t : ByteArray) : bytesI (s ++ t) = bytesI s ++ bytesI t := by simp [bytesI]
theorem bytesOf_bytesI (s : ByteArray) : bytesOf (bytesI s) = s := by
  have h1 : ∀ (l : List UInt8) (r : ByteArray), (l.map fun b => (b.toNat : Int)).foldl (fun r n => r.push (UInt8.ofNat n.toNat)) r = r ++ ⟨l.toArray⟩ := by
    intro l
    induction l with
    | nil => intro r; apply ByteArray.ext; simp
    | cons b l ih =>
      intro r
      rw [List.map_cons, List.foldl_cons, ih]
      apply ByteArray.ext
      simp [ByteArray.push]
  have h2 := h1 s.data.toList ByteArray.empty
  unfold bytesOf bytesI
  rw [h2]
  apply ByteArray.ext
  simp
section
variable {P : Program} [Gl P] {nt : Nat} {c : Cx P nt} {env : Env} {H : List Ch} {K : S → List Ch → Prop}
variable {d : Option Tmp} {ty t u : TypeId} {pos : String} {af : Array Edge} {g : Option (Nat × Bool)} {x y : Operand}
theorem ow_appendS {v : Value} {X s : ByteArray} {e : TypeId} {Hr : List Ch} [SL P t] [TI P u] (j : Nat) (hu : TI.u P u = .string) (hx : env.ev x = some (.cell (.val v))) (hy : env.ev y = some (Str s)) (hp : pick [j] H = some ([.own v e 1 ((bytesI X).map Brow)], Hr)) (he : e = SL.e P t)
    (hz : (TI.i P (SL.e P t)).zero = some (.int .u8 0)) (hsz : (TI.i P (SL.e P t)).size = 1) (hby : (TI.i P (SL.e P t)).bytes = 1) (hlim : X.size + s.size ≤ 140737488355328)
    (hK : ∀ v', (c.Fresh v → c.Fresh v') → K (.cell (.val v')) (.own v' e 1 ((bytesI (X ++ s)).map Brow) :: Hr)) :
    OpWp c ⟨d, .call { callee := .builtin .append, args := #[x, y], argTypes := #[t, u] }, ty, pos, af, g⟩ env H K := by
  subst he
  intro a w h next Q hn
  have hperm := pick_perm hp
  have h' : StW c (.own v (SL.e P t) 1 ((bytesI X).map Brow) :: Hr) w := h.heap.perm hperm
  have hav : c.av (.own v (SL.e P t) 1 ((bytesI X).map Brow) :: Hr) = c.av H := av_perm c hperm
  obtain ⟨vs, ho, hr, hk⟩ := h'.ok (.own v (SL.e P t) 1 ((bytesI X).map Brow)) (by simp)
  have h1x := ev_val h hx
  have h1y := ev_val h hy
  have eX : ((bytesI X).map Brow).length = X.size := by rw [List.length_map, bytesI_len]
  rw [eX] at ho
  have hu' : P.underlying u = some .string := by rw [TI.hu (P := P) (t := u), hu]
  obtain ⟨v', w', hrun, ho', hg, _⟩ := Lib.run_append_own_string (P := P) w 0 t u ty (SL.e P t) (TI.i P (SL.e P t)) SL.hs hu' TI.hi hz hsz hby v X.size vs ho s (by unfold maxLen; omega) hlim (Nat.zero_le _)
  have hnew := append_string_new (P := P) w t u ty (SL.e P t) (TI.i P (SL.e P t)) SL.hs hu' TI.hi hz hsz hby v X.size vs ho s hlim hrun
  have hgr : Grow (hb [.own v (SL.e P t) 1 ((bytesI X).map Brow)]) w w' := by
    have := Grow.of_grownBy hg
    simpa [hb, Ch.bs] using this
  have hAold : ∀ b, c.av (.own v' (SL.e P t) 1 ((bytesI (X ++ s)).map Brow) :: Hr) b → c.av H b ∨ w.heap.size ≤ b := by
    intro b hbm
    rcases hbm with hbm | hbm
    · exact .inl (.inl hbm)
    · simp only [hb_cons, Ch.bs, List.mem_append, Option.mem_toList] at hbm
      rw [← hav]
      rcases hbm with hbm | hbm
      · rcases hnew b hbm with h1 | h1
        · exact .inl (.inr (by simp [hb_cons, Ch.bs, h1]))
        · exact .inr h1
      · exact .inl (.inr (by simp only [hb_cons, List.mem_append]; exact .inr hbm))
  have hupA : Up (c.av H) w w' := by
    refine hgr.up (fun b hbm => ?_)
    rw [← hav]
    exact .inr (by simp only [hb, List.flatMap_cons, List.flatMap_nil, List.append_nil] at hbm; simp only [hb_cons, List.mem_append]; exact .inl hbm)
  obtain ⟨s1, s2⟩ := StW.step (H1 := [.own v (SL.e P t) 1 ((bytesI X).map Brow)]) (H1' := [.own v' (SL.e P t) 1 ((bytesI (X ++ s)).map Brow)]) h' hgr
    (by
      intro b hbm
      simp only [hb, Ch.bs, List.flatMap_cons, List.flatMap_nil, List.append_nil, Option.mem_toList] at hbm ⊢
      exact hnew b hbm)
    (by cases hv : v'.ownBlock <;> simp [hb, Ch.bs, hv])
    (by
      intro ch hch
      simp only [List.mem_singleton] at hch
      subst hch
      refine ⟨vs ++ Lib.strCells s, ?_, ?_, hk⟩
      · rw [List.length_map, bytesI_len, ByteArray.size_append]; exact ho'
      · rw [bytesI_app, List.map_append]
        exact rdRows_append (rdRows_up hupA hAold 1 _ vs (hav ▸ hr)) (rdRows_bytes s))
  unfold Oper.wp
  have hex : (execOp a.eval ⟨d, .call { callee := .builtin .append, args := #[x, y], argTypes := #[t, u] }, ty, pos, af, g⟩).run P w = .ok (.value v') w' := by
    simp only [execOp, resolve, invoke, builtin, Sem.run_bind, Sem.run_pure, Result.andThen_ok, List.map_toArray, List.map_cons, List.map_nil, h1x, h1y, hrun]
  rw [hex]
  obtain ⟨al, ac, hv'⟩ := own_len ho'
  have h1' : v'.oneCell' = true := by rw [hv']; rfl
  exact hn _ _ _ _ (hK v' (fun hf b hb => (hnew b hb).elim (hf b) (fun h => Nat.le_trans h'.size h))) s1 ⟨rfl, h1'⟩ (fun s v hs => s2 s v (by rw [List.singleton_append, hav]; exact hs))
end
end Go.Vc
end

section
namespace Go.Proofs.YtlniadfidfmckaaDoor
open Go.Vc
attribute [local irreducible] JL JC JQ OpWp Con ConN
attribute [local irreducible] byteAt runLen isL isD isName hasW rd fineS numS textT hdT stsT stT
set_option maxHeartbeats 4000000

abbrev Bw (v : Value) (X : ByteArray) : Ch := .own v 5 1 ((bytesI X).map Brow)
def RBody (n : Nat) : Prop := ∀ (l : List Sm) (sp X : ByteArray) (v : Value), (∀ s ∈ l, fineS n s) → sp.size + 2 * n ≤ 100 → X.size + 60000 * Sm.szs l ≤ 100000000000000 →
  Con Tryd.prog 29 [.cell (.val v), .cell (.list (l.map Sm.row)), Str sp] [Bw v X] (fun K => ∀ v' : Value, True → K (.cell (.val v')) [Bw v' (X ++ stsT sp l)])
theorem hdT1 {s : Sm} {x : T} (hk : s.kind = 1) (hv : s.value = [x]) : hdT s = ((s.name ++ Kst) ++ textT x) ++ Knl := by unfold hdT; rw [if_pos hk, hv]; rfl
theorem hdT2 {s : Sm} {x y : T} (hk : s.kind = 2) (hi : s.index = [y]) (hv : s.value = [x]) : hdT s = ((((s.name ++ Kx1) ++ textT y) ++ Kx2) ++ textT x) ++ Knl := by unfold hdT; rw [if_neg (by omega), if_pos hk, hv, hi]; rfl
theorem hdT3 {s : Sm} {x : T} (hk : s.kind = 3) (hv : s.value = [x]) : hdT s = (((Kif2 ++ textT x) ++ Klab) ++ numS s.label) ++ Kopen := by unfold hdT; rw [if_neg (by omega), if_neg (by omega), if_pos hk, hv]; rfl
theorem hdT4 {s : Sm} {x : T} (hk : s.kind = 4) (hv : s.value = [x]) : hdT s = (((((Kwh ++ textT x) ++ Kmx) ++ numS s.max) ++ Klab) ++ numS s.label) ++ Kopen := by unfold hdT; rw [if_neg (by omega), if_neg (by omega), if_neg (by omega), if_pos hk, hv]; rfl
theorem hdT5 {s : Sm} (hk : s.kind = 5) : hdT s = (Klk ++ s.name) ++ Kopen := by unfold hdT; rw [if_neg (by omega), if_neg (by omega), if_neg (by omega), if_neg (by omega)]
theorem row1 {s : Sm} {x : T} (h : s.value = [x]) : s.row' = [.val (.int .i64 s.kind), .val (.string s.name), .list (s.index.map T.row), .list ([x].map T.row), .val (.int .i64 s.max), .val (.int .i64 s.label), .list (s.thn.map Sm.row), .list (s.els.map Sm.row)] := by
  rw [← h]
theorem row2 {s : Sm} {x y : T} (hi : s.index = [y]) (h : s.value = [x]) : s.row' = [.val (.int .i64 s.kind), .val (.string s.name), .list ([y].map T.row), .list ([x].map T.row), .val (.int .i64 s.max), .val (.int .i64 s.label), .list (s.thn.map Sm.row), .list (s.els.map Sm.row)] := by
  rw [← h, ← hi]
theorem rtextF_c {t : T} (h : Fx t) : Con Tryd.prog 49 [.row t.row'] [] (fun K => K (Str (textT t)) []) := rtext_c t h.1 (text_small h.1 h.2)
theorem rnumF_c {n : Int} (h : Pl n) : Con Tryd.prog 28 [In .i64 n] [] (fun K => K (Str (numS n)) []) := refNumber_c n ⟨by have := h.1; omega, h.2⟩
theorem rbody_step (n : Nat) (hrec : ∀ n', n = n' + 1 → RBody n') : RBody n := by
  intro l sp X v0 hfine hsp hX
  have eL : (l.map Sm.row).length = l.length := List.length_map _
  refine con_intro Tryd.func29 rfl rfl (Nat.le_of_ble_eq_true rfl) (fun c hc => R_ (E_ r_ (T_ (am_ (R_ (E_ r_ (T_ (au_ (jc_loopS (ι := Nat × Value) [] (fun i => i.1 ≤ l.length) (fun i => [(0, .cell (.val i.2)), (1, .cell (.list (l.map Sm.row))), (2, Str sp), (7, In .i64 (i.1 : Int))]) (fun i => [Bw i.2 (X ++ stsT sp (l.take i.1))]) (fun i => l.length - i.1) (0, v0) (Nat.zero_le _) ?_ ?_ ?_)))))))))
  · rw [show X ++ stsT sp (l.take 0) = X by rw [List.take_zero, stsT, ba_nil]]
    exact bc_ 0 r_ sub_end
  · (repeat (first | exact True.intro | refine ⟨rfl, ?_⟩))
  rintro ⟨k, v⟩ hk
  dsimp only at hk ⊢
  by_cases hlt : k < l.length
  · have hlt2 : (k : Int) < ((l.map Sm.row).length : Int) := by omega
    have hfk := hfine l[k] (List.getElem_mem hlt)
    have hszk := szs_take_succ hlt
    have hs0 := sts_size (l := l.take k) (fun s hs => hfine s (List.mem_of_mem_take hs)) hsp
    have hsk := st_size n sp l[k] hfk hsp
    have hYs : (X ++ stsT sp (l.take k)).size + 60000 * l[k].sz ≤ 100000000000000 := by rw [ByteArray.size_append]; omega
    have hnext : X ++ stsT sp (l.take (k + 1)) = (X ++ stsT sp (l.take k)) ++ stT sp l[k] := by rw [stsT_take sp hlt, ByteArray.append_assoc]
    generalize X ++ stsT sp (l.take k) = Y at hYs hnext ⊢
    have hz1 : 1 ≤ l[k].sz := by rw [Sm.sz_eq]; omega
    refine am_ (R_ (M_ r_ (M_ r_ (o_ r_ (br_ r_ (fun hlen => o_ r_ (bw_ r_ r_ (T_ (aq_ r_ u_ (as_ (al_ (B_ (R_ (M_ r_ (M_ r_ (o_ r_ (cc_ r_ r_ g_ (Sm.row_eq _) r_ b_ (o_ r_ (cr_ r_ r_ r_ ?_)))))))))))))))))))
    refine o_ r_ (bl_ r_ r_ (fun bl => S_ 0 r_ (T_ (R_ (M_ r_ (M_ r_ (o_ r_ (ow_appendS 1 rfl rfl rfl rfl rfl rfl rfl rfl g_ (fun v1 _ => E_ r_ (T_ (am_ ?_)))))))))))
    obtain ⟨s, hs⟩ : ∃ s, s = l[k] := ⟨_, rfl⟩
    rw [← hs] at hfk hsk hYs hnext hz1 ⊢
    have hhd := hd_size hfk
    have hY2 : (Y ++ sp).size = Y.size + sp.size := ByteArray.size_append ..
    obtain ⟨n', rfl⟩ : ∃ n', n = n' + 1 := by
      cases n with
      | zero => exact absurd hfk (by unfold fineS; exact id)
      | succ n => exact ⟨n, rfl⟩
    have hrec := hrec n' rfl
    unfold fineS at hfk
    refine jc_cut (ι := Value) [] (fun _ => 3 ≤ s.kind) (fun v => [(0, .cell (.val v)), (1, .cell (.list (l.map Sm.row))), (2, Str sp), (7, In .i64 (k : Int)), (8, .cell (.val (.pointer (some ⟨bl, 0, none⟩))))]) (fun v => [Bw v ((Y ++ sp) ++ hdT s), .blk bl 111 s.row']) ?_ ?_
    · rcases hfk with ⟨hk1, hn, x, hv, fx⟩ | ⟨hk1, hn, y, x, hi, hv, fy, fx⟩ | ⟨hk1, ⟨x, hv, fx⟩, hl, _⟩ | ⟨hk1, ⟨x, hv, fx⟩, hm, hl, _⟩ | ⟨hk1, hn, _⟩
      · rw [row1 hv]
        have ehd := hdT1 hk1 hv
        have e1 : [x].length = 1 := rfl
        have hxs := fx.size
        have hns := name_size hn
        have ht := rtextF_c fx
        refine R_ (F_ r_ (L_ 1 r_ (T_ (au_ (R_ (o_ r_ (bn_ r_ r_ (E_ r_ (T_ (aq_ r_ u_ (am_ (jc_anyB 11 none rfl k_ k_ (yM_ r_ (yF_ r_ (yL_ 1 r_ (aa_ (fun c => ow_strcat rfl rfl (by simp only [ByteArray.size_append, ba_lit, List.length_cons, List.length_nil] ; omega) p_) ?_))))))))))))))))
        refine yF_ r_ (yL_ 1 r_ (aa_ (fun c => cv_ r_ r_ g_ g_ (T.row_eq _) r_ b_ p_) (aa_ (fun c => cr_ r_ r_ r_ p_) (aa_ (fun c => bm_ r_ (ht) p_) (aa_ (fun c => ow_strcat rfl rfl (by simp only [ByteArray.size_append, ba_lit, List.length_cons, List.length_nil] ; omega) p_) (aa_ (fun c => ow_strcat rfl rfl (by simp only [ByteArray.size_append, ba_lit, List.length_cons, List.length_nil] ; omega) p_) (ae_ (afin_none ?_))))))))
        refine o_ r_ (ow_appendS 0 rfl rfl rfl rfl rfl rfl rfl rfl (by rw [← ehd] ; omega) (fun v1 _ => E_ r_ (T_ (av_ (bb_ r_ (ax_ (ba_ (al_ (an_ (M_ r_ (o_ r_ (bj_ r_ r_ g_ (E_ r_ (ak_ ?_))))))))))))))
        rw [← ehd]
        refine jq_againS (i := (k, v)) (k + 1, v1) hlt (by dsimp only; omega) ?_ ?_
        · dsimp only
          rw [hnext, stT_leaf sp (.inl hk1), ← ByteArray.append_assoc]
          exact bc_ 0 r_ sub_end
        · (repeat (first | exact True.intro | refine ⟨rfl, ?_⟩))
      · rw [row2 hi hv]
        have ehd := hdT2 hk1 hi hv
        have e1 : [x].length = 1 := rfl
        have e2 : [y].length = 1 := rfl
        have hxs := fx.size
        have hys := fy.size
        have hns := name_size hn
        have ht := rtextF_c fx
        have ht2 := rtextF_c fy
        refine R_ (F_ r_ (L_ 1 r_ (T_ (au_ (R_ (o_ r_ (bn_ r_ r_ (E_ r_ (T_ (ap_ r_ v_ (R_ (o_ r_ (bn_ r_ r_ (E_ r_ (T_ (aq_ r_ u_ (am_ ?_)))))))))))))))))
        refine jc_anyB 18 none rfl k_ k_ (yM_ r_ (yF_ r_ (yL_ 1 r_ (aa_ (fun c => ow_strcat rfl rfl (by simp only [ByteArray.size_append, ba_lit, List.length_cons, List.length_nil] ; omega) p_) (yF_ r_ (yL_ 1 r_ (aa_ (fun c => cv_ r_ r_ g_ g_ (T.row_eq _) r_ b_ p_) (aa_ (fun c => cr_ r_ r_ r_ p_) (aa_ (fun c => bm_ r_ (ht2) p_) ?_)))))))))
        refine aa_ (fun c => ow_strcat rfl rfl (by simp only [ByteArray.size_append, ba_lit, List.length_cons, List.length_nil] ; omega) p_) (aa_ (fun c => ow_strcat rfl rfl (by simp only [ByteArray.size_append, ba_lit, List.length_cons, List.length_nil] ; omega) p_) (yF_ r_ (yL_ 1 r_ (aa_ (fun c => cv_ r_ r_ g_ g_ (T.row_eq _) r_ b_ p_) (aa_ (fun c => cr_ r_ r_ r_ p_) (aa_ (fun c => bm_ r_ (ht) p_) ?_))))))
        refine aa_ (fun c => ow_strcat rfl rfl (by simp only [ByteArray.size_append, ba_lit, List.length_cons, List.length_nil] ; omega) p_) (aa_ (fun c => ow_strcat rfl rfl (by simp only [ByteArray.size_append, ba_lit, List.length_cons, List.length_nil] ; omega) p_) (ae_ (afin_none (o_ r_ (ow_appendS 0 rfl rfl rfl rfl rfl rfl rfl rfl (by rw [← ehd] ; omega) (fun v1 _ => E_ r_ (T_ (av_ (bb_ r_ (ax_ (ba_ (al_ (an_ ?_)))))))))))))
        refine M_ r_ (o_ r_ (bj_ r_ r_ g_ (E_ r_ (ak_ ?_))))
        rw [← ehd]
        refine jq_againS (i := (k, v)) (k + 1, v1) hlt (by dsimp only; omega) ?_ ?_
        · dsimp only
          rw [hnext, stT_leaf sp (.inr hk1), ← ByteArray.append_assoc]
          exact bc_ 0 r_ sub_end
        · (repeat (first | exact True.intro | refine ⟨rfl, ?_⟩))
      · rw [row1 hv]
        have ehd := hdT3 hk1 hv
        have e1 : [x].length = 1 := rfl
        have hxs := fx.size
        have hls := hl.size
        have ht := rtextF_c fx
        have hN := rnumF_c hl
        refine R_ (F_ r_ (L_ 1 r_ (T_ (au_ (R_ (o_ r_ (bn_ r_ r_ (E_ r_ (T_ (ap_ r_ v_ (R_ (o_ r_ (bn_ r_ r_ (E_ r_ (T_ (ap_ r_ v_ (R_ ?_)))))))))))))))))
        refine o_ r_ (bn_ r_ r_ (E_ r_ (T_ (aq_ r_ u_ (jc_anyB 13 none rfl k_ k_ (yM_ r_ (yF_ r_ (yL_ 1 r_ (aa_ (fun c => cv_ r_ r_ g_ g_ (T.row_eq _) r_ b_ p_) (aa_ (fun c => cr_ r_ r_ r_ p_) (aa_ (fun c => bm_ r_ (ht) p_) (aa_ (fun c => ow_strcat rfl rfl (by simp only [ByteArray.size_append, ba_lit, List.length_cons, List.length_nil] ; omega) p_) ?_))))))))))))
        refine aa_ (fun c => ow_strcat rfl rfl (by simp only [ByteArray.size_append, ba_lit, List.length_cons, List.length_nil] ; omega) p_) (yF_ r_ (yL_ 1 r_ (aa_ (fun c => bm_ r_ (hN) p_) (aa_ (fun c => ow_strcat rfl rfl (by simp only [ByteArray.size_append, ba_lit, List.length_cons, List.length_nil] ; omega) p_) ?_))))
        refine aa_ (fun c => ow_strcat rfl rfl (by simp only [ByteArray.size_append, ba_lit, List.length_cons, List.length_nil] ; omega) p_) (ae_ (afin_none (o_ r_ (ow_appendS 0 rfl rfl rfl rfl rfl rfl rfl rfl (by rw [← ehd] ; omega) (fun v1 _ => E_ r_ (ak_ (ay_ ?_)))))))
        rw [← ehd, ← row1 hv]
        refine jq_cutS v1 g_ ?_ ?_
        · exact bc_ 0 r_ (bc_ 0 r_ sub_end)
        · (repeat (first | exact True.intro | refine ⟨rfl, ?_⟩))
      · rw [row1 hv]
        have ehd := hdT4 hk1 hv
        have e1 : [x].length = 1 := rfl
        have hxs := fx.size
        have hls := hl.size
        have hms := hm.size
        have ht := rtextF_c fx
        have hN := rnumF_c hl
        have hM := rnumF_c hm
        refine R_ (F_ r_ (L_ 1 r_ (T_ (au_ (R_ (o_ r_ (bn_ r_ r_ (E_ r_ (T_ (ap_ r_ v_ (R_ (o_ r_ (bn_ r_ r_ (E_ r_ (T_ (ap_ r_ v_ (R_ ?_)))))))))))))))))
        refine o_ r_ (bn_ r_ r_ (E_ r_ (T_ (ap_ r_ v_ (R_ (o_ r_ (bn_ r_ r_ (E_ r_ (T_ (aq_ r_ u_ (jc_anyB 18 none rfl k_ k_ (yM_ r_ (yF_ r_ (yL_ 1 r_ (aa_ (fun c => cv_ r_ r_ g_ g_ (T.row_eq _) r_ b_ p_) (aa_ (fun c => cr_ r_ r_ r_ p_) (aa_ (fun c => bm_ r_ (ht) p_) ?_)))))))))))))))))
        refine aa_ (fun c => ow_strcat rfl rfl (by simp only [ByteArray.size_append, ba_lit, List.length_cons, List.length_nil] ; omega) p_) (aa_ (fun c => ow_strcat rfl rfl (by simp only [ByteArray.size_append, ba_lit, List.length_cons, List.length_nil] ; omega) p_) (yF_ r_ (yL_ 1 r_ (aa_ (fun c => bm_ r_ (hM) p_) ?_))))
        refine aa_ (fun c => ow_strcat rfl rfl (by simp only [ByteArray.size_append, ba_lit, List.length_cons, List.length_nil] ; omega) p_) (aa_ (fun c => ow_strcat rfl rfl (by simp only [ByteArray.size_append, ba_lit, List.length_cons, List.length_nil] ; omega) p_) (yF_ r_ (yL_ 1 r_ (aa_ (fun c => bm_ r_ (hN) p_) ?_))))
        refine aa_ (fun c => ow_strcat rfl rfl (by simp only [ByteArray.size_append, ba_lit, List.length_cons, List.length_nil] ; omega) p_) (aa_ (fun c => ow_strcat rfl rfl (by simp only [ByteArray.size_append, ba_lit, List.length_cons, List.length_nil] ; omega) p_) (ae_ (afin_none (o_ r_ (ow_appendS 0 rfl rfl rfl rfl rfl rfl rfl rfl (by rw [← ehd] ; omega) (fun v1 _ => E_ r_ (ak_ (ay_ ?_))))))))
        rw [← ehd, ← row1 hv]
        refine jq_cutS v1 g_ ?_ ?_
        · exact bc_ 0 r_ (bc_ 0 r_ sub_end)
        · (repeat (first | exact True.intro | refine ⟨rfl, ?_⟩))
      · have ehd := hdT5 hk1
        have hns := name_size hn
        refine R_ (F_ r_ (L_ 1 r_ (T_ (au_ (R_ (o_ r_ (bn_ r_ r_ (E_ r_ (T_ (ap_ r_ v_ (R_ (o_ r_ (bn_ r_ r_ (E_ r_ (T_ (ap_ r_ v_ (R_ ?_)))))))))))))))))
        refine o_ r_ (bn_ r_ r_ (E_ r_ (T_ (ap_ r_ v_ (R_ (o_ r_ (bn_ r_ r_ (E_ r_ (T_ (ap_ r_ v_ (an_ (M_ r_ (F_ r_ (L_ 1 r_ (o_ r_ (ow_strcat rfl rfl (by simp only [ByteArray.size_append, ba_lit, List.length_cons, List.length_nil] ; omega) (o_ r_ (ow_strcat rfl rfl (by simp only [ByteArray.size_append, ba_lit, List.length_cons, List.length_nil] ; omega) ?_))))))))))))))))))
        refine o_ r_ (ow_appendS 0 rfl rfl rfl rfl rfl rfl rfl rfl (by rw [← ehd] ; omega) (fun v1 _ => E_ r_ (ak_ (ay_ ?_))))
        rw [← ehd]
        refine jq_cutS v1 g_ ?_ ?_
        · exact bc_ 0 r_ (bc_ 0 r_ sub_end)
        · (repeat (first | exact True.intro | refine ⟨rfl, ?_⟩))
    intro v3 hk3
    have hk12 : ¬ (s.kind = 1 ∨ s.kind = 2) := by omega
    have hthn : ∀ t ∈ s.thn, fineS n' t := by
      rcases hfk with h | h | h | h | h
      · exact absurd (.inl h.1) hk12
      · exact absurd (.inr h.1) hk12
      · exact h.2.2.2.1
      · exact h.2.2.2.2.1
      · exact h.2.2.1
    have hels : ∀ t ∈ s.els, fineS n' t := by
      rcases hfk with h | h | h | h | h
      · exact absurd (.inl h.1) hk12
      · exact absurd (.inr h.1) hk12
      · exact h.2.2.2.2
      · rw [h.2.2.2.2.2]; simp
      · rw [h.2.2.2]; simp
    have ez := Sm.sz_eq s
    have hsp2 : (sp ++ Ksp).size = sp.size + 2 := by rw [ByteArray.size_append]; rfl
    have hZ : ((Y ++ sp) ++ hdT s).size = (Y ++ sp).size + (hdT s).size := ByteArray.size_append ..
    have e1 : stT sp s = (sp ++ hdT s) ++ stsT (sp ++ Ksp) s.thn ++ (if s.els = [] then ⟨#[]⟩ else (sp ++ Kelse2) ++ stsT (sp ++ Ksp) s.els) ++ (sp ++ Kclose) := stT_node sp hk12
    have hT := sts_size hthn (sp := sp ++ Ksp) (by omega)
    have hE := sts_size hels (sp := sp ++ Ksp) (by omega)
    clear hfk
    generalize hZe : (Y ++ sp) ++ hdT s = Zt at hZ ⊢
    have con1 := hrec s.thn (sp ++ Ksp) Zt v3 hthn (by omega) (by omega)
    have hZ2 : (Zt ++ stsT (sp ++ Ksp) s.thn).size = Zt.size + (stsT (sp ++ Ksp) s.thn).size := ByteArray.size_append ..
    have eE : (s.els.map Sm.row).length = s.els.length := List.length_map _
    refine R_ (M_ r_ (F_ r_ (L_ 1 r_ (M_ r_ (o_ r_ (ow_strcat rfl rfl (by simp only [ByteArray.size_append, ba_lit, List.length_cons, List.length_nil] ; omega) (o_ r_ (bt_ [0] rfl rfl (con1) (fun pp hpp => E_ r_ (T_ (am_ ?_)))))))))))
    generalize hZ2e : Zt ++ stsT (sp ++ Ksp) s.thn = Z2 at hZ2 ⊢
    by_cases hnil : s.els = []
    · have hz : ¬ (0 : Int) < ((s.els.map Sm.row).length : Int) := by rw [hnil]; simp
      refine R_ (F_ r_ (L_ 1 r_ (o_ r_ (br_ r_ (fun hlen => o_ r_ (bz_ r_ r_ (T_ (ap_ r_ w_ (as_ (al_ (an_ (M_ r_ (M_ r_ (o_ r_ (ow_strcat rfl rfl (by simp only [ByteArray.size_append, ba_lit, List.length_cons, List.length_nil] ; omega) (o_ r_ (ow_appendS 0 rfl rfl rfl rfl rfl rfl rfl rfl (by simp only [ByteArray.size_append, ba_lit, List.length_cons, List.length_nil] ; omega) (fun v1 _ => E_ r_ (ak_ ?_)))))))))))))))))))
      refine ay_ (al_ (an_ (M_ r_ (o_ r_ (bj_ r_ r_ g_ (E_ r_ (ak_ (jq_againS (i := (k, v)) (k + 1, v1) hlt (by dsimp only; omega) ?_ ?_))))))))
      · dsimp only
        rw [hnext, e1, if_pos hnil, ba_nil, ← hZ2e, ← hZe]
        simp only [ByteArray.append_assoc]
        exact bc_ 0 r_ sub_end
      · (repeat (first | exact True.intro | refine ⟨rfl, ?_⟩))
    · have hz : (0 : Int) < ((s.els.map Sm.row).length : Int) := by
        have := List.length_pos_iff.2 hnil
        omega
      have hsp3 : (sp ++ Kelse2).size = sp.size + 9 := by rw [ByteArray.size_append]; rfl
      have hZ3 : (Z2 ++ (sp ++ Kelse2)).size = Z2.size + (sp ++ Kelse2).size := ByteArray.size_append ..
      have con2 := fun v => hrec s.els (sp ++ Ksp) (Z2 ++ (sp ++ Kelse2)) v hels (by omega) (by omega)
      refine R_ (F_ r_ (L_ 1 r_ (o_ r_ (br_ r_ (fun hlen => o_ r_ (bz_ r_ r_ (T_ (aq_ r_ u_ (R_ (M_ r_ (M_ r_ (o_ r_ (ow_strcat rfl rfl (by simp only [ByteArray.size_append, ba_lit, List.length_cons, List.length_nil] ; omega) (o_ r_ (ow_appendS 0 rfl rfl rfl rfl rfl rfl rfl rfl (by simp only [ByteArray.size_append, ba_lit, List.length_cons, List.length_nil] ; omega) (fun v1 _ => E_ r_ (T_ (an_ (M_ r_ ?_)))))))))))))))))))
      refine F_ r_ (L_ 1 r_ (M_ r_ (o_ r_ (ow_strcat rfl rfl (by simp only [ByteArray.size_append, ba_lit, List.length_cons, List.length_nil] ; omega) (o_ r_ (bt_ [0] rfl rfl (con2 _) (fun pp hpp => E_ r_ (T_ (an_ (M_ r_ (M_ r_ (o_ r_ (ow_strcat rfl rfl (by simp only [ByteArray.size_append, ba_lit, List.length_cons, List.length_nil] ; omega) ?_)))))))))))))
      refine o_ r_ (ow_appendS 0 rfl rfl rfl rfl rfl rfl rfl rfl (by simp only [ByteArray.size_append, ba_lit, List.length_cons, List.length_nil] ; omega) (fun v1 _ => E_ r_ (ak_ (ay_ (al_ (an_ (M_ r_ (o_ r_ (bj_ r_ r_ g_ (E_ r_ (ak_ (jq_againS (i := (k, v)) (k + 1, v1) hlt (by dsimp only; omega) ?_ ?_))))))))))))
      · dsimp only
        rw [hnext, e1, if_neg hnil, ← hZ2e, ← hZe]
        simp only [ByteArray.append_assoc]
        exact bc_ 0 r_ sub_end
      · (repeat (first | exact True.intro | refine ⟨rfl, ?_⟩))
  · have hlt2 : ¬ (k : Int) < ((l.map Sm.row).length : Int) := by omega
    rw [List.take_of_length_le (by omega)]
    refine am_ (R_ (M_ r_ (M_ r_ (o_ r_ (br_ r_ (fun hlen => o_ r_ (bw_ r_ r_ (T_ (ap_ r_ w_ (av_ (ax_ (ax_ (ba_ (al_ (R_ (M_ r_ (E_ r_ ?_)))))))))))))))))
    refine T_ (ar_ (jq_ret1 rfl rfl [0] rfl (fun K h => h v trivial)))
theorem rbody_c : ∀ n : Nat, RBody n
  | 0 => rbody_step 0 (fun n' h => by omega)
  | n + 1 => rbody_step (n + 1) (fun n' h => by obtain rfl : n' = n := by omega
                                                exact rbody_c n')
end Go.Proofs.YtlniadfidfmckaaDoor
end

section
namespace Go.Proofs.YtlniadfidfmckaaDoor
open Go.Vc
attribute [local irreducible] JL JC JQ OpWp Con ConN
attribute [local irreducible] byteAt runLen isL isD isName hasW rd fineS numS textT hdT stsT stT okSs
set_option maxHeartbeats 8000000

def catL {α : Type} (f : α → ByteArray) : List α → ByteArray
  | [] => ⟨#[]⟩
  | a :: l => f a ++ catL f l
theorem catL_app {α : Type} (f : α → ByteArray) : ∀ l m : List α, catL f (l ++ m) = catL f l ++ catL f m
  | [], m => by rw [List.nil_append, catL, nil_ba]
  | a :: l, m => by rw [List.cons_append, catL, catL, catL_app f l m, ByteArray.append_assoc]
theorem catL_take {α : Type} (f : α → ByteArray) (Y : ByteArray) {l : List α} {k : Nat} (h : k < l.length) : Y ++ catL f (l.take (k + 1)) = (Y ++ catL f (l.take k)) ++ f l[k] := by
  rw [List.take_succ_eq_append_getElem h, catL_app, catL, catL, ba_nil, ByteArray.append_assoc]
theorem catL_size {α : Type} {f : α → ByteArray} {B : Nat} : ∀ {l : List α}, (∀ a ∈ l, (f a).size ≤ B) → (catL f l).size ≤ l.length * B
  | [], _ => by simp [catL]; rfl
  | a :: l, h => by
    have h1 := h a (by simp)
    have h2 := catL_size (l := l) (fun x hx => h x (by simp [hx]))
    rw [catL, ByteArray.size_append, List.length_cons, Nat.add_mul]
    omega
theorem catL_takeS {α : Type} {f : α → ByteArray} {B : Nat} {l : List α} (h : ∀ a ∈ l, (f a).size ≤ B) (k : Nat) : (catL f (l.take k)).size ≤ l.length * B := by
  have h1 := catL_size (l := l.take k) (fun a ha => h a (List.mem_of_mem_take ha))
  have h2 : (l.take k).length * B ≤ l.length * B := Nat.mul_le_mul_right _ (by rw [List.length_take]; omega)
  omega
def resT (x : ByteArray) : ByteArray := (((⟨#[114, 101, 115, 111, 117, 114, 99, 101, 32]⟩ : ByteArray) ++ x) ++ (⟨#[10]⟩ : ByteArray))
def shT (x : Shd) : ByteArray := (((((((⟨#[115, 104, 97, 114, 101, 100, 32]⟩ : ByteArray) ++ x.1) ++ (⟨#[32]⟩ : ByteArray)) ++ numS x.2.1) ++ (⟨#[32]⟩ : ByteArray)) ++ x.2.2) ++ (⟨#[10]⟩ : ByteArray))
def inT (x : Inp) : ByteArray := (((((((⟨#[105, 110, 112, 117, 116, 32]⟩ : ByteArray) ++ x.1) ++ (⟨#[32]⟩ : ByteArray)) ++ numS x.2.1) ++ (⟨#[32]⟩ : ByteArray)) ++ numS x.2.2) ++ (⟨#[10]⟩ : ByteArray))
def vaT (x : ByteArray) : ByteArray := (((⟨#[118, 97, 114, 32]⟩ : ByteArray) ++ x) ++ (⟨#[10]⟩ : ByteArray))
def arT (x : Arr) : ByteArray := (((((⟨#[97, 114, 114, 97, 121, 32]⟩ : ByteArray) ++ x.1) ++ (⟨#[32]⟩ : ByteArray)) ++ numS x.2) ++ (⟨#[10]⟩ : ByteArray))
def mdT (x : Md) : ByteArray := (((((((((⟨#[109, 111, 100, 101, 32]⟩ : ByteArray) ++ x.1) ++ (⟨#[32]⟩ : ByteArray)) ++ x.2.1) ++ (⟨#[32]⟩ : ByteArray)) ++ numS x.2.2.1) ++ (⟨#[32]⟩ : ByteArray)) ++ numS x.2.2.2) ++ (⟨#[10]⟩ : ByteArray))
def clT (x : Clm) : ByteArray := (((((⟨#[110, 101, 118, 101, 114, 32]⟩ : ByteArray) ++ numS x.1) ++ (⟨#[32]⟩ : ByteArray)) ++ numS x.2) ++ (⟨#[10]⟩ : ByteArray))
def tkHd (x : Tk) : ByteArray := (((((((((((⟨#[116, 97, 115, 107, 32]⟩ : ByteArray) ++ x.name) ++ (⟨#[32, 112, 101, 114, 105, 111, 100, 32]⟩ : ByteArray)) ++ numS x.period) ++ (⟨#[32, 100, 101, 97, 100, 108, 105, 110, 101, 32]⟩ : ByteArray)) ++ numS x.deadline) ++ (⟨#[32, 112, 114, 105, 111, 114, 105, 116, 121, 32]⟩ : ByteArray)) ++ numS x.priority) ++ (⟨#[32, 106, 105, 116, 116, 101, 114, 32]⟩ : ByteArray)) ++ numS x.jitter) ++ (⟨#[10]⟩ : ByteArray))
def tkT (t : Tk) : ByteArray := ((((((((tkHd t ++ catL inT t.inputs) ++ catL vaT t.vars) ++ catL arT t.arrays) ++ catL mdT t.modes) ++ catL clT t.claims) ++ (⟨#[98, 111, 100, 121, 10]⟩ : ByteArray)) ++ stsT Ksp t.body) ++ (⟨#[101, 110, 100, 10]⟩ : ByteArray))
def progT (p : Pg) : ByteArray := (catL resT p.res ++ catL shT p.shared) ++ catL tkT p.tasks
def progF (p : Pg) : ByteArray × Int := if okPg p = false then (⟨#[]⟩, 10) else if p.tasks.any (fun t => dpF 8 t.body) = true then (⟨#[]⟩, 4) else if 8192 < (progT p).size then (⟨#[]⟩, 4) else (progT p, 0)
/-- Sizes within reason. -/
structure TkSz (t : Tk) : Prop where
  inputs : t.inputs.length ≤ 1000
  vars : t.vars.length ≤ 1000
  arrays : t.arrays.length ≤ 1000
  modes : t.modes.length ≤ 1000
  claims : t.claims.length ≤ 1000
  body : Sm.szs t.body ≤ 1000000
structure PgSz (p : Pg) : Prop where
  res : p.res.length ≤ 1000
  shared : p.shared.length ≤ 1000
  len : p.tasks.length ≤ 1000
  tasks : ∀ t ∈ p.tasks, TkSz t
theorem resT_ok {x : ByteArray} (h : nameB x = true) : nmOk (x) := by
  exact nameB_ok.1 h
theorem resT_size {x : ByteArray} (h : nameB x = true) : (resT x).size ≤ 200 := by
  have h := resT_ok h
  have := name_size h
  simp only [resT, ByteArray.size_append, ba_lit, List.length_cons, List.length_nil]
  omega
theorem shT_ok {x : Shd} (h : shB x = true) : nmOk (x.1) ∧ Pl (x.2.1) ∧ nmOk (x.2.2) := by
  unfold shB at h
  simp only [Bool.and_eq_true, and_assoc] at h
  obtain ⟨h0, h1, h2⟩ := h
  exact ⟨nameB_ok.1 h0, plainB_ok.1 h1, nameB_ok.1 h2⟩
theorem shT_size {x : Shd} (h : shB x = true) : (shT x).size ≤ 200 := by
  have h := shT_ok h
  obtain ⟨h0, h1, h2⟩ := h
  have := name_size h0
  have := h1.size
  have := name_size h2
  simp only [shT, ByteArray.size_append, ba_lit, List.length_cons, List.length_nil]
  omega
theorem inT_ok {x : Inp} (h : inB x = true) : nmOk (x.1) ∧ (-2147483647 ≤ x.2.1 ∧ x.2.1 ≤ 2147483647) ∧ (-2147483647 ≤ x.2.2 ∧ x.2.2 ≤ 2147483647) := by
  unfold inB at h
  simp only [Bool.and_eq_true, and_assoc] at h
  obtain ⟨h0, h1, h2⟩ := h
  exact ⟨nameB_ok.1 h0, smallB_ok.1 h1, smallB_ok.1 h2⟩
theorem inT_size {x : Inp} (h : inB x = true) : (inT x).size ≤ 200 := by
  have h := inT_ok h
  obtain ⟨h0, h1, h2⟩ := h
  have := name_size h0
  have := numS_size _ h1.1 h1.2
  have := numS_size _ h2.1 h2.2
  simp only [inT, ByteArray.size_append, ba_lit, List.length_cons, List.length_nil]
  omega
theorem vaT_ok {x : ByteArray} (h : nameB x = true) : nmOk (x) := by
  exact nameB_ok.1 h
theorem vaT_size {x : ByteArray} (h : nameB x = true) : (vaT x).size ≤ 200 := by
  have h := vaT_ok h
  have := name_size h
  simp only [vaT, ByteArray.size_append, ba_lit, List.length_cons, List.length_nil]
  omega
theorem arT_ok {x : Arr} (h : arB x = true) : nmOk (x.1) ∧ Pl (x.2) := by
  unfold arB at h
  simp only [Bool.and_eq_true, and_assoc] at h
  obtain ⟨h0, h1⟩ := h
  exact ⟨nameB_ok.1 h0, plainB_ok.1 h1⟩
theorem arT_size {x : Arr} (h : arB x = true) : (arT x).size ≤ 200 := by
  have h := arT_ok h
  obtain ⟨h0, h1⟩ := h
  have := name_size h0
  have := h1.size
  simp only [arT, ByteArray.size_append, ba_lit, List.length_cons, List.length_nil]
  omega
theorem mdT_ok {x : Md} (h : mdB x = true) : nmOk (x.1) ∧ nmOk (x.2.1) ∧ (-2147483647 ≤ x.2.2.1 ∧ x.2.2.1 ≤ 2147483647) ∧ (-2147483647 ≤ x.2.2.2 ∧ x.2.2.2 ≤ 2147483647) := by
  unfold mdB at h
  simp only [Bool.and_eq_true, and_assoc] at h
  obtain ⟨h0, h1, h2, h3⟩ := h
  exact ⟨nameB_ok.1 h0, nameB_ok.1 h1, smallB_ok.1 h2, smallB_ok.1 h3⟩
theorem mdT_size {x : Md} (h : mdB x = true) : (mdT x).size ≤ 200 := by
  have h := mdT_ok h
  obtain ⟨h0, h1, h2, h3⟩ := h
  have := name_size h0
  have := name_size h1
  have := numS_size _ h2.1 h2.2
  have := numS_size _ h3.1 h3.2
  simp only [mdT, ByteArray.size_append, ba_lit, List.length_cons, List.length_nil]
  omega
theorem clT_ok {x : Clm} (h : clB x = true) : Pl (x.1) ∧ Pl (x.2) := by
  unfold clB at h
  simp only [Bool.and_eq_true, and_assoc] at h
  obtain ⟨h0, h1⟩ := h
  exact ⟨plainB_ok.1 h0, plainB_ok.1 h1⟩
theorem clT_size {x : Clm} (h : clB x = true) : (clT x).size ≤ 200 := by
  have h := clT_ok h
  obtain ⟨h0, h1⟩ := h
  have := h0.size
  have := h1.size
  simp only [clT, ByteArray.size_append, ba_lit, List.length_cons, List.length_nil]
  omega
theorem tk1_ok {x : Tk} (h : hdB x = true) : nmOk (x.name) ∧ Pl (x.period) ∧ Pl (x.deadline) ∧ Pl (x.priority) ∧ Pl (x.jitter) := by
  unfold hdB at h
  simp only [Bool.and_eq_true, and_assoc] at h
  obtain ⟨h0, h1, h2, h3, h4⟩ := h
  exact ⟨nameB_ok.1 h0, plainB_ok.1 h1, plainB_ok.1 h2, plainB_ok.1 h3, plainB_ok.1 h4⟩
theorem tk1_size {x : Tk} (h : hdB x = true) : (tkHd x).size ≤ 200 := by
  have h := tk1_ok h
  obtain ⟨h0, h1, h2, h3, h4⟩ := h
  have := name_size h0
  have := h1.size
  have := h2.size
  have := h3.size
  have := h4.size
  simp only [tkHd, ByteArray.size_append, ba_lit, List.length_cons, List.length_nil]
  omega
theorem hd_of {t : Tk} (h : okTk t = true) : hdB t = true ∧ okSs 20 t.body = true ∧ (∀ x ∈ t.inputs, inB x = true) ∧ (∀ x ∈ t.vars, nameB x = true) ∧ (∀ x ∈ t.arrays, arB x = true) ∧ (∀ x ∈ t.modes, mdB x = true) ∧ ∀ x ∈ t.claims, clB x = true := by
  unfold okTk at h
  simp only [Bool.and_eq_true, and_assoc, List.all_eq_true] at h
  exact h
theorem tkT_size {t : Tk} (h : okTk t = true) (hd : dpF 8 t.body = false) (hs : TkSz t) : (tkT t).size ≤ 60002000000 := by
  obtain ⟨h0, hb, h1, h2, h3, h4, h5⟩ := hd_of h
  have e0 := tk1_size h0
  have e1 := catL_size (f := inT) (fun x hx => inT_size (h1 x hx))
  have e2 := catL_size (f := vaT) (fun x hx => vaT_size (h2 x hx))
  have e3 := catL_size (f := arT) (fun x hx => arT_size (h3 x hx))
  have e4 := catL_size (f := mdT) (fun x hx => mdT_size (h4 x hx))
  have e5 := catL_size (f := clT) (fun x hx => clT_size (h5 x hx))
  have e6 := sts_size (sp := Ksp) (fine_of 8 20 t.body (by omega) hb hd) (by show 2 + 2 * 8 ≤ 100; omega)
  have := hs.inputs
  have := hs.vars
  have := hs.arrays
  have := hs.modes
  have := hs.claims
  have := hs.body
  simp only [tkT, ByteArray.size_append, ba_lit, List.length_cons, List.length_nil]
  omega
theorem rProg_c (p : Pg) (hz : PgSz p) : Con Tryd.prog 14 [.row p.row] [] (fun K => K (.tup [Str (progF p).1, In .i64 (progF p).2]) []) := by
  refine con_intro Tryd.func14 rfl rfl (Nat.le_of_ble_eq_true rfl) (fun c hc => R_ (o_ r_ (ci_ r_ (fun bx => E_ r_ (E_ r_ (T_ (am_ (R_ (A_ 0 r_ (o_ r_ (bm_ r_ (rprintableB_c _) (o_ r_ (cd_ r_ (T_ ?_))))))))))))))
  by_cases hok : okPg p = false
  · have hN : (!okPg p) = true := by rw [hok]; rfl
    have e1 : progF p = (⟨#[]⟩, 10) := by unfold progF; rw [if_pos hok]
    refine aq_ r_ h_ (R_ (E_ r_ (E_ r_ (T_ (ar_ (aw_ (jq_ret2 rfl rfl rfl [] rfl (fun K h => by rw [e1] at h; exact h))))))))
  have hok : okPg p = true := by simpa using hok
  have hN : (!okPg p) = false := by rw [hok]; rfl
  have hokb : ¬ okPg p = false := by rw [hok]; simp
  refine ap_ r_ h_ (as_ (al_ ?_))
  -- none is too deep
  have eT : (p.tasks.map Tk.row).length = p.tasks.length := List.length_map _
  refine am_ (jc_cut (ι := Unit) [] (fun _ => p.tasks.any (fun t => dpF 8 t.body) = false) (fun _ => [(1, .cell (.val (.pointer (some ⟨bx, 0, none⟩))))]) (fun _ => [.blk bx 33 p.row]) ?_ ?_)
  · refine R_ (E_ r_ (T_ (au_ (jc_loopS (ι := Nat) [] (fun k => k ≤ p.tasks.length ∧ (p.tasks.take k).any (fun t => dpF 8 t.body) = false) (fun k => (4, In .i64 (k : Int)) :: [(1, .cell (.val (.pointer (some ⟨bx, 0, none⟩))))]) (fun _ => [.blk bx 33 p.row]) (fun k => p.tasks.length - k) 0 ⟨Nat.zero_le _, rfl⟩ ?_ ?_ ?_))))
    · exact bc_ 0 r_ sub_end
    · (repeat (first | exact True.intro | refine ⟨rfl, ?_⟩))
    rintro k ⟨hk, hall⟩
    by_cases hlt : k < p.tasks.length
    · have hlt2 : (k : Int) < ((p.tasks.map Tk.row).length : Int) := by omega
      by_cases hd : dpF 8 p.tasks[k].body = true
      · have hany : p.tasks.any (fun t => dpF 8 t.body) = true := any_yes hlt hd
        have e1 : progF p = (⟨#[]⟩, 4) := by unfold progF; rw [if_neg hokb, if_pos hany]
        refine am_ (R_ (M_ r_ (F_ r_ (L_ 0 r_ (o_ r_ (br_ r_ (fun hlen => o_ r_ (bw_ r_ r_ (T_ (aq_ r_ u_ (as_ (al_ (B_ (R_ (F_ r_ (L_ 0 r_ (M_ r_ ?_)))))))))))))))))
        refine o_ r_ (cc_ r_ r_ g_ r_ r_ b_ (o_ r_ (cf_ r_ r_ r_ b_ r_ b_ (o_ r_ (cb_ r_ r_ (o_ r_ (bm_ r_ (rDeep_c _) (T_ (aq_ r_ h_ (R_ (E_ r_ (E_ r_ (T_ (ar_ (az_ (aw_ (aw_ (az_ (aw_ ?_)))))))))))))))))))
        refine jq_ret2 rfl rfl rfl [] rfl (fun K h => by rw [e1] at h; exact h)
      · have hd : dpF 8 p.tasks[k].body = false := by simpa using hd
        refine am_ (R_ (M_ r_ (F_ r_ (L_ 0 r_ (o_ r_ (br_ r_ (fun hlen => o_ r_ (bw_ r_ r_ (T_ (aq_ r_ u_ (as_ (al_ (B_ (R_ (F_ r_ (L_ 0 r_ (M_ r_ ?_)))))))))))))))))
        refine o_ r_ (cc_ r_ r_ g_ r_ r_ b_ (o_ r_ (cf_ r_ r_ r_ b_ r_ b_ (o_ r_ (cb_ r_ r_ (o_ r_ (bm_ r_ (rDeep_c _) (T_ (ap_ r_ h_ (as_ (ay_ (al_ (an_ (M_ r_ (o_ r_ (bj_ r_ r_ g_ (E_ r_ (ak_ (jq_againS (k + 1) ⟨hlt, any_snoc hlt hall hd⟩ g_ ?_ ?_)))))))))))))))))))
        · exact bc_ 0 r_ sub_end
        · (repeat (first | exact True.intro | refine ⟨rfl, ?_⟩))
    · have hlt2 : ¬ (k : Int) < ((p.tasks.map Tk.row).length : Int) := by omega
      refine am_ (R_ (M_ r_ (F_ r_ (L_ 0 r_ (o_ r_ (br_ r_ (fun hlen => o_ r_ (bw_ r_ r_ (T_ (ap_ r_ w_ (av_ (ax_ (ax_ (ba_ (jq_cutS () (by rw [List.take_of_length_le g_] at hall; exact hall) ?_ ?_)))))))))))))))
      · exact bc_ 0 r_ sub_end
      · (repeat (first | exact True.intro | refine ⟨rfl, ?_⟩))
  intro _ hdeep
  have hok2 := hok
  unfold okPg at hok2
  simp only [Bool.and_eq_true, List.all_eq_true, and_assoc] at hok2
  obtain ⟨hR, hSh, hTk⟩ := hok2
  have zr := hz.res
  have zs := hz.shared
  have zl := hz.len
  refine jc_ownNil 5 1 g_ (R_ (E_ r_ (T_ (am_ ?_))))
  have hY0 : ((⟨#[]⟩ : ByteArray)).size ≤ 0 := Nat.le_refl _
  refine jc_cut (ι := Value) [] (fun _ => True) (fun v => (5, .cell (.val v)) :: [(1, .cell (.val (.pointer (some ⟨bx, 0, none⟩))))]) (fun v => [Bw v ((⟨#[]⟩ : ByteArray) ++ catL resT (p.res)), .blk bx 33 p.row]) ?_ ?_
  · refine R_ (E_ r_ (T_ (au_ (jc_loopS (ι := Nat × Value) [] (fun i => i.1 ≤ (p.res).length) (fun i => (6, In .i64 (i.1 : Int)) :: (5, .cell (.val i.2)) :: [(1, .cell (.val (.pointer (some ⟨bx, 0, none⟩))))]) (fun i => [Bw i.2 ((⟨#[]⟩ : ByteArray) ++ catL resT ((p.res).take i.1)), .blk bx 33 p.row]) (fun i => (p.res).length - i.1) (0, (.slice none 0 0)) (Nat.zero_le _) ?_ ?_ ?_))))
    · rw [show (⟨#[]⟩ : ByteArray) ++ catL resT ((p.res).take 0) = (⟨#[]⟩ : ByteArray) by rw [List.take_zero, catL, ba_nil]]
      exact bc_ 0 r_ (bc_ 0 r_ sub_end)
    · (repeat (first | exact True.intro | refine ⟨rfl, ?_⟩))
    rintro ⟨k, v⟩ hk
    dsimp only at hk ⊢
    have eL : ((p.res).map Wrow).length = (p.res).length := List.length_map _
    by_cases hlt : k < (p.res).length
    · have hlt2 : (k : Int) < (((p.res).map Wrow).length : Int) := by omega
      have hsz := catL_takeS (f := resT) (l := p.res) (fun x hx => resT_size (hR x hx)) k
      have hnx := catL_take resT ((⟨#[]⟩ : ByteArray)) hlt
      have hfs := resT_size (hR _ (List.getElem_mem hlt))
      have hYs : ((⟨#[]⟩ : ByteArray) ++ catL resT ((p.res).take k)).size ≤ 0 + 200000 := by rw [ByteArray.size_append]; omega
      generalize (⟨#[]⟩ : ByteArray) ++ catL resT ((p.res).take k) = Z at hYs hnx ⊢
      have gk := resT_ok (hR _ (List.getElem_mem hlt))
      have g0 := gk
      have := name_size g0
      refine am_ (R_ (M_ r_ (F_ r_ (L_ 1 r_ (o_ r_ (br_ r_ (fun hlen => o_ r_ (bw_ r_ r_ (T_ (aq_ r_ u_ (as_ (al_ (B_ (an_ (M_ r_ (F_ r_ (L_ 1 r_ ?_)))))))))))))))))
      refine M_ r_ (o_ r_ (cc_ r_ r_ g_ r_ r_ b_ (o_ r_ (cb_ r_ r_ (o_ r_ (ow_strcat rfl rfl (by simp only [ByteArray.size_append, ba_lit, List.length_cons, List.length_nil] ; omega) (o_ r_ (ow_strcat rfl rfl (by simp only [ByteArray.size_append, ba_lit, List.length_cons, List.length_nil] ; omega) (o_ r_ (ow_appendS 0 rfl rfl rfl rfl rfl rfl rfl rfl (by show _ + (resT (p.res)[k]).size ≤ _ ; omega) (fun v1 _ => ?_)))))))))))
      refine E_ r_ (ak_ (ay_ (al_ (an_ (M_ r_ (o_ r_ (bj_ r_ r_ g_ (E_ r_ (ak_ (jq_againS (i := (k, v)) (k + 1, v1) hlt (by dsimp only; omega) ?_ ?_))))))))))
      · dsimp only
        rw [hnx]
        exact bc_ 0 r_ (bc_ 0 r_ sub_end)
      · (repeat (first | exact True.intro | refine ⟨rfl, ?_⟩))
    · have hlt2 : ¬ (k : Int) < (((p.res).map Wrow).length : Int) := by omega
      rw [List.take_of_length_le (show (p.res).length ≤ k by omega)]
      refine am_ (R_ (M_ r_ (F_ r_ (L_ 1 r_ (o_ r_ (br_ r_ (fun hlen => o_ r_ (bw_ r_ r_ (T_ (ap_ r_ w_ (av_ (ax_ (ax_ (ba_ (jq_cutS v trivial ?_ ?_)))))))))))))))
      · exact bc_ 0 r_ (bc_ 0 r_ sub_end)
      · (repeat (first | exact True.intro | refine ⟨rfl, ?_⟩))
  intro vA _
  rw [nil_ba]
  have hY1 := catL_size (f := resT) (fun x hx => resT_size (hR x hx))
  refine am_ (jc_cut (ι := Value) [] (fun _ => True) (fun v => (5, .cell (.val v)) :: [(1, .cell (.val (.pointer (some ⟨bx, 0, none⟩))))]) (fun v => [Bw v (catL resT p.res ++ catL shT (p.shared)), .blk bx 33 p.row]) ?_ ?_)
  · refine R_ (E_ r_ (T_ (au_ (jc_loopS (ι := Nat × Value) [] (fun i => i.1 ≤ (p.shared).length) (fun i => (7, In .i64 (i.1 : Int)) :: (5, .cell (.val i.2)) :: [(1, .cell (.val (.pointer (some ⟨bx, 0, none⟩))))]) (fun i => [Bw i.2 (catL resT p.res ++ catL shT ((p.shared).take i.1)), .blk bx 33 p.row]) (fun i => (p.shared).length - i.1) (0, vA) (Nat.zero_le _) ?_ ?_ ?_))))
    · rw [show catL resT p.res ++ catL shT ((p.shared).take 0) = catL resT p.res by rw [List.take_zero, catL, ba_nil]]
      exact bc_ 0 r_ (bc_ 0 r_ sub_end)
    · (repeat (first | exact True.intro | refine ⟨rfl, ?_⟩))
    rintro ⟨k, v⟩ hk
    dsimp only at hk ⊢
    have eL : ((p.shared).map ShRow).length = (p.shared).length := List.length_map _
    by_cases hlt : k < (p.shared).length
    · have hlt2 : (k : Int) < (((p.shared).map ShRow).length : Int) := by omega
      have hsz := catL_takeS (f := shT) (l := p.shared) (fun x hx => shT_size (hSh x hx)) k
      have hnx := catL_take shT (catL resT p.res) hlt
      have hfs := shT_size (hSh _ (List.getElem_mem hlt))
      have hYs : (catL resT p.res ++ catL shT ((p.shared).take k)).size ≤ 200000 + 200000 := by rw [ByteArray.size_append]; omega
      generalize catL resT p.res ++ catL shT ((p.shared).take k) = Z at hYs hnx ⊢
      have gk := shT_ok (hSh _ (List.getElem_mem hlt))
      obtain ⟨g0, g1, g2⟩ := gk
      have := name_size g0
      have := g1.size
      have := name_size g2
      refine am_ (R_ (M_ r_ (F_ r_ (L_ 1 r_ (o_ r_ (br_ r_ (fun hlen => o_ r_ (bw_ r_ r_ (T_ (aq_ r_ u_ (as_ (al_ (B_ (R_ (F_ r_ (L_ 1 r_ (M_ r_ ?_)))))))))))))))))
      refine o_ r_ (cc_ r_ r_ g_ r_ r_ b_ (o_ r_ (cr_ r_ r_ r_ (o_ r_ (bl_ r_ r_ (fun bl => S_ 0 r_ (T_ (jc_anyB 16 none rfl k_ k_ (yM_ r_ (yF_ r_ (yF_ r_ (yL_ 0 r_ (aa_ (fun c => ow_strcat rfl rfl (by simp only [ByteArray.size_append, ba_lit, List.length_cons, List.length_nil] ; omega) p_) ?_)))))))))))))
      refine aa_ (fun c => ow_strcat rfl rfl (by simp only [ByteArray.size_append, ba_lit, List.length_cons, List.length_nil] ; omega) p_) (yF_ r_ (yF_ r_ (yL_ 0 r_ (aa_ (fun c => bm_ r_ (rnumF_c g1) p_) (aa_ (fun c => ow_strcat rfl rfl (by simp only [ByteArray.size_append, ba_lit, List.length_cons, List.length_nil] ; omega) p_) ?_)))))
      refine aa_ (fun c => ow_strcat rfl rfl (by simp only [ByteArray.size_append, ba_lit, List.length_cons, List.length_nil] ; omega) p_) (yF_ r_ (yL_ 0 r_ (aa_ (fun c => ow_strcat rfl rfl (by simp only [ByteArray.size_append, ba_lit, List.length_cons, List.length_nil] ; omega) p_) (aa_ (fun c => ow_strcat rfl rfl (by simp only [ByteArray.size_append, ba_lit, List.length_cons, List.length_nil] ; omega) p_) (ae_ ?_)))))
      refine afin_none (o_ r_ (ow_appendS 1 rfl rfl rfl rfl rfl rfl rfl rfl (by show _ + (shT (p.shared)[k]).size ≤ _ ; omega) (fun v1 _ => E_ r_ (ak_ (ay_ (al_ (an_ (M_ r_ (o_ r_ (bj_ r_ r_ g_ (E_ r_ (ak_ (jq_againS (i := (k, v)) (k + 1, v1) hlt (by dsimp only; omega) ?_ ?_)))))))))))))
      · dsimp only
        rw [hnx]
        exact bc_ 0 r_ (bc_ 1 r_ sub_end)
      · (repeat (first | exact True.intro | refine ⟨rfl, ?_⟩))
    · have hlt2 : ¬ (k : Int) < (((p.shared).map ShRow).length : Int) := by omega
      rw [List.take_of_length_le (show (p.shared).length ≤ k by omega)]
      refine am_ (R_ (M_ r_ (F_ r_ (L_ 1 r_ (o_ r_ (br_ r_ (fun hlen => o_ r_ (bw_ r_ r_ (T_ (ap_ r_ w_ (av_ (ax_ (ax_ (ba_ (jq_cutS v trivial ?_ ?_)))))))))))))))
      · exact bc_ 0 r_ (bc_ 0 r_ sub_end)
      · (repeat (first | exact True.intro | refine ⟨rfl, ?_⟩))
  intro vB _
  have hY2 : (catL resT p.res ++ catL shT p.shared).size ≤ 400000 := by
    have := catL_size (f := shT) (fun x hx => shT_size (hSh x hx))
    rw [ByteArray.size_append]; omega
  generalize hX2 : catL resT p.res ++ catL shT p.shared = X2 at hY2 ⊢
  have hdk : ∀ t ∈ p.tasks, dpF 8 t.body = false := fun t ht => by simpa using List.any_eq_false.1 hdeep t ht
  have htz : ∀ t ∈ p.tasks, (tkT t).size ≤ 60002000000 := fun t ht => tkT_size (hTk t ht) (hdk t ht) (hz.tasks t ht)
  refine am_ (jc_cut (ι := Value) [] (fun _ => True) (fun v => (5, .cell (.val v)) :: [(1, .cell (.val (.pointer (some ⟨bx, 0, none⟩))))]) (fun v => [Bw v (X2 ++ catL tkT p.tasks), .blk bx 33 p.row]) ?_ ?_)
  · refine R_ (E_ r_ (T_ (au_ (jc_loopS (ι := Nat × Value) [] (fun i => i.1 ≤ p.tasks.length) (fun i => (9, In .i64 (i.1 : Int)) :: (5, .cell (.val i.2)) :: [(1, .cell (.val (.pointer (some ⟨bx, 0, none⟩))))]) (fun i => [Bw i.2 (X2 ++ catL tkT (p.tasks.take i.1)), .blk bx 33 p.row]) (fun i => p.tasks.length - i.1) (0, vB) (Nat.zero_le _) ?_ ?_ ?_))))
    · rw [show X2 ++ catL tkT (p.tasks.take 0) = X2 by rw [List.take_zero, catL, ba_nil]]
      exact bc_ 0 r_ (bc_ 0 r_ sub_end)
    · (repeat (first | exact True.intro | refine ⟨rfl, ?_⟩))
    rintro ⟨kt, v⟩ hkt
    dsimp only at hkt ⊢
    by_cases hltt : kt < p.tasks.length
    · have hlt2 : (kt : Int) < ((p.tasks.map Tk.row).length : Int) := by omega
      have hsz := catL_takeS (f := tkT) (l := p.tasks) htz kt
      have hnx := catL_take tkT X2 hltt
      have hmt := List.getElem_mem hltt
      have htk := htz _ hmt
      have hYs : (X2 ++ catL tkT (p.tasks.take kt)).size ≤ 60002000400000 := by
        have : p.tasks.length * 60002000000 ≤ 1000 * 60002000000 := Nat.mul_le_mul_right _ zl
        rw [ByteArray.size_append]; omega
      generalize X2 ++ catL tkT (p.tasks.take kt) = Z0 at hYs hnx ⊢
      obtain ⟨h0, hb, h1, h2, h3, h4, h5⟩ := hd_of (hTk _ hmt)
      have tz := hz.tasks _ hmt
      have zi := tz.inputs
      have zv := tz.vars
      have za := tz.arrays
      have zm := tz.modes
      have zc := tz.claims
      have zb := tz.body
      have hdt := hdk _ hmt
      refine am_ (R_ (M_ r_ (F_ r_ (L_ 1 r_ (o_ r_ (br_ r_ (fun hlen => o_ r_ (bw_ r_ r_ (T_ (aq_ r_ u_ (as_ (al_ (B_ (R_ (F_ r_ (L_ 1 r_ (M_ r_ ?_)))))))))))))))))
      refine o_ r_ (cc_ r_ r_ g_ r_ r_ b_ (o_ r_ (cr_ r_ r_ r_ (o_ r_ (bl_ r_ r_ (fun bl => S_ 0 r_ (T_ ?_)))))))
      generalize p.tasks[kt] = t at *
      have gk := tk1_ok h0
      obtain ⟨g0, g1, g2, g3, g4⟩ := gk
      have := name_size g0
      have := g1.size
      have := g2.size
      have := g3.size
      have := g4.size
      have hts := tk1_size h0
      refine am_ (jc_anyB 25 none rfl k_ k_ (yM_ r_ (yF_ r_ (yL_ 0 r_ (aa_ (fun c => ow_strcat rfl rfl (by simp only [ByteArray.size_append, ba_lit, List.length_cons, List.length_nil] ; omega) p_) (aa_ (fun c => ow_strcat rfl rfl (by simp only [ByteArray.size_append, ba_lit, List.length_cons, List.length_nil] ; omega) p_) (yF_ r_ (yL_ 0 r_ (aa_ (fun c => bm_ r_ (rnumF_c g1) p_) ?_)))))))))
      refine aa_ (fun c => ow_strcat rfl rfl (by simp only [ByteArray.size_append, ba_lit, List.length_cons, List.length_nil] ; omega) p_) (aa_ (fun c => ow_strcat rfl rfl (by simp only [ByteArray.size_append, ba_lit, List.length_cons, List.length_nil] ; omega) p_) (yF_ r_ (yL_ 0 r_ (aa_ (fun c => bm_ r_ (rnumF_c g2) p_) ?_))))
      refine aa_ (fun c => ow_strcat rfl rfl (by simp only [ByteArray.size_append, ba_lit, List.length_cons, List.length_nil] ; omega) p_) (aa_ (fun c => ow_strcat rfl rfl (by simp only [ByteArray.size_append, ba_lit, List.length_cons, List.length_nil] ; omega) p_) (yF_ r_ (yL_ 0 r_ (aa_ (fun c => bm_ r_ (rnumF_c g3) p_) ?_))))
      refine aa_ (fun c => ow_strcat rfl rfl (by simp only [ByteArray.size_append, ba_lit, List.length_cons, List.length_nil] ; omega) p_) (aa_ (fun c => ow_strcat rfl rfl (by simp only [ByteArray.size_append, ba_lit, List.length_cons, List.length_nil] ; omega) p_) (yF_ r_ (yL_ 0 r_ (aa_ (fun c => bm_ r_ (rnumF_c g4) p_) ?_))))
      refine aa_ (fun c => ow_strcat rfl rfl (by simp only [ByteArray.size_append, ba_lit, List.length_cons, List.length_nil] ; omega) p_) (aa_ (fun c => ow_strcat rfl rfl (by simp only [ByteArray.size_append, ba_lit, List.length_cons, List.length_nil] ; omega) p_) (ae_ (afin_none (o_ r_ (ow_appendS 1 rfl rfl rfl rfl rfl rfl rfl rfl (by show _ + (tkHd t).size ≤ _ ; omega) (fun v1 _ => E_ r_ (T_ (am_ ?_))))))))
      rw [show (((((((((((⟨#[116, 97, 115, 107, 32]⟩ : ByteArray) ++ t.name) ++ (⟨#[32, 112, 101, 114, 105, 111, 100, 32]⟩ : ByteArray)) ++ numS t.period) ++ (⟨#[32, 100, 101, 97, 100, 108, 105, 110, 101, 32]⟩ : ByteArray)) ++ numS t.deadline) ++ (⟨#[32, 112, 114, 105, 111, 114, 105, 116, 121, 32]⟩ : ByteArray)) ++ numS t.priority) ++ (⟨#[32, 106, 105, 116, 116, 101, 114, 32]⟩ : ByteArray)) ++ numS t.jitter) ++ (⟨#[10]⟩ : ByteArray)) = tkHd t from rfl]
      generalize hE0 : Z0 ++ tkHd t = Y0 at *
      have hY0 : Y0.size ≤ 60002000400200 := by rw [← hE0, ByteArray.size_append]; omega
      refine jc_cut (ι := Value) [] (fun _ => True) (fun v => (5, .cell (.val v)) :: [(1, .cell (.val (.pointer (some ⟨bx, 0, none⟩)))), (9, In .i64 (kt : Int)), (10, .cell (.val (.pointer (some ⟨bl, 0, none⟩))))]) (fun v => [Bw v (Y0 ++ catL inT (t.inputs)), .blk bl 78 t.row, .blk bx 33 p.row]) ?_ ?_
      · refine R_ (E_ r_ (T_ (au_ ?_)))
        refine jc_loopS (ι := Nat × Value) [] (fun i => i.1 ≤ (t.inputs).length) (fun i => (11, In .i64 (i.1 : Int)) :: (5, .cell (.val i.2)) :: [(1, .cell (.val (.pointer (some ⟨bx, 0, none⟩)))), (9, In .i64 (kt : Int)), (10, .cell (.val (.pointer (some ⟨bl, 0, none⟩))))]) (fun i => [Bw i.2 (Y0 ++ catL inT ((t.inputs).take i.1)), .blk bl 78 t.row, .blk bx 33 p.row]) (fun i => (t.inputs).length - i.1) (0, v1) (Nat.zero_le _) ?_ ?_ ?_
        · rw [show Y0 ++ catL inT ((t.inputs).take 0) = Y0 by rw [List.take_zero, catL, ba_nil]]
          exact bc_ 0 r_ (bc_ 0 r_ (bc_ 0 r_ sub_end))
        · (repeat (first | exact True.intro | refine ⟨rfl, ?_⟩))
        rintro ⟨k, v⟩ hk
        dsimp only at hk ⊢
        have eL : ((t.inputs).map InRow).length = (t.inputs).length := List.length_map _
        by_cases hlt : k < (t.inputs).length
        · have hlt2 : (k : Int) < (((t.inputs).map InRow).length : Int) := by omega
          have hsz := catL_takeS (f := inT) (l := t.inputs) (fun x hx => inT_size (h1 x hx)) k
          have hnx := catL_take inT (Y0) hlt
          have hfs := inT_size (h1 _ (List.getElem_mem hlt))
          have hYs : (Y0 ++ catL inT ((t.inputs).take k)).size ≤ 60002000400200 + 200000 := by rw [ByteArray.size_append]; omega
          generalize Y0 ++ catL inT ((t.inputs).take k) = Z at hYs hnx ⊢
          have gk := inT_ok (h1 _ (List.getElem_mem hlt))
          obtain ⟨g0, g1, g2⟩ := gk
          have := name_size g0
          have := numS_size _ g1.1 g1.2
          have := numS_size _ g2.1 g2.2
          refine am_ (R_ (M_ r_ (F_ r_ (L_ 1 r_ (o_ r_ (br_ r_ (fun hlen => o_ r_ (bw_ r_ r_ (T_ (aq_ r_ u_ (as_ (al_ (B_ (jc_anyB 27 none rfl k_ k_ (yM_ r_ (yF_ r_ (yL_ 1 r_ ?_)))))))))))))))))
          refine yM_ r_ (aa_ (fun c => cc_ r_ r_ g_ r_ r_ b_ p_) (aa_ (fun c => cf_ r_ r_ r_ b_ r_ b_ p_) (aa_ (fun c => cb_ r_ r_ p_) (aa_ (fun c => ow_strcat rfl rfl (by simp only [ByteArray.size_append, ba_lit, List.length_cons, List.length_nil] ; omega) p_) (aa_ (fun c => ow_strcat rfl rfl (by simp only [ByteArray.size_append, ba_lit, List.length_cons, List.length_nil] ; omega) p_) (yF_ r_ (yL_ 1 r_ (yM_ r_ ?_))))))))
          refine aa_ (fun c => cc_ r_ r_ g_ r_ r_ b_ p_) (aa_ (fun c => cf_ r_ r_ r_ b_ r_ b_ p_) (aa_ (fun c => cb_ r_ r_ p_) (aa_ (fun c => bm_ r_ (refNumber_c _ g1) p_) (aa_ (fun c => ow_strcat rfl rfl (by simp only [ByteArray.size_append, ba_lit, List.length_cons, List.length_nil] ; omega) p_) (aa_ (fun c => ow_strcat rfl rfl (by simp only [ByteArray.size_append, ba_lit, List.length_cons, List.length_nil] ; omega) p_) ?_)))))
          refine yF_ r_ (yL_ 1 r_ (yM_ r_ (aa_ (fun c => cc_ r_ r_ g_ r_ r_ b_ p_) (aa_ (fun c => cf_ r_ r_ r_ b_ r_ b_ p_) (aa_ (fun c => cb_ r_ r_ p_) (aa_ (fun c => bm_ r_ (refNumber_c _ g2) p_) (aa_ (fun c => ow_strcat rfl rfl (by simp only [ByteArray.size_append, ba_lit, List.length_cons, List.length_nil] ; omega) p_) ?_)))))))
          refine aa_ (fun c => ow_strcat rfl rfl (by simp only [ByteArray.size_append, ba_lit, List.length_cons, List.length_nil] ; omega) p_) (ae_ (afin_none (o_ r_ (ow_appendS 0 rfl rfl rfl rfl rfl rfl rfl rfl (by show _ + (inT (t.inputs)[k]).size ≤ _ ; omega) (fun v1 _ => E_ r_ (ak_ (ay_ (al_ (an_ (M_ r_ (o_ r_ (bj_ r_ r_ g_ (E_ r_ (ak_ (jq_againS (i := (k, v)) (k + 1, v1) hlt (by dsimp only; omega) ?_ ?_)))))))))))))))
          · dsimp only
            rw [hnx]
            exact bc_ 0 r_ (bc_ 0 r_ (bc_ 0 r_ sub_end))
          · (repeat (first | exact True.intro | refine ⟨rfl, ?_⟩))
        · have hlt2 : ¬ (k : Int) < (((t.inputs).map InRow).length : Int) := by omega
          rw [List.take_of_length_le (show (t.inputs).length ≤ k by omega)]
          refine am_ (R_ (M_ r_ (F_ r_ (L_ 1 r_ (o_ r_ (br_ r_ (fun hlen => o_ r_ (bw_ r_ r_ (T_ (ap_ r_ w_ (av_ (ax_ (ax_ (ba_ (jq_cutS v trivial ?_ ?_)))))))))))))))
          · exact bc_ 0 r_ (bc_ 0 r_ (bc_ 0 r_ sub_end))
          · (repeat (first | exact True.intro | refine ⟨rfl, ?_⟩))
      intro vN0 _
      have hS0 := catL_size (f := inT) (l := t.inputs) (fun x hx => inT_size (h1 x hx))
      generalize hE1 : Y0 ++ catL inT (t.inputs) = Y1 at *
      have hY1 : Y1.size ≤ 60002000600200 := by rw [← hE1, ByteArray.size_append]; omega
      clear hS0 hY0
      refine am_ (jc_cut (ι := Value) [] (fun _ => True) (fun v => (5, .cell (.val v)) :: [(1, .cell (.val (.pointer (some ⟨bx, 0, none⟩)))), (9, In .i64 (kt : Int)), (10, .cell (.val (.pointer (some ⟨bl, 0, none⟩))))]) (fun v => [Bw v (Y1 ++ catL vaT (t.vars)), .blk bl 78 t.row, .blk bx 33 p.row]) ?_ ?_)
      · refine R_ (E_ r_ (T_ (au_ ?_)))
        refine jc_loopS (ι := Nat × Value) [] (fun i => i.1 ≤ (t.vars).length) (fun i => (12, In .i64 (i.1 : Int)) :: (5, .cell (.val i.2)) :: [(1, .cell (.val (.pointer (some ⟨bx, 0, none⟩)))), (9, In .i64 (kt : Int)), (10, .cell (.val (.pointer (some ⟨bl, 0, none⟩))))]) (fun i => [Bw i.2 (Y1 ++ catL vaT ((t.vars).take i.1)), .blk bl 78 t.row, .blk bx 33 p.row]) (fun i => (t.vars).length - i.1) (0, vN0) (Nat.zero_le _) ?_ ?_ ?_
        · rw [show Y1 ++ catL vaT ((t.vars).take 0) = Y1 by rw [List.take_zero, catL, ba_nil]]
          exact bc_ 0 r_ (bc_ 0 r_ (bc_ 0 r_ sub_end))
        · (repeat (first | exact True.intro | refine ⟨rfl, ?_⟩))
        rintro ⟨k, v⟩ hk
        dsimp only at hk ⊢
        have eL : ((t.vars).map Wrow).length = (t.vars).length := List.length_map _
        by_cases hlt : k < (t.vars).length
        · have hlt2 : (k : Int) < (((t.vars).map Wrow).length : Int) := by omega
          have hsz := catL_takeS (f := vaT) (l := t.vars) (fun x hx => vaT_size (h2 x hx)) k
          have hnx := catL_take vaT (Y1) hlt
          have hfs := vaT_size (h2 _ (List.getElem_mem hlt))
          have hYs : (Y1 ++ catL vaT ((t.vars).take k)).size ≤ 60002000600200 + 200000 := by rw [ByteArray.size_append]; omega
          generalize Y1 ++ catL vaT ((t.vars).take k) = Z at hYs hnx ⊢
          have gk := vaT_ok (h2 _ (List.getElem_mem hlt))
          have g0 := gk
          have := name_size g0
          refine am_ (R_ (M_ r_ (F_ r_ (L_ 1 r_ (o_ r_ (br_ r_ (fun hlen => o_ r_ (bw_ r_ r_ (T_ (aq_ r_ u_ (as_ (al_ (B_ (an_ (M_ r_ (F_ r_ (L_ 1 r_ ?_)))))))))))))))))
          refine M_ r_ (o_ r_ (cc_ r_ r_ g_ r_ r_ b_ (o_ r_ (cb_ r_ r_ (o_ r_ (ow_strcat rfl rfl (by simp only [ByteArray.size_append, ba_lit, List.length_cons, List.length_nil] ; omega) (o_ r_ (ow_strcat rfl rfl (by simp only [ByteArray.size_append, ba_lit, List.length_cons, List.length_nil] ; omega) (o_ r_ (ow_appendS 0 rfl rfl rfl rfl rfl rfl rfl rfl (by show _ + (vaT (t.vars)[k]).size ≤ _ ; omega) (fun v1 _ => ?_)))))))))))
          refine E_ r_ (ak_ (ay_ (al_ (an_ (M_ r_ (o_ r_ (bj_ r_ r_ g_ (E_ r_ (ak_ (jq_againS (i := (k, v)) (k + 1, v1) hlt (by dsimp only; omega) ?_ ?_))))))))))
          · dsimp only
            rw [hnx]
            exact bc_ 0 r_ (bc_ 0 r_ (bc_ 0 r_ sub_end))
          · (repeat (first | exact True.intro | refine ⟨rfl, ?_⟩))
        · have hlt2 : ¬ (k : Int) < (((t.vars).map Wrow).length : Int) := by omega
          rw [List.take_of_length_le (show (t.vars).length ≤ k by omega)]
          refine am_ (R_ (M_ r_ (F_ r_ (L_ 1 r_ (o_ r_ (br_ r_ (fun hlen => o_ r_ (bw_ r_ r_ (T_ (ap_ r_ w_ (av_ (ax_ (ax_ (ba_ (jq_cutS v trivial ?_ ?_)))))))))))))))
          · exact bc_ 0 r_ (bc_ 0 r_ (bc_ 0 r_ sub_end))
          · (repeat (first | exact True.intro | refine ⟨rfl, ?_⟩))
      intro vN1 _
      have hS1 := catL_size (f := vaT) (l := t.vars) (fun x hx => vaT_size (h2 x hx))
      generalize hE2 : Y1 ++ catL vaT (t.vars) = Y2 at *
      have hY2 : Y2.size ≤ 60002000800200 := by rw [← hE2, ByteArray.size_append]; omega
      clear hS1 hY1
      refine am_ (jc_cut (ι := Value) [] (fun _ => True) (fun v => (5, .cell (.val v)) :: [(1, .cell (.val (.pointer (some ⟨bx, 0, none⟩)))), (9, In .i64 (kt : Int)), (10, .cell (.val (.pointer (some ⟨bl, 0, none⟩))))]) (fun v => [Bw v (Y2 ++ catL arT (t.arrays)), .blk bl 78 t.row, .blk bx 33 p.row]) ?_ ?_)
      · refine R_ (E_ r_ (T_ (au_ ?_)))
        refine jc_loopS (ι := Nat × Value) [] (fun i => i.1 ≤ (t.arrays).length) (fun i => (13, In .i64 (i.1 : Int)) :: (5, .cell (.val i.2)) :: [(1, .cell (.val (.pointer (some ⟨bx, 0, none⟩)))), (9, In .i64 (kt : Int)), (10, .cell (.val (.pointer (some ⟨bl, 0, none⟩))))]) (fun i => [Bw i.2 (Y2 ++ catL arT ((t.arrays).take i.1)), .blk bl 78 t.row, .blk bx 33 p.row]) (fun i => (t.arrays).length - i.1) (0, vN1) (Nat.zero_le _) ?_ ?_ ?_
        · rw [show Y2 ++ catL arT ((t.arrays).take 0) = Y2 by rw [List.take_zero, catL, ba_nil]]
          exact bc_ 0 r_ (bc_ 0 r_ (bc_ 0 r_ sub_end))
        · (repeat (first | exact True.intro | refine ⟨rfl, ?_⟩))
        rintro ⟨k, v⟩ hk
        dsimp only at hk ⊢
        have eL : ((t.arrays).map ArRow).length = (t.arrays).length := List.length_map _
        by_cases hlt : k < (t.arrays).length
        · have hlt2 : (k : Int) < (((t.arrays).map ArRow).length : Int) := by omega
          have hsz := catL_takeS (f := arT) (l := t.arrays) (fun x hx => arT_size (h3 x hx)) k
          have hnx := catL_take arT (Y2) hlt
          have hfs := arT_size (h3 _ (List.getElem_mem hlt))
          have hYs : (Y2 ++ catL arT ((t.arrays).take k)).size ≤ 60002000800200 + 200000 := by rw [ByteArray.size_append]; omega
          generalize Y2 ++ catL arT ((t.arrays).take k) = Z at hYs hnx ⊢
          have gk := arT_ok (h3 _ (List.getElem_mem hlt))
          obtain ⟨g0, g1⟩ := gk
          have := name_size g0
          have := g1.size
          refine am_ (R_ (M_ r_ (F_ r_ (L_ 1 r_ (o_ r_ (br_ r_ (fun hlen => o_ r_ (bw_ r_ r_ (T_ (aq_ r_ u_ (as_ (al_ (B_ (jc_anyB 18 none rfl k_ k_ (yM_ r_ (yF_ r_ (yL_ 1 r_ ?_)))))))))))))))))
          refine yM_ r_ (aa_ (fun c => cc_ r_ r_ g_ r_ r_ b_ p_) (aa_ (fun c => cf_ r_ r_ r_ b_ r_ b_ p_) (aa_ (fun c => cb_ r_ r_ p_) (aa_ (fun c => ow_strcat rfl rfl (by simp only [ByteArray.size_append, ba_lit, List.length_cons, List.length_nil] ; omega) p_) (aa_ (fun c => ow_strcat rfl rfl (by simp only [ByteArray.size_append, ba_lit, List.length_cons, List.length_nil] ; omega) p_) (yF_ r_ (yL_ 1 r_ (yM_ r_ ?_))))))))
          refine aa_ (fun c => cc_ r_ r_ g_ r_ r_ b_ p_) (aa_ (fun c => cf_ r_ r_ r_ b_ r_ b_ p_) (aa_ (fun c => cb_ r_ r_ p_) (aa_ (fun c => bm_ r_ (rnumF_c g1) p_) (aa_ (fun c => ow_strcat rfl rfl (by simp only [ByteArray.size_append, ba_lit, List.length_cons, List.length_nil] ; omega) p_) (aa_ (fun c => ow_strcat rfl rfl (by simp only [ByteArray.size_append, ba_lit, List.length_cons, List.length_nil] ; omega) p_) (ae_ ?_))))))
          refine afin_none (o_ r_ (ow_appendS 0 rfl rfl rfl rfl rfl rfl rfl rfl (by show _ + (arT (t.arrays)[k]).size ≤ _ ; omega) (fun v1 _ => E_ r_ (ak_ (ay_ (al_ (an_ (M_ r_ (o_ r_ (bj_ r_ r_ g_ (E_ r_ (ak_ (jq_againS (i := (k, v)) (k + 1, v1) hlt (by dsimp only; omega) ?_ ?_)))))))))))))
          · dsimp only
            rw [hnx]
            exact bc_ 0 r_ (bc_ 0 r_ (bc_ 0 r_ sub_end))
          · (repeat (first | exact True.intro | refine ⟨rfl, ?_⟩))
        · have hlt2 : ¬ (k : Int) < (((t.arrays).map ArRow).length : Int) := by omega
          rw [List.take_of_length_le (show (t.arrays).length ≤ k by omega)]
          refine am_ (R_ (M_ r_ (F_ r_ (L_ 1 r_ (o_ r_ (br_ r_ (fun hlen => o_ r_ (bw_ r_ r_ (T_ (ap_ r_ w_ (av_ (ax_ (ax_ (ba_ (jq_cutS v trivial ?_ ?_)))))))))))))))
          · exact bc_ 0 r_ (bc_ 0 r_ (bc_ 0 r_ sub_end))
          · (repeat (first | exact True.intro | refine ⟨rfl, ?_⟩))
      intro vN2 _
      have hS2 := catL_size (f := arT) (l := t.arrays) (fun x hx => arT_size (h3 x hx))
      generalize hE3 : Y2 ++ catL arT (t.arrays) = Y3 at *
      have hY3 : Y3.size ≤ 60002001000200 := by rw [← hE3, ByteArray.size_append]; omega
      clear hS2 hY2
      refine am_ (jc_cut (ι := Value) [] (fun _ => True) (fun v => (5, .cell (.val v)) :: [(1, .cell (.val (.pointer (some ⟨bx, 0, none⟩)))), (9, In .i64 (kt : Int)), (10, .cell (.val (.pointer (some ⟨bl, 0, none⟩))))]) (fun v => [Bw v (Y3 ++ catL mdT (t.modes)), .blk bl 78 t.row, .blk bx 33 p.row]) ?_ ?_)
      · refine R_ (E_ r_ (T_ (au_ ?_)))
        refine jc_loopS (ι := Nat × Value) [] (fun i => i.1 ≤ (t.modes).length) (fun i => (14, In .i64 (i.1 : Int)) :: (5, .cell (.val i.2)) :: [(1, .cell (.val (.pointer (some ⟨bx, 0, none⟩)))), (9, In .i64 (kt : Int)), (10, .cell (.val (.pointer (some ⟨bl, 0, none⟩))))]) (fun i => [Bw i.2 (Y3 ++ catL mdT ((t.modes).take i.1)), .blk bl 78 t.row, .blk bx 33 p.row]) (fun i => (t.modes).length - i.1) (0, vN2) (Nat.zero_le _) ?_ ?_ ?_
        · rw [show Y3 ++ catL mdT ((t.modes).take 0) = Y3 by rw [List.take_zero, catL, ba_nil]]
          exact bc_ 0 r_ (bc_ 0 r_ (bc_ 0 r_ sub_end))
        · (repeat (first | exact True.intro | refine ⟨rfl, ?_⟩))
        rintro ⟨k, v⟩ hk
        dsimp only at hk ⊢
        have eL : ((t.modes).map MdRow).length = (t.modes).length := List.length_map _
        by_cases hlt : k < (t.modes).length
        · have hlt2 : (k : Int) < (((t.modes).map MdRow).length : Int) := by omega
          have hsz := catL_takeS (f := mdT) (l := t.modes) (fun x hx => mdT_size (h4 x hx)) k
          have hnx := catL_take mdT (Y3) hlt
          have hfs := mdT_size (h4 _ (List.getElem_mem hlt))
          have hYs : (Y3 ++ catL mdT ((t.modes).take k)).size ≤ 60002001000200 + 200000 := by rw [ByteArray.size_append]; omega
          generalize Y3 ++ catL mdT ((t.modes).take k) = Z at hYs hnx ⊢
          have gk := mdT_ok (h4 _ (List.getElem_mem hlt))
          obtain ⟨g0, g1, g2, g3⟩ := gk
          have := name_size g0
          have := name_size g1
          have := numS_size _ g2.1 g2.2
          have := numS_size _ g3.1 g3.2
          refine am_ (R_ (M_ r_ (F_ r_ (L_ 1 r_ (o_ r_ (br_ r_ (fun hlen => o_ r_ (bw_ r_ r_ (T_ (aq_ r_ u_ (as_ (al_ (B_ (R_ (F_ r_ (L_ 1 r_ (M_ r_ ?_)))))))))))))))))
          refine o_ r_ (cc_ r_ r_ g_ r_ r_ b_ (o_ r_ (cr_ r_ r_ r_ (o_ r_ (bl_ r_ r_ (fun bl => S_ 0 r_ (T_ (jc_anyB 19 none rfl k_ k_ (yM_ r_ (yF_ r_ (yL_ 0 r_ (aa_ (fun c => ow_strcat rfl rfl (by simp only [ByteArray.size_append, ba_lit, List.length_cons, List.length_nil] ; omega) p_) (aa_ (fun c => ow_strcat rfl rfl (by simp only [ByteArray.size_append, ba_lit, List.length_cons, List.length_nil] ; omega) p_) ?_)))))))))))))
          refine yF_ r_ (yL_ 0 r_ (aa_ (fun c => ow_strcat rfl rfl (by simp only [ByteArray.size_append, ba_lit, List.length_cons, List.length_nil] ; omega) p_) (aa_ (fun c => ow_strcat rfl rfl (by simp only [ByteArray.size_append, ba_lit, List.length_cons, List.length_nil] ; omega) p_) (yF_ r_ (yL_ 0 r_ (aa_ (fun c => bm_ r_ (refNumber_c _ g2) p_) ?_))))))
          refine aa_ (fun c => ow_strcat rfl rfl (by simp only [ByteArray.size_append, ba_lit, List.length_cons, List.length_nil] ; omega) p_) (aa_ (fun c => ow_strcat rfl rfl (by simp only [ByteArray.size_append, ba_lit, List.length_cons, List.length_nil] ; omega) p_) (yF_ r_ (yL_ 0 r_ (aa_ (fun c => bm_ r_ (refNumber_c _ g3) p_) ?_))))
          refine aa_ (fun c => ow_strcat rfl rfl (by simp only [ByteArray.size_append, ba_lit, List.length_cons, List.length_nil] ; omega) p_) (aa_ (fun c => ow_strcat rfl rfl (by simp only [ByteArray.size_append, ba_lit, List.length_cons, List.length_nil] ; omega) p_) (ae_ (afin_none (o_ r_ (ow_appendS 1 rfl rfl rfl rfl rfl rfl rfl rfl (by show _ + (mdT (t.modes)[k]).size ≤ _ ; omega) (fun v1 _ => E_ r_ (ak_ (ay_ (al_ ?_)))))))))
          refine an_ (M_ r_ (o_ r_ (bj_ r_ r_ g_ (E_ r_ (ak_ (jq_againS (i := (k, v)) (k + 1, v1) hlt (by dsimp only; omega) ?_ ?_))))))
          · dsimp only
            rw [hnx]
            exact bc_ 0 r_ (bc_ 1 r_ (bc_ 1 r_ sub_end))
          · (repeat (first | exact True.intro | refine ⟨rfl, ?_⟩))
        · have hlt2 : ¬ (k : Int) < (((t.modes).map MdRow).length : Int) := by omega
          rw [List.take_of_length_le (show (t.modes).length ≤ k by omega)]
          refine am_ (R_ (M_ r_ (F_ r_ (L_ 1 r_ (o_ r_ (br_ r_ (fun hlen => o_ r_ (bw_ r_ r_ (T_ (ap_ r_ w_ (av_ (ax_ (ax_ (ba_ (jq_cutS v trivial ?_ ?_)))))))))))))))
          · exact bc_ 0 r_ (bc_ 0 r_ (bc_ 0 r_ sub_end))
          · (repeat (first | exact True.intro | refine ⟨rfl, ?_⟩))
      intro vN3 _
      have hS3 := catL_size (f := mdT) (l := t.modes) (fun x hx => mdT_size (h4 x hx))
      generalize hE4 : Y3 ++ catL mdT (t.modes) = Y4 at *
      have hY4 : Y4.size ≤ 60002001200200 := by rw [← hE4, ByteArray.size_append]; omega
      clear hS3 hY3
      refine am_ (jc_cut (ι := Value) [] (fun _ => True) (fun v => (5, .cell (.val v)) :: [(1, .cell (.val (.pointer (some ⟨bx, 0, none⟩)))), (9, In .i64 (kt : Int)), (10, .cell (.val (.pointer (some ⟨bl, 0, none⟩))))]) (fun v => [Bw v (Y4 ++ catL clT (t.claims)), .blk bl 78 t.row, .blk bx 33 p.row]) ?_ ?_)
      · refine R_ (E_ r_ (T_ (au_ ?_)))
        refine jc_loopS (ι := Nat × Value) [] (fun i => i.1 ≤ (t.claims).length) (fun i => (16, In .i64 (i.1 : Int)) :: (5, .cell (.val i.2)) :: [(1, .cell (.val (.pointer (some ⟨bx, 0, none⟩)))), (9, In .i64 (kt : Int)), (10, .cell (.val (.pointer (some ⟨bl, 0, none⟩))))]) (fun i => [Bw i.2 (Y4 ++ catL clT ((t.claims).take i.1)), .blk bl 78 t.row, .blk bx 33 p.row]) (fun i => (t.claims).length - i.1) (0, vN3) (Nat.zero_le _) ?_ ?_ ?_
        · rw [show Y4 ++ catL clT ((t.claims).take 0) = Y4 by rw [List.take_zero, catL, ba_nil]]
          exact bc_ 0 r_ (bc_ 0 r_ (bc_ 0 r_ sub_end))
        · (repeat (first | exact True.intro | refine ⟨rfl, ?_⟩))
        rintro ⟨k, v⟩ hk
        dsimp only at hk ⊢
        have eL : ((t.claims).map ClRow).length = (t.claims).length := List.length_map _
        by_cases hlt : k < (t.claims).length
        · have hlt2 : (k : Int) < (((t.claims).map ClRow).length : Int) := by omega
          have hsz := catL_takeS (f := clT) (l := t.claims) (fun x hx => clT_size (h5 x hx)) k
          have hnx := catL_take clT (Y4) hlt
          have hfs := clT_size (h5 _ (List.getElem_mem hlt))
          have hYs : (Y4 ++ catL clT ((t.claims).take k)).size ≤ 60002001200200 + 200000 := by rw [ByteArray.size_append]; omega
          generalize Y4 ++ catL clT ((t.claims).take k) = Z at hYs hnx ⊢
          have gk := clT_ok (h5 _ (List.getElem_mem hlt))
          obtain ⟨g0, g1⟩ := gk
          have := g0.size
          have := g1.size
          refine am_ (R_ (M_ r_ (F_ r_ (L_ 1 r_ (o_ r_ (br_ r_ (fun hlen => o_ r_ (bw_ r_ r_ (T_ (aq_ r_ u_ (as_ (al_ (B_ (jc_anyB 19 none rfl k_ k_ (yM_ r_ (yF_ r_ (yL_ 1 r_ ?_)))))))))))))))))
          refine yM_ r_ (aa_ (fun c => cc_ r_ r_ g_ r_ r_ b_ p_) (aa_ (fun c => cf_ r_ r_ r_ b_ r_ b_ p_) (aa_ (fun c => cb_ r_ r_ p_) (aa_ (fun c => bm_ r_ (rnumF_c g0) p_) (aa_ (fun c => ow_strcat rfl rfl (by simp only [ByteArray.size_append, ba_lit, List.length_cons, List.length_nil] ; omega) p_) (aa_ (fun c => ow_strcat rfl rfl (by simp only [ByteArray.size_append, ba_lit, List.length_cons, List.length_nil] ; omega) p_) ?_))))))
          refine yF_ r_ (yL_ 1 r_ (yM_ r_ (aa_ (fun c => cc_ r_ r_ g_ r_ r_ b_ p_) (aa_ (fun c => cf_ r_ r_ r_ b_ r_ b_ p_) (aa_ (fun c => cb_ r_ r_ p_) (aa_ (fun c => bm_ r_ (rnumF_c g1) p_) (aa_ (fun c => ow_strcat rfl rfl (by simp only [ByteArray.size_append, ba_lit, List.length_cons, List.length_nil] ; omega) p_) ?_)))))))
          refine aa_ (fun c => ow_strcat rfl rfl (by simp only [ByteArray.size_append, ba_lit, List.length_cons, List.length_nil] ; omega) p_) (ae_ (afin_none (o_ r_ (ow_appendS 0 rfl rfl rfl rfl rfl rfl rfl rfl (by show _ + (clT (t.claims)[k]).size ≤ _ ; omega) (fun v1 _ => E_ r_ (ak_ (ay_ (al_ (an_ (M_ r_ (o_ r_ (bj_ r_ r_ g_ (E_ r_ (ak_ (jq_againS (i := (k, v)) (k + 1, v1) hlt (by dsimp only; omega) ?_ ?_)))))))))))))))
          · dsimp only
            rw [hnx]
            exact bc_ 0 r_ (bc_ 0 r_ (bc_ 0 r_ sub_end))
          · (repeat (first | exact True.intro | refine ⟨rfl, ?_⟩))
        · have hlt2 : ¬ (k : Int) < (((t.claims).map ClRow).length : Int) := by omega
          rw [List.take_of_length_le (show (t.claims).length ≤ k by omega)]
          refine am_ (R_ (M_ r_ (F_ r_ (L_ 1 r_ (o_ r_ (br_ r_ (fun hlen => o_ r_ (bw_ r_ r_ (T_ (ap_ r_ w_ (av_ (ax_ (ax_ (ba_ (jq_cutS v trivial ?_ ?_)))))))))))))))
          · exact bc_ 0 r_ (bc_ 0 r_ (bc_ 0 r_ sub_end))
          · (repeat (first | exact True.intro | refine ⟨rfl, ?_⟩))
      intro vN4 _
      have hS4 := catL_size (f := clT) (l := t.claims) (fun x hx => clT_size (h5 x hx))
      generalize hE5 : Y4 ++ catL clT (t.claims) = Y5 at *
      have hY5 : Y5.size ≤ 60002001400200 := by rw [← hE5, ByteArray.size_append]; omega
      clear hS4 hY4
      have hfine := fine_of 8 20 t.body (by omega) hb hdt
      have hbs := sts_size (sp := Ksp) hfine (by show 2 + 2 * 8 ≤ 100; omega)
      have hX1 : (Y5 ++ (⟨#[98, 111, 100, 121, 10]⟩ : ByteArray)).size = Y5.size + 5 := by rw [ByteArray.size_append]; rfl
      have con1 := fun v => rbody_c 8 t.body Ksp (Y5 ++ (⟨#[98, 111, 100, 121, 10]⟩ : ByteArray)) v hfine (by show 2 + 2 * 8 ≤ 100; omega) (by omega)
      have hX3 : ((Y5 ++ (⟨#[98, 111, 100, 121, 10]⟩ : ByteArray)) ++ stsT Ksp t.body).size = (Y5 ++ (⟨#[98, 111, 100, 121, 10]⟩ : ByteArray)).size + (stsT Ksp t.body).size := ByteArray.size_append ..
      refine R_ (M_ r_ (o_ r_ (ow_appendS 0 rfl rfl rfl rfl rfl rfl rfl rfl (by simp only [ba_lit, List.length_cons, List.length_nil] ; omega) (fun v1 _ => E_ r_ (T_ (R_ (M_ r_ (F_ r_ (L_ 1 r_ (o_ r_ (bt_ [0] rfl rfl (con1 _) (fun pp hpp => E_ r_ (T_ (an_ (M_ r_ (o_ r_ (ow_appendS 0 rfl rfl rfl rfl rfl rfl rfl rfl (by simp only [ba_lit, List.length_cons, List.length_nil] ; omega) (fun v1 _ => E_ r_ ?_))))))))))))))))))
      refine ak_ (ay_ (al_ (an_ (M_ r_ (o_ r_ (bj_ r_ r_ g_ (E_ r_ (ak_ (jq_againS (i := (kt, v)) (kt + 1, v1) hltt (by dsimp only; omega) ?_ ?_)))))))))
      · dsimp only
        rw [hnx, show Z0 ++ tkT t = ((Y5 ++ (⟨#[98, 111, 100, 121, 10]⟩ : ByteArray)) ++ stsT Ksp t.body) ++ (⟨#[101, 110, 100, 10]⟩ : ByteArray) by rw [← hE5, ← hE4, ← hE3, ← hE2, ← hE1, ← hE0]; simp only [tkT, ByteArray.append_assoc]]
        exact bc_ 0 r_ (bc_ 1 r_ sub_end)
      · (repeat (first | exact True.intro | refine ⟨rfl, ?_⟩))
    · have hlt2 : ¬ (kt : Int) < ((p.tasks.map Tk.row).length : Int) := by omega
      rw [List.take_of_length_le (show p.tasks.length ≤ kt by omega)]
      refine am_ (R_ (M_ r_ (F_ r_ (L_ 1 r_ (o_ r_ (br_ r_ (fun hlen => o_ r_ (bw_ r_ r_ (T_ (ap_ r_ w_ (av_ (ax_ (ax_ (ba_ (jq_cutS v trivial ?_ ?_)))))))))))))))
      · exact bc_ 0 r_ (bc_ 0 r_ sub_end)
      · (repeat (first | exact True.intro | refine ⟨rfl, ?_⟩))
  intro vC _
  have hprog : X2 ++ catL tkT p.tasks = progT p := by rw [← hX2]; rfl
  rw [hprog]
  have hPs : (progT p).size ≤ 60002000400000 := by
    have h1 := catL_size (f := tkT) htz
    have : p.tasks.length * 60002000000 ≤ 1000 * 60002000000 := Nat.mul_le_mul_right _ zl
    rw [← hprog, ByteArray.size_append]; omega
  have ePn : ((bytesI (progT p)).map Brow).length = (progT p).size := by rw [List.length_map, bytesI_len]
  have e0 : progF p = if 8192 < (progT p).size then (⟨#[]⟩, 4) else (progT p, 0) := by unfold progF; rw [if_neg hokb, if_neg (by rw [hdeep]; simp)]
  by_cases hbig : 8192 < (progT p).size
  · have hbig2 : (8192 : Int) < (((bytesI (progT p)).map Brow).length : Int) := by omega
    rw [if_pos hbig] at e0
    refine am_ (R_ (M_ r_ (o_ r_ (cw_ 0 r_ r_ (fun hlen => o_ r_ (bz_ r_ r_ (T_ (aq_ r_ u_ (R_ (E_ r_ (E_ r_ (T_ (ar_ (aw_ (jq_ret2 rfl rfl rfl [] rfl (fun K h => by rw [e0] at h; exact h))))))))))))))))
  · have hbig2 : ¬ (8192 : Int) < (((bytesI (progT p)).map Brow).length : Int) := by omega
    rw [if_neg hbig] at e0
    refine am_ (R_ (M_ r_ (o_ r_ (cw_ 0 r_ r_ (fun hlen => o_ r_ (bz_ r_ r_ (T_ (ap_ r_ w_ (as_ (al_ (R_ (M_ r_ (jl_freeze 264 0 rfl rfl (by rw [hc]; simp [hb]) (o_ r_ (ow_bytesToString r_ r_ r_ ?_)))))))))))))))
    rw [bytesOf_bytesI]
    refine E_ r_ (E_ r_ (T_ (ar_ (jq_ret2 rfl rfl rfl [] rfl (fun K h => by rw [e0] at h; exact h)))))
end Go.Proofs.YtlniadfidfmckaaDoor
end

section
namespace Go.Proofs.YtlniadfidfmckaaDoor
open Go.Vc
theorem con_conseq {P : Program} [Gl P] {f : FuncId} {ss : List S} {Hin : List Ch} {post post' : (S → List Ch → Prop) → Prop} (hp : ∀ K, post' K → post K) (h : Con P f ss Hin post) : Con P f ss Hin post' := by
  intro vs w A h1 h2 h3 h4 h5 h6
  refine (h vs w A h1 h2 h3 h4 h5 h6).mono ?_
  rintro e w' ⟨v, s, Ho, he, hK, hs, hrest⟩
  exact ⟨v, s, Ho, he, fun K h => hK K (hp K h), hs, hrest⟩
attribute [local irreducible] JL JC JQ OpWp Con ConN
theorem gNewT_c (L : List Int) : Con Tryd.prog 8 [.cell (.list (L.map Irow))] [] (fun K => ∀ b : Nat, True → K (Ptr b) [Dk b L]) := con_conseq (fun _ h b => h b trivial) (gNew_c L)
end Go.Proofs.YtlniadfidfmckaaDoor
end

section
namespace Go.Proofs.YtlniadfidfmckaaDoor
open Go.Vc
attribute [local irreducible] JL JC JQ OpWp Con ConN
attribute [local irreducible] progT StG BlG
attribute [local irreducible] progF

theorem TaskG.sz {Sh : List Shd} {nm : ByteArray} {W : Int} {t : Tk} (h : TaskG Sh nm W t) : TkSz t := by
  obtain ⟨lab, l, n, hl, hb⟩ := h.body
  have h1 := body_szs hl
  have h2 := Sm.szs_take l n
  refine ⟨by have := h.inputs.1; omega, by rw [h.vars]; decide, ?_, ?_, ?_, by rw [hb]; omega⟩
  · rcases h.arrays with e | ⟨k, _, e⟩ <;> rw [e] <;> simp
  · rcases h.modes with e | ⟨x, lo, hi, _, _, e⟩ <;> rw [e] <;> simp
  · rcases h.claims with e | ⟨a, b, _, _, _, e⟩ <;> rw [e] <;> simp
theorem PgG.sz {T : Nat} {W : Int} {p : Pg} (hT : T ≤ 1000) (h : PgG T W p) : PgSz p := by
  refine ⟨?_, ?_, by rw [h.len]; exact hT, ?_⟩
  · obtain ⟨n, hn, e⟩ := h.res
    rw [e]
    rcases n with _ | _ | n <;> simp [RSl]
  · rcases h.shared with e | ⟨r, k, _, _, e⟩ <;> rw [e] <;> simp
  · intro t ht
    obtain ⟨i, hi, rfl⟩ := List.mem_iff_getElem.1 ht
    exact (h.tasks i hi).sz
theorem Text_c (p : Pg) (hz : PgSz p) : Con Tryd.prog 6 [.row p.row] [] (fun K => K (.tup [Str (progF p).1, In .i64 (progF p).2]) []) := by
  refine con_intro Tryd.func6 rfl rfl (Nat.le_of_ble_eq_true rfl) (fun c hc => R_ (o_ r_ (ci_ r_ (fun bx => E_ r_ (E_ r_ (T_ (R_ (A_ 0 r_ (o_ r_ (bm_ r_ (rProg_c p hz) (X_ r_ (X_ r_ (E_ r_ (E_ r_ (T_ (ar_ (jq_ret2 rfl rfl rfl [] rfl (fun K h => h))))))))))))))))))
end Go.Proofs.YtlniadfidfmckaaDoor
end

section
namespace Go.Proofs.YtlniadfidfmckaaDoor
open Go.Vc
set_option maxHeartbeats 1000000

theorem numS_dig {n : Int} {k : Nat} (h0 : 0 ≤ n) (hk : 1 ≤ k) (h : n < (10 ^ k : Nat)) : (numS n).size ≤ k := by
  rw [numS_nonneg n h0, decS_size]
  exact nDigits_le k n.toNat hk (by omega)
theorem numS_11 {n : Int} (h0 : -2147483647 ≤ n) (h1 : n ≤ 2147483647) : (numS n).size ≤ 11 := by
  by_cases hn : n < 0
  · rw [numS_neg n hn, ByteArray.size_append, one_size]
    have := decS_le (-n).toNat (by omega)
    omega
  · rw [numS_nonneg n (by omega)]
    have := decS_le n.toNat (by omega)
    omega
theorem ExG.tz {V U : List ByteArray} (hV : ∀ s ∈ V, s.size ≤ 3) (hU : ∀ s ∈ U, s.size ≤ 3) : ∀ {d : Nat} {t : T}, ExG V U d t → ((textT t).size : Int) ≤ czT t := by
  intro d t h
  induction h with
  | nu d n h =>
    have h11 := numS_11 h.1 h.2
    unfold textT czT
    by_cases h9 : 0 ≤ n ∧ n ≤ 9
    · have := numS_dig (k := 1) h9.1 (by omega) (by show n < 10; omega)
      rw [if_pos h9, if_neg (by omega)]
      omega
    · rw [if_neg h9]
      split
      · rw [ByteArray.size_append, ByteArray.size_append, one_size, one_size]; omega
      · omega
  | nm d s h => have := hV s h; unfold textT czT; omega
  | ix d s t h _ ih =>
    have := hU s h
    unfold textT czT
    rw [ByteArray.size_append, ByteArray.size_append, ByteArray.size_append, one_size, one_size]
    omega
  | bn d o a b ho _ _ ia ib =>
    have := sign_size ho
    unfold textT czT
    simp only [ByteArray.size_append, one_size]
    omega
/-- The size of a statement's text, wherever it stands. -/
def Tz (d : Nat) (s : Sm) : Prop := ∀ sp : ByteArray, sp.size + 2 * d ≤ 8 → ((stT sp s).size : Int) ≤ s.cz
theorem sts_tz {d : Nat} {sp : ByteArray} (hsp : sp.size + 2 * d ≤ 8) : ∀ {l : List Sm}, (∀ s ∈ l, Tz d s) → ((stsT sp l).size : Int) ≤ Sm.czs l
  | [], _ => by rw [stsT, Sm.czs]; exact Int.le_refl _
  | s :: l, h => by
    have h1 := h s (by simp) sp hsp
    have h2 := sts_tz hsp (l := l) (fun t ht => h t (by simp [ht]))
    rw [stsT, Sm.czs, ByteArray.size_append]
    omega
theorem hdT_3 (v i x m lb t e) : hdT (.mk 3 v i x m lb t e) = (((Kif2 ++ tx1 x) ++ Klab) ++ numS lb) ++ Kopen := by simp [hdT, Sm.kind, Sm.value, Sm.label]
theorem hdT_4 (v i x m lb t e) : hdT (.mk 4 v i x m lb t e) = (((((Kwh ++ tx1 x) ++ Kmx) ++ numS m) ++ Klab) ++ numS lb) ++ Kopen := by simp [hdT, Sm.kind, Sm.value, Sm.label, Sm.max]
theorem hdT_5 (v i x m lb t e) : hdT (.mk 5 v i x m lb t e) = (Klk ++ v) ++ Kopen := by simp [hdT, Sm.kind, Sm.name]
theorem node_sz {sp : ByteArray} {s : Sm} (h : ¬ (s.kind = 1 ∨ s.kind = 2)) : (stT sp s).size ≤ sp.size + (hdT s).size + (stsT (sp ++ Ksp) s.thn).size + (sp.size + 9 + (stsT (sp ++ Ksp) s.els).size) + (sp.size + 2) ∧ (s.els = [] → (stT sp s).size = sp.size + (hdT s).size + (stsT (sp ++ Ksp) s.thn).size + (sp.size + 2)) := by
  rw [stT_node sp h]
  split
  · simp only [ByteArray.size_append, show Kclose.size = 2 from rfl, show (⟨#[]⟩ : ByteArray).size = 0 from rfl]
    exact ⟨by omega, fun _ => by omega⟩
  · simp only [ByteArray.size_append, show Kclose.size = 2 from rfl, show Kelse2.size = 9 from rfl]
    exact ⟨by omega, fun h => absurd h (by assumption)⟩
theorem tz_set {d : Nat} {v : ByteArray} {x : T} (hv : v.size ≤ 3) (hx : ((textT x).size : Int) ≤ czT x) : Tz d (.mk 1 v [] [x] 0 0 [] []) := by
  intro sp hsp
  rw [stT_leaf sp (.inl rfl), cz_1]
  simp only [hdT, Sm.kind, Sm.name, Sm.value, tx1, if_true, ByteArray.size_append, show Kst.size = 3 from rfl, show Knl.size = 1 from rfl, czTs, Sm.czs]
  omega
theorem tz_store {d : Nat} {v : ByteArray} {y x : T} (hv : v.size ≤ 3) (hy : ((textT y).size : Int) ≤ czT y) (hx : ((textT x).size : Int) ≤ czT x) : Tz d (.mk 2 v [y] [x] 0 0 [] []) := by
  intro sp hsp
  rw [stT_leaf sp (.inr rfl), cz_2]
  simp only [hdT, Sm.kind, Sm.name, Sm.value, Sm.index, tx1]
  rw [if_neg (by decide), if_pos trivial]
  simp only [ByteArray.size_append, show Kx1.size = 1 from rfl, show Kx2.size = 4 from rfl, show Knl.size = 1 from rfl, czTs, Sm.czs]
  omega
theorem tz_if {d : Nat} {x : T} {lb : Int} {t e : List Sm} (hx : ((textT x).size : Int) ≤ czT x) (hl : 0 ≤ lb ∧ lb ≤ 12) (ht : ∀ s ∈ t, Tz d s) (he : ∀ s ∈ e, Tz d s) : Tz (d + 1) (.mk 3 E0 [] [x] 0 lb t e) := by
  intro sp hsp
  have hs2 : (sp ++ Ksp).size + 2 * d ≤ 8 := by rw [ByteArray.size_append, show Ksp.size = 2 from rfl]; omega
  have h1 := sts_tz hs2 ht
  have h2 := sts_tz hs2 he
  have h3 := numS_dig (k := 2) hl.1 (by omega) (by show lb < 100; omega)
  have h4 := Sm.czs_nn e
  have h5 := (node_sz (sp := sp) (s := .mk 3 E0 [] [x] 0 lb t e) (by show ¬ ((3 : Int) = 1 ∨ (3 : Int) = 2); decide)).1
  rw [cz_3]
  simp only [hdT_3, Sm.thn, Sm.els, tx1, ByteArray.size_append, show Kif2.size = 3 from rfl, show Klab.size = 7 from rfl, show Kopen.size = 3 from rfl] at h5
  simp only [czTs]
  omega
theorem tz_while {d : Nat} {x : T} {mx lb : Int} {t : List Sm} (hx : ((textT x).size : Int) ≤ czT x) (hm : 0 ≤ mx ∧ mx ≤ 5) (hl : 0 ≤ lb ∧ lb ≤ 12) (ht : ∀ s ∈ t, Tz d s) : Tz (d + 1) (.mk 4 E0 [] [x] mx lb t []) := by
  intro sp hsp
  have hs2 : (sp ++ Ksp).size + 2 * d ≤ 8 := by rw [ByteArray.size_append, show Ksp.size = 2 from rfl]; omega
  have h1 := sts_tz hs2 ht
  have h3 := numS_dig (k := 2) hl.1 (by omega) (by show lb < 100; omega)
  have h4 := numS_dig (k := 1) hm.1 (by omega) (by show mx < 10; omega)
  have h5 := (node_sz (sp := sp) (s := .mk 4 E0 [] [x] mx lb t []) (by show ¬ ((4 : Int) = 1 ∨ (4 : Int) = 2); decide)).2 rfl
  rw [cz_4]
  simp only [hdT_4, Sm.thn, tx1, ByteArray.size_append, show Kwh.size = 6 from rfl, show Kmx.size = 5 from rfl, show Klab.size = 7 from rfl, show Kopen.size = 3 from rfl] at h5
  simp only [czTs, Sm.czs]
  omega
theorem tz_lock {d : Nat} {v : ByteArray} {t : List Sm} (hv : v.size ≤ 3) (ht : ∀ s ∈ t, Tz d s) : Tz (d + 1) (.mk 5 v [] [] 0 0 t []) := by
  intro sp hsp
  have hs2 : (sp ++ Ksp).size + 2 * d ≤ 8 := by rw [ByteArray.size_append, show Ksp.size = 2 from rfl]; omega
  have h1 := sts_tz hs2 ht
  have h5 := (node_sz (sp := sp) (s := .mk 5 v [] [] 0 0 t []) (by show ¬ ((5 : Int) = 1 ∨ (5 : Int) = 2); decide)).2 rfl
  rw [cz_5]
  simp only [hdT_5, Sm.thn, ByteArray.size_append, show Klk.size = 5 from rfl, show Kopen.size = 3 from rfl] at h5
  simp only [czTs, Sm.czs]
  omega
theorem StG.tz {V A : List ByteArray} {Sh : List Shd} (hV : ∀ s ∈ V, s.size ≤ 3) (hU : ∀ hs, ∀ s ∈ usableF A Sh hs, s.size ≤ 3) (hR : ∀ x ∈ Sh, x.2.2.size ≤ 3) : ∀ (d : Nat) (il : Int) (hs : ByteArray) (a b : Int) (l : List Sm), StG V A Sh d il hs a b l → 0 ≤ a → a ≤ b ∧ ∀ s ∈ l, Tz d s := by
  have ex : ∀ {hs : ByteArray} {d : Nat} {t : T}, ExG V (usableF A Sh hs) d t → ((textT t).size : Int) ≤ czT t := fun h => h.tz hV (hU _)
  have leaf : ∀ {n : Nat} {hs : ByteArray} {a b : Int} {l : List Sm}, LeafG V (usableF A Sh hs) a b l → a ≤ b ∧ ∀ s ∈ l, Tz n s := by
    rintro n hs a b l ⟨rfl, ⟨s, e, h1, h2, rfl⟩ | ⟨s, e1, e2, h1, h2, h3, rfl⟩⟩
    · refine ⟨Int.le_refl _, fun t ht => ?_⟩
      rw [List.mem_singleton.1 ht]
      exact tz_set (hV s h1) (ex h2)
    · refine ⟨Int.le_refl _, fun t ht => ?_⟩
      rw [List.mem_singleton.1 ht]
      exact tz_store (hU _ s h1) (ex h2) (ex h3)
  intro d
  induction d with
  | zero => intro il hs a b l h _; exact leaf h
  | succ d ih =>
    intro il hs a b l h h0
    rcases h with h | ⟨hl, c, l1, l2, lab1, hc, hb1, hb2, rfl⟩ | ⟨_, hl, ⟨c, mx, l1, hc, hm, hb, rfl⟩ | ⟨v, n, op, top, mx, l1, st, hv, hn, ho, ht, hm, hst, hb, rfl⟩⟩ | ⟨_, sh, hsh, l1, hb, rfl⟩
    · exact leaf h
    · obtain ⟨g1, g2⟩ := bl_all (ih il hs) hb1 (by omega)
      have g3 : lab1 ≤ b ∧ ∀ s ∈ l2, Tz d s := by
        rcases hb2 with ⟨rfl, rfl⟩ | hb2
        · exact ⟨Int.le_refl _, by simp⟩
        · exact bl_all (ih il hs) hb2 (by omega)
      refine ⟨by omega, fun t ht => ?_⟩
      rw [List.mem_singleton.1 ht]
      exact tz_if (ex hc) (by omega) g2 g3.2
    · obtain ⟨g1, g2⟩ := bl_all (ih (il + 1) hs) hb (by omega)
      refine ⟨by omega, fun t ht => ?_⟩
      rw [List.mem_singleton.1 ht]
      exact tz_while (ex hc) hm (by omega) g2
    · obtain ⟨g1, g2⟩ := bl_all (ih (il + 1) hs) hb (by omega)
      have hv2 := hV v hv
      have e9 : ∀ n : Int, 0 ≤ n ∧ n ≤ 9 → ((textT (.nu n)).size : Int) ≤ czT (.nu n) := fun n hn => ExG.tz (V := []) (U := []) (by simp) (by simp) (.nu 0 n (by omega))
      have hnm : ∀ s : ByteArray, s.size ≤ 3 → ((textT (.nm s)).size : Int) ≤ czT (.nm s) := fun s hs => by unfold textT czT; omega
      have bin : ∀ (o : Int) (a b : T), 1 ≤ o ∧ o ≤ 14 → ((textT a).size : Int) ≤ czT a → ((textT b).size : Int) ≤ czT b → ((textT (.bn o a b)).size : Int) ≤ czT (.bn o a b) := fun o a b ho ha hb => by
        have := sign_size ho
        rw [textT, czT]
        simp only [ByteArray.size_append, one_size]
        omega
      have htop : ((textT top).size : Int) ≤ czT top := by
        rcases ht with ⟨t, ht, rfl⟩ | ⟨s, hs, rfl⟩
        · exact e9 t (by omega)
        · exact hnm s (hV s hs)
      refine ⟨by omega, fun t ht => ?_⟩
      rcases List.mem_cons.1 ht with rfl | ht
      · exact tz_set hv2 (e9 n (by omega))
      · rw [List.mem_singleton.1 ht]
        refine tz_while (bin _ _ _ (by omega) (hnm v hv2) htop) hm (by omega) (fun s hs => ?_)
        rcases List.mem_append.1 hs with hs | hs
        · exact g2 s hs
        · rw [List.mem_singleton.1 hs]
          exact tz_set hv2 (bin _ _ _ (by omega) (hnm v hv2) (e9 st (by omega)))
    · obtain ⟨g1, g2⟩ := bl_all (ih il sh.2.2) hb h0
      refine ⟨g1, fun t ht => ?_⟩
      rw [List.mem_singleton.1 ht]
      exact tz_lock (hR sh hsh) g2
/-- The names of a made task are short. -/
structure NszG (Sh : List Shd) (t : Tk) : Prop where
  vars : ∀ s ∈ t.inputs.map (·.1) ++ VS, s.size ≤ 3
  usable : ∀ hs, ∀ s ∈ usableF (t.arrays.map (·.1)) Sh hs, s.size ≤ 3
  locks : ∀ x ∈ Sh, x.2.2.size ≤ 3
theorem RS_sz {n : Nat} : ∀ s ∈ RSl n, s.size ≤ 1 := by
  rcases n with _ | _ | n
  · simp [RSl]
  · intro s hs
    simp only [RSl, List.mem_singleton] at hs
    subst hs
    decide
  · intro s hs
    simp only [RSl, List.mem_cons, List.not_mem_nil, or_false] at hs
    rcases hs with rfl | rfl <;> decide
theorem shd_sz {R : List ByteArray} {n : Nat} {Sh : List Shd} (hR : R = RSl n) (hSh : ShG R Sh) : Sh.length ≤ 1 ∧ ∀ x ∈ Sh, x.1.size ≤ 3 ∧ (0 ≤ x.2.1 ∧ x.2.1 ≤ 8) ∧ x.2.2.size ≤ 1 ∧ nmOk x.1 ∧ nmOk x.2.2 := by
  rcases hSh with rfl | ⟨r, k, hr, hk, rfl⟩
  · simp
  · refine ⟨by simp, fun x hx => ?_⟩
    have hm : r ∈ RSl n := by rw [← hR]; exact List.mem_of_getElem? hr
    rw [List.mem_singleton.1 hx]
    refine ⟨show (⟨#[98, 117, 102]⟩ : ByteArray).size ≤ 3 by decide, ?_, RS_sz r hm, nmOk_lit (s := ⟨#[98, 117, 102]⟩) (by decide +kernel), RS_ok r hm⟩
    show 0 ≤ (2 : Int) ^ k ∧ (2 : Int) ^ k ≤ 8
    have : k = 0 ∨ k = 1 ∨ k = 2 ∨ k = 3 := by omega
    rcases this with rfl | rfl | rfl | rfl <;> decide
theorem nsz_of {R : List ByteArray} {n : Nat} {Sh : List Shd} {nm : ByteArray} {W : Int} {t : Tk} (hR : R = RSl n) (hSh : ShG R Sh) (h : TaskG Sh nm W t) : NszG Sh t := by
  have hs := (shd_sz hR hSh).2
  refine ⟨?_, ?_, fun x hx => by have := (hs x hx).2.2.1; omega⟩
  · intro s hs
    rcases List.mem_append.1 hs with hs | hs
    · rw [h.inputs.2.1] at hs
      have := List.mem_of_mem_take hs
      simp only [List.mem_cons, List.not_mem_nil, or_false] at this
      rcases this with rfl | rfl <;> decide
    · simp only [List.mem_cons, List.not_mem_nil, or_false] at hs
      rcases hs with rfl | rfl | rfl <;> decide
  · intro hs2 s hm
    unfold usableF at hm
    rcases List.mem_append.1 hm with hm | hm
    · rcases h.arrays with e | ⟨k, _, e⟩
      · rw [e] at hm; simp at hm
      · rw [e] at hm
        simp only [List.map_cons, List.map_nil, List.mem_singleton] at hm
        subst hm
        decide
    · obtain ⟨x, hx, he⟩ := List.mem_filterMap.1 hm
      split at he
      · rw [← Option.some.inj he]
        exact (hs x hx).1
      · cases he
/-- The sizes of a made task's lines. -/
theorem body_tz {Sh : List Shd} {nm : ByteArray} {W : Int} {t : Tk} (hN : NszG Sh t) (h : TaskG Sh nm W t) : (stsT Ksp t.body).size ≤ 1680 := by
  obtain ⟨lab, l, n, hl, hb⟩ := h.body
  obtain ⟨_, g⟩ := bl_all (StG.tz hN.vars hN.usable hN.locks 3 0 E0) hl (Int.le_refl _)
  have := sts_tz (d := 3) (sp := Ksp) (by decide) (l := t.body) (fun s hs => g s (by rw [hb] at hs; exact List.mem_of_mem_take hs))
  have := h.size
  omega

theorem Fm.one {x : T} (h : Fm x) : oneB [x] = true := (shpF_ok 20 x (by have := h.2; omega)).2 h.1
theorem Pl.b {n : Int} (h : Pl n) : plainB n = true := plainB_ok.2 h
theorem md_okS : ∀ (n F : Nat) (l : List Sm), n ≤ F → (∀ s ∈ l, mdS n s) → okSs F l = true
  | 0, 0, l, _, _ => rfl
  | 0, F + 1, l, _, h => by
    cases l with
    | nil => rfl
    | cons s l => exact (h s (by simp)).elim
  | n + 1, 0, l, hF, _ => by omega
  | n + 1, F + 1, l, hF, h => by
    rw [okSs, List.all_eq_true]
    intro s hs
    have h1 := h s hs
    unfold mdS at h1
    have ih := fun l hl => md_okS n F l (by omega) hl
    rcases h1 with ⟨v, x, hv, hx, rfl⟩ | ⟨v, y, x, hv, hy, hx, rfl⟩ | ⟨x, lab, t, e, hx, hl, ht, he, rfl⟩ | ⟨x, mx, lab, t, hx, hm, hl, ht, rfl⟩ | ⟨v, t, hv, ht, rfl⟩
    · simp [okOne, Sm.kind, Sm.name, Sm.index, Sm.value, Sm.max, Sm.label, Sm.thn, Sm.els, nameB_ok.2 hv, hx.one]
    · simp [okOne, Sm.kind, Sm.name, Sm.index, Sm.value, Sm.max, Sm.label, Sm.thn, Sm.els, nameB_ok.2 hv, hx.one, hy.one]
    · simp [okOne, Sm.kind, Sm.name, Sm.index, Sm.value, Sm.max, Sm.label, Sm.thn, Sm.els, hx.one, hl.b, ih t ht, ih e he]
    · simp [okOne, Sm.kind, Sm.name, Sm.index, Sm.value, Sm.max, Sm.label, Sm.thn, Sm.els, hx.one, hm.b, hl.b, ih t ht]
    · simp [okOne, Sm.kind, Sm.name, Sm.index, Sm.value, Sm.max, Sm.label, Sm.thn, Sm.els, nameB_ok.2 hv, ih t ht]
theorem md_deep : ∀ (n F : Nat) (l : List Sm), n ≤ F → (∀ s ∈ l, mdS n s) → dpF F l = false
  | 0, F, l, _, h => by
    cases l with
    | nil => cases F <;> rfl
    | cons s l => exact (h s (by simp)).elim
  | n + 1, 0, l, hF, _ => by omega
  | n + 1, F + 1, l, hF, h => by
    rw [dpF, List.any_eq_false]
    intro s hs
    have h1 := h s hs
    unfold mdS at h1
    have ih := fun l hl => md_deep n F l (by omega) hl
    have dx : ∀ x : T, Fm x → dpx x = false := fun x hx => decide_eq_false (by have := hx.2; omega)
    rcases h1 with ⟨v, x, hv, hx, rfl⟩ | ⟨v, y, x, hv, hy, hx, rfl⟩ | ⟨x, lab, t, e, hx, hl, ht, he, rfl⟩ | ⟨x, mx, lab, t, hx, hm, hl, ht, rfl⟩ | ⟨v, t, hv, ht, rfl⟩
    · simp [dpS, Sm.index, Sm.value, Sm.thn, Sm.els, dx x hx, ih [] (by simp)]
    · simp [dpS, Sm.index, Sm.value, Sm.thn, Sm.els, dx x hx, dx y hy, ih [] (by simp)]
    · simp [dpS, Sm.index, Sm.value, Sm.thn, Sm.els, dx x hx, ih t ht, ih e he]
    · simp [dpS, Sm.index, Sm.value, Sm.thn, Sm.els, dx x hx, ih t ht, ih [] (by simp)]
    · simp [dpS, Sm.index, Sm.value, Sm.thn, Sm.els, ih t ht, ih [] (by simp)]
theorem ifs_pl : ∀ (f n : Nat) (s : Sm), mdS n s → ∀ k ∈ rlOne f s, Pl k
  | 0, _, _, _, k, hk => by simp [rlOne] at hk
  | f + 1, 0, _, h, _, _ => h.elim
  | f + 1, n + 1, s, h, k, hk => by
    unfold mdS at h
    rw [rlOne, List.mem_append, List.mem_append] at hk
    have ih : ∀ (l : List Sm), (∀ s ∈ l, mdS n s) → k ∈ l.flatMap (rlOne f) → Pl k := fun l hl hk => by
      obtain ⟨s, hs, hk⟩ := List.mem_flatMap.1 hk
      exact ifs_pl f n s (hl s hs) k hk
    rcases h with ⟨v, x, hv, hx, rfl⟩ | ⟨v, y, x, hv, hy, hx, rfl⟩ | ⟨x, lab, t, e, hx, hl, ht, he, rfl⟩ | ⟨x, mx, lab, t, hx, hm, hl, ht, rfl⟩ | ⟨v, t, hv, ht, rfl⟩
    · simp [rlSelf, Sm.kind, Sm.thn, Sm.els] at hk
    · simp [rlSelf, Sm.kind, Sm.thn, Sm.els] at hk
    · rcases hk with (hk | hk) | hk
      · simp only [rlSelf, Sm.kind, if_true, Sm.label, List.mem_singleton] at hk
        rw [hk]; exact hl
      · exact ih t ht hk
      · exact ih e he hk
    · rcases hk with (hk | hk) | hk
      · simp [rlSelf, Sm.kind] at hk
      · exact ih t ht hk
      · simp [Sm.els] at hk
    · rcases hk with (hk | hk) | hk
      · simp [rlSelf, Sm.kind] at hk
      · exact ih t ht hk
      · simp [Sm.els] at hk
theorem nmT_ok {i : Nat} (h : i < 6) : nmOk (nmT i) ∧ (nmT i).size = 2 := by
  have : i = 0 ∨ i = 1 ∨ i = 2 ∨ i = 3 ∨ i = 4 ∨ i = 5 := by omega
  rcases this with rfl | rfl | rfl | rfl | rfl | rfl <;> exact ⟨nmOk_lit (by decide +kernel), by decide +kernel⟩
theorem task_okT {R : List ByteArray} {n i : Nat} {Sh : List Shd} {W : Int} {t : Tk} (hR : R = RSl n) (hSh : ShG R Sh) (hi : i < 6) (h : TaskG Sh (nmT i) W t) : okTk t = true ∧ (tkT t).size ≤ 1960 := by
  have hmd := h.md (nms_of hR hSh h)
  have hnm := nmT_ok hi
  have hbz := body_tz (nsz_of hR hSh h) h
  have hin : ∀ x ∈ t.inputs, (nmOk x.1 ∧ x.1.size = 1) ∧ (-2 ≤ x.2.1 ∧ x.2.1 ≤ 3) ∧ (-2 ≤ x.2.2 ∧ x.2.2 ≤ 14) := fun x hx => by
    have hm : x.1 ∈ t.inputs.map (·.1) := List.mem_map_of_mem hx
    rw [h.inputs.2.1] at hm
    have hm := List.mem_of_mem_take hm
    have hb := h.inputs.2.2 x hx
    refine ⟨?_, by omega, by omega⟩
    simp only [List.mem_cons, List.not_mem_nil, or_false] at hm
    rcases hm with e | e <;> rw [e] <;> exact ⟨nmOk_lit (by decide +kernel), by decide⟩
  have hva : ∀ x ∈ t.vars, nmOk x ∧ x.size = 1 := fun x hx => by
    rw [h.vars] at hx
    simp only [List.mem_cons, List.not_mem_nil, or_false] at hx
    rcases hx with rfl | rfl | rfl <;> exact ⟨nmOk_lit (by decide +kernel), by decide⟩
  have har : t.arrays.length ≤ 1 ∧ ∀ x ∈ t.arrays, nmOk x.1 ∧ x.1.size = 1 ∧ (0 ≤ x.2 ∧ x.2 ≤ 8) := by
    rcases h.arrays with e | ⟨k, hk, e⟩
    · rw [e]; simp
    · rw [e]
      refine ⟨by simp, fun x hx => ?_⟩
      rw [List.mem_singleton.1 hx]
      refine ⟨nmOk_lit (s := ⟨#[97]⟩) (by decide +kernel), show (⟨#[97]⟩ : ByteArray).size = 1 by decide, ?_⟩
      show 0 ≤ (2 : Int) ^ k ∧ (2 : Int) ^ k ≤ 8
      have : k = 0 ∨ k = 1 ∨ k = 2 ∨ k = 3 := by omega
      rcases this with rfl | rfl | rfl | rfl <;> decide
  have hmo : t.modes.length ≤ 1 ∧ ∀ x ∈ t.modes, (nmOk x.1 ∧ x.1.size = 3) ∧ (nmOk x.2.1 ∧ x.2.1.size = 1) ∧ (-2 ≤ x.2.2.1 ∧ x.2.2.1 ≤ 14) ∧ (-2 ≤ x.2.2.2 ∧ x.2.2.2 ≤ 14) := by
    rcases h.modes with e | ⟨y, lo, hi, hy, hb, e⟩
    · rw [e]; simp
    · rw [e]
      refine ⟨by simp, fun x hx => ?_⟩
      have hy2 := hin y (List.mem_of_getElem? hy)
      rw [List.mem_singleton.1 hx]
      exact ⟨⟨nmOk_lit (s := ⟨#[102, 101, 119]⟩) (by decide +kernel), show (⟨#[102, 101, 119]⟩ : ByteArray).size = 3 by decide⟩, hy2.1, by dsimp only; omega, by dsimp only; omega⟩
  have hcl : t.claims.length ≤ 1 ∧ ∀ x ∈ t.claims, Pl x.1 ∧ Pl x.2 := by
    have hif : ∀ k ∈ ifsOf t.body, Pl k := fun k hk => by
      obtain ⟨s, hs, hk⟩ := List.mem_flatMap.1 hk
      exact ifs_pl 20 4 s (hmd s hs) k hk
    rcases h.claims with e | ⟨a, b, ha, hb, _, e⟩
    · rw [e]; simp
    · rw [e]
      refine ⟨by simp, fun x hx => ?_⟩
      rw [List.mem_singleton.1 hx]
      exact ⟨hif _ (List.getElem_mem ha), hif _ (List.getElem_mem hb)⟩
  have hpe := h.period
  have hde := h.deadline
  have hpr := h.priority
  have hji := h.jitter
  refine ⟨?_, ?_⟩
  · unfold okTk hdB
    simp only [Bool.and_eq_true, List.all_eq_true]
    refine ⟨⟨⟨⟨⟨⟨⟨⟨⟨⟨?_, ?_⟩, ?_⟩, ?_⟩, ?_⟩, ?_⟩, ?_⟩, ?_⟩, ?_⟩, ?_⟩, ?_⟩
    · rw [h.name]; exact nameB_ok.2 hnm.1
    · exact plainB_ok.2 ⟨by omega, by omega⟩
    · exact plainB_ok.2 ⟨by omega, by omega⟩
    · exact plainB_ok.2 ⟨by omega, by omega⟩
    · exact plainB_ok.2 ⟨by omega, by omega⟩
    · exact md_okS 4 20 t.body (by omega) hmd
    · intro x hx
      have := hin x hx
      simp only [inB, Bool.and_eq_true]
      exact ⟨⟨nameB_ok.2 this.1.1, smallB_ok.2 (by omega)⟩, smallB_ok.2 (by omega)⟩
    · exact fun x hx => nameB_ok.2 (hva x hx).1
    · intro x hx
      have := har.2 x hx
      simp only [arB, Bool.and_eq_true]
      exact ⟨nameB_ok.2 this.1, plainB_ok.2 ⟨by omega, by omega⟩⟩
    · intro x hx
      have := hmo.2 x hx
      simp only [mdB, Bool.and_eq_true]
      exact ⟨⟨⟨nameB_ok.2 this.1.1, nameB_ok.2 this.2.1.1⟩, smallB_ok.2 (by omega)⟩, smallB_ok.2 (by omega)⟩
    · intro x hx
      have := hcl.2 x hx
      simp only [clB, Bool.and_eq_true]
      exact ⟨plainB_ok.2 this.1, plainB_ok.2 this.2⟩
  · have z0 : (tkHd t).size ≤ 97 := by
      have a1 := numS_11 (n := t.period) (by omega) (by omega)
      have a2 := numS_11 (n := t.deadline) (by omega) (by omega)
      have a3 := numS_11 (n := t.priority) (by omega) (by omega)
      have a4 := numS_11 (n := t.jitter) (by omega) (by omega)
      have a5 : t.name.size = 2 := by rw [h.name]; exact hnm.2
      simp only [tkHd, ByteArray.size_append, ba_lit, List.length_cons, List.length_nil]
      omega
    have z1 : (catL inT t.inputs).size ≤ t.inputs.length * 32 := catL_size (fun x hx => by
      have := hin x hx
      have a1 := numS_11 (n := x.2.1) (by omega) (by omega)
      have a2 := numS_11 (n := x.2.2) (by omega) (by omega)
      simp only [inT, ByteArray.size_append, ba_lit, List.length_cons, List.length_nil]
      omega)
    have z2 : (catL vaT t.vars).size ≤ t.vars.length * 6 := catL_size (fun x hx => by
      have := hva x hx
      simp only [vaT, ByteArray.size_append, ba_lit, List.length_cons, List.length_nil]
      omega)
    have z3 : (catL arT t.arrays).size ≤ t.arrays.length * 20 := catL_size (fun x hx => by
      have := har.2 x hx
      have a1 := numS_11 (n := x.2) (by omega) (by omega)
      simp only [arT, ByteArray.size_append, ba_lit, List.length_cons, List.length_nil]
      omega)
    have z4 : (catL mdT t.modes).size ≤ t.modes.length * 36 := catL_size (fun x hx => by
      have := hmo.2 x hx
      have a1 := numS_11 (n := x.2.2.1) (by omega) (by omega)
      have a2 := numS_11 (n := x.2.2.2) (by omega) (by omega)
      simp only [mdT, ByteArray.size_append, ba_lit, List.length_cons, List.length_nil]
      omega)
    have z5 : (catL clT t.claims).size ≤ t.claims.length * 30 := catL_size (fun x hx => by
      have := hcl.2 x hx
      have a1 := numS_11 (n := x.1) (by have := this.1.1; omega) this.1.2
      have a2 := numS_11 (n := x.2) (by have := this.2.1; omega) this.2.2
      simp only [clT, ByteArray.size_append, ba_lit, List.length_cons, List.length_nil]
      omega)
    have l1 := h.inputs.1
    have l2 : t.vars.length = 3 := by rw [h.vars]; rfl
    have l3 := har.1
    have l4 := hmo.1
    have l5 := hcl.1
    simp only [tkT, ByteArray.size_append, ba_lit, List.length_cons, List.length_nil]
    omega
theorem prog_szT {T : Nat} {W : Int} {p : Pg} (hT : T ≤ 4) (h : PgG T W p) : okPg p = true ∧ p.tasks.any (fun t => dpF 8 t.body) = false ∧ (progT p).size ≤ T * 1960 + 52 := by
  obtain ⟨n, hn, hR⟩ := h.res
  have hsh := shd_sz hR h.shared
  have hres : ∀ x ∈ p.res, nmOk x ∧ x.size ≤ 1 := fun x hx => by rw [hR] at hx; exact ⟨RS_ok x hx, RS_sz x hx⟩
  have hresl : p.res.length ≤ 2 := by rw [hR]; rcases n with _ | _ | n <;> simp [RSl]
  have hlen := h.len
  have htk : ∀ t ∈ p.tasks, okTk t = true ∧ (tkT t).size ≤ 1960 := fun t ht => by
    obtain ⟨i, hi, rfl⟩ := List.mem_iff_getElem.1 ht
    exact task_okT hR h.shared (by omega) (h.tasks i hi)
  refine ⟨?_, ?_, ?_⟩
  · unfold okPg
    simp only [Bool.and_eq_true, List.all_eq_true]
    refine ⟨⟨fun x hx => nameB_ok.2 (hres x hx).1, fun x hx => ?_⟩, fun t ht => (htk t ht).1⟩
    have := hsh.2 x hx
    simp only [shB, Bool.and_eq_true]
    exact ⟨⟨nameB_ok.2 this.2.2.2.1, plainB_ok.2 ⟨by omega, by omega⟩⟩, nameB_ok.2 this.2.2.2.2⟩
  · rw [List.any_eq_false]
    intro t ht
    rw [md_deep 4 8 t.body (by omega) (h.md t ht)]
    decide
  · have z1 : (catL resT p.res).size ≤ p.res.length * 11 := catL_size (fun x hx => by
      have := hres x hx
      simp only [resT, ByteArray.size_append, ba_lit, List.length_cons, List.length_nil]
      omega)
    have z2 : (catL shT p.shared).size ≤ p.shared.length * 30 := catL_size (fun x hx => by
      have := hsh.2 x hx
      have a1 := numS_11 (n := x.2.1) (by omega) (by omega)
      simp only [shT, ByteArray.size_append, ba_lit, List.length_cons, List.length_nil]
      omega)
    have z3 : (catL tkT p.tasks).size ≤ p.tasks.length * 1960 := catL_size (fun t ht => (htk t ht).2)
    have l1 := hsh.1
    unfold progT
    simp only [ByteArray.size_append]
    rw [hlen] at z3
    omega
end Go.Proofs.YtlniadfidfmckaaDoor
end

section
namespace Go.Proofs.YtlniadfidfmckaaDoor
open Go.Vc
set_option maxHeartbeats 4000000
attribute [local irreducible] JL JC JQ OpWp Con ConN Pan ConE OpPan HP HT HOk hasW idxW isA isNum isNm numAt txtAt lineAt opAt lx lpx sx sxp exG startA stmtG stmtsL blkG wdG nmG nuG nbG lpG dcG stG tkA tkB tkC tkD tkE tkF tk1 tk2 tk3 tk4
theorem hp_two_bindE {nt : Nat} {c : Cx Tryd.prog nt} {env : Env} {H Hr : List Ch} {ops : Array Oper} {Q : Exit → Act → World → Prop} {Sw : World → Prop} {m fuel : Nat} {listed : Array Bool} {i j di : Nat} {opi : Op} {ti : TypeId} {pi : String} {afi : Array Edge} {s0 : S} {α β : Type} {gA : α → S} {gB : β → S} {l : List Tok} {b a : Nat} {r : R α} {f : α → Nat → R β} {fin0 : Fin} {fid : FuncId} [FI Tryd.prog fid] {args : List S} {xs : Array Operand} {at_ : Array TypeId} {d : Tmp} {ty : TypeId} {pos : String} {af : Array Edge}
    (hi : ops[i]? = some ⟨some di, opi, ti, pi, afi, none⟩) (hj : ops[j]? = some ⟨some d, .call { callee := .value (.func fid), args := xs, argTypes := at_ }, ty, pos, af, none⟩) (hr : (Region.ready .any ops listed == [i, j] || Region.ready .any ops listed == [j, i]) = true)
    (hri : Region.ready .any ops (listed.setIfInBounds i true) = [j]) (hrj : Region.ready .any ops (listed.setIfInBounds j true) = [i]) (hdi : di < nt) (hd : d < nt) (hne : (di == d) = false) (hno : env.lookup di = none) (hkeep : ∀ w, StW c H w → Sw w)
    (h0 : OpWp c ⟨some di, opi, ti, pi, afi, none⟩ env H (fun s H' => s = s0 ∧ H' = H)) (h1 : ∀ s H', OpWp c ⟨some di, opi, ti, pi, afi, none⟩ ((d, s) :: env) H' (fun s H'' => s = s0 ∧ H'' = H'))
    (is : List Nat) (hx : env.evs xs.toList = some (Ptr b :: args)) (hp : pick is H = some ([Pz b l a], Hr)) (con : PC fid l b args a gA r) (he : fin0 = finR l b gB (r.bind f)) (hq : ∀ v, fin0 = .pan v → PanQ c Q v)
    (h : ∀ x c', r = .ok x c' → a < c' ∧ c' ≤ l.length → fin0 = finR l b gB (f x c') → (∀ w, StW c ([Pz b l c'] ++ Hr) w → Sw w) ∧ HP c ops Q Sw m fuel ((listed.setIfInBounds i true).setIfInBounds j true) ((d, gA x) :: (di, s0) :: env) ([Pz b l c'] ++ Hr)) : HP c ops Q Sw m (fuel + 2) listed env H := by
  obtain ⟨con, bd⟩ := con
  cases r with
  | ok x c' => exact hp_two hi hj hr hri hrj hdi hd hne hno hkeep h0 h1 (ow_call1 is hx hp (finR_con con) (h x c' rfl (bd _ _ rfl) he))
  | er code p => exact hp_two_pan hi hj rfl hr hri hdi hno hkeep h0 (op_pan is hx hp (finR_pan con)) (hq _ he)
section
variable {l : List Tok} (hl : l.length ≤ 1000000)
include hl

theorem ptask_p (hN : NmOk l) {a b : Nat} (ha : a ≤ l.length) : PC 39 l b [] a TkS (taskG l a) := by
  have hS := pstmt_all hl hN (l.length + 1)
  refine ⟨(con_introE Tryd.func39 rfl rfl (Nat.le_of_ble_eq_true rfl) (fun c hc => ?_)), taskG_bd⟩
  generalize hfin : finR l b TkS (taskG l a) = fin0
  have e := hfin.symm
  clear hfin
  rw [taskG_eq] at e
  refine R_ (o_ r_ (bl_ r_ r_ (fun bl => T_ (R_ (M_ r_ (jl_bindE [1] rfl rfl (pname_p hl ha) e (fun v hv => by (repeat (first | refine pq_then ?_ | refine pq_block ?_)); exact pq_fin hv) (nb rfl) ?_))))))
  clear e
  intro nm b1 k1 g1 e
  refine o_ r_ (bu_ r_ r_ r_ r_ r_ (o_ r_ (bl_ r_ r_ (fun bl => S_ 0 r_ (T_ (am_ (am_ ?_)))))))
  rename_i bR
  revert bl
  intro bT
  refine an_ (F_ r_ (o_ r_ (bu_ r_ r_ r_ r_ r_ (F_ r_ (o_ r_ (bu_ r_ r_ r_ r_ r_ (F_ r_ (o_ r_ (bu_ r_ r_ r_ r_ r_ (F_ r_ (o_ r_ (bu_ r_ r_ r_ r_ r_ (o_ r_ (bq_ r_ r_ b_ r_ r_ b_ (o_ r_ (br_ r_ (fun hlen => M_ r_ (T_ (au_ ?_)))))))))))))))))))
  refine jc_loopS (ι := Nat × Nat × Int × Int × Int × Int) [] (fun i => (b1 ≤ i.2.1 ∧ i.2.1 ≤ l.length) ∧ ((i.1 = 0 ∧ i.2.2.1 = 0 ∧ i.2.2.2.1 = 0 ∧ i.2.2.2.2.1 = 0 ∧ i.2.2.2.2.2 = 0 ∧ fin0 = finR l b TkS (tk1 l nm i.2.1)) ∨ (i.1 = 1 ∧ i.2.2.2.1 = 0 ∧ i.2.2.2.2.1 = 0 ∧ i.2.2.2.2.2 = 0 ∧ fin0 = finR l b TkS (tk2 l nm i.2.2.1 i.2.1)) ∨ (i.1 = 2 ∧ i.2.2.2.2.1 = 0 ∧ i.2.2.2.2.2 = 0 ∧ fin0 = finR l b TkS (tk3 l nm i.2.2.1 i.2.2.2.1 i.2.1)) ∨ (i.1 = 3 ∧ i.2.2.2.2.2 = 0 ∧ fin0 = finR l b TkS (tk4 l nm i.2.2.1 i.2.2.2.1 i.2.2.2.2.1 i.2.1)) ∨ (i.1 = 4 ∧ fin0 = finR l b TkS (tkA l nm i.2.2.1 i.2.2.2.1 i.2.2.2.2.1 i.2.2.2.2.2 i.2.1)))) (fun i => [(0, Ptr b), (2, Ptr bR), (3, Ptr bT), (17, .cell (.list [[.val (.string Kperiod), .val (.pointer (some ⟨bT, 1, none⟩))], [.val (.string Kdeadline), .val (.pointer (some ⟨bT, 2, none⟩))], [.val (.string Kpriority), .val (.pointer (some ⟨bT, 3, none⟩))], [.val (.string Kjitter), .val (.pointer (some ⟨bT, 4, none⟩))]])), (18, In .i64 4), (19, In .i64 (i.1 : Int))]) (fun i => [Pz b l i.2.1, .blk bR 78 [.val (.string ⟨#[]⟩), .val (.int .i64 0), .val (.int .i64 0), .val (.int .i64 0), .val (.int .i64 0), .val (.slice none 0 0), .val (.slice none 0 0), .val (.slice none 0 0), .val (.slice none 0 0), .val (.slice none 0 0), .val (.slice none 0 0)], .blk bT 78 [.val (.string nm), .val (.int .i64 i.2.2.1), .val (.int .i64 i.2.2.2.1), .val (.int .i64 i.2.2.2.2.1), .val (.int .i64 i.2.2.2.2.2), .val (.slice none 0 0), .val (.slice none 0 0), .val (.slice none 0 0), .val (.slice none 0 0), .val (.slice none 0 0), .val (.slice none 0 0)]]) (fun i => 4 - i.1) (0, b1, 0, 0, 0, 0) ⟨⟨Nat.le_refl _, g1.2⟩, .inl ⟨rfl, rfl, rfl, rfl, rfl, e⟩⟩ ?_ ?_ ?_
  · exact bc_ 1 r_ (bc_ 1 r_ (bc_ 0 r_ sub_end))
  · (repeat (first | exact True.intro | refine ⟨rfl, ?_⟩))
  clear e
  rintro ⟨KK, c, pe, de, pr, ji⟩ ⟨⟨h1, h2⟩, hk⟩
  dsimp only at h1 h2 hk ⊢
  refine jc_reset [(0, Ptr b), (2, Ptr bR), (3, Ptr bT), (17, .cell (.list [[.val (.string Kperiod), .val (.pointer (some ⟨bT, 1, none⟩))], [.val (.string Kdeadline), .val (.pointer (some ⟨bT, 2, none⟩))], [.val (.string Kpriority), .val (.pointer (some ⟨bT, 3, none⟩))], [.val (.string Kjitter), .val (.pointer (some ⟨bT, 4, none⟩))]])), (18, In .i64 4), (19, In .i64 (KK : Int))] [Pz b l c, .blk bR 78 [.val (.string ⟨#[]⟩), .val (.int .i64 0), .val (.int .i64 0), .val (.int .i64 0), .val (.int .i64 0), .val (.slice none 0 0), .val (.slice none 0 0), .val (.slice none 0 0), .val (.slice none 0 0), .val (.slice none 0 0), .val (.slice none 0 0)], .blk bT 78 [.val (.string nm), .val (.int .i64 pe), .val (.int .i64 de), .val (.int .i64 pr), .val (.int .i64 ji), .val (.slice none 0 0), .val (.slice none 0 0), .val (.slice none 0 0), .val (.slice none 0 0), .val (.slice none 0 0), .val (.slice none 0 0)]] ?_ ⟨[0, 0, 0], [], rfl⟩ ?_
  · (repeat (first | exact True.intro | refine ⟨rfl, ?_⟩))
  rcases hk with ⟨rfl, rfl, rfl, rfl, rfl, e⟩ | ⟨rfl, rfl, rfl, rfl, e⟩ | ⟨rfl, rfl, rfl, e⟩ | ⟨rfl, rfl, e⟩ | ⟨rfl, e⟩
  · rw [tk1, dcG, R.bind_assoc] at e
    refine R_ (o_ r_ (bw_ r_ r_ (T_ (am_ (aq_ r_ r_ (as_ (al_ (B_ (R_ (o_ r_ (ow_indexAddr r_ r_ g_ r_ r_ b_ (o_ r_ (cr_ r_ r_ r_ (o_ r_ (bl_ r_ r_ (fun bl => S_ 0 r_ (T_ (R_ (M_ r_ ?_)))))))))))))))))))
    refine F_ r_ (L_ 0 r_ (jl_bindE [1] rfl rfl (pword_p hl h2 Kperiod) e (fun v hv => by (repeat (first | refine pq_then ?_ | refine pq_block ?_)); exact pq_fin hv) (nb rfl) ?_))
    clear e
    intro u c1 k1 g2 e
    refine T_ (jc_hpV 4 (n := 6) rfl 1 [.string Kperiod, .pointer (some ⟨bT, 1, none⟩)] k_ rfl rfl (df_ (i := 0) rfl k_ k_ k_ b_ (by (repeat (first | refine pani_then ?_ | refine pani_block ?_)); exact pani_body) (dl_ rfl rfl rfl b_) ?_))
    refine df_ (i := 1) rfl k_ k_ k_ b_ (by (repeat (first | refine pani_then ?_ | refine pani_block ?_)); exact pani_body) (dm_ 1 rfl rfl rfl mem0 rfl) ?_
    refine df_ (i := 2) rfl k_ k_ k_ b_ (by (repeat (first | refine pani_then ?_ | refine pani_block ?_)); exact pani_body) (dk_ rfl) ?_
    refine hp_bindE (i := 3) rfl k_ (nb rfl) [0] rfl rfl (pnum_p hl g_) e (fun v hv => by (repeat (first | refine pq_then ?_ | refine pq_block ?_)); exact pq_fin hv) ?_
    clear e
    intro x c2 k2 g3 e
    refine ⟨?_, ?_⟩
    exact keep1 1 rfl
    refine df_ (i := 4) rfl k_ k_ k_ b_ (by (repeat (first | refine pani_then ?_ | refine pani_block ?_)); exact pani_body) (dr_ rfl) ?_
    refine hp_tail (dj_ (i := 5) rfl k_ (by decide) (ca_ 3 rfl rfl rfl rfl b_ (ht_done k_ (ay_ (al_ (an_ (o_ r_ (bj_ r_ r_ g_ (M_ r_ (ak_ (jq_againS (i := (0, c, 0, 0, 0, 0)) ((1, c2, x, 0, 0, 0) : Nat × Nat × Int × Int × Int × Int) ⟨⟨by dsimp only; omega, g3.2⟩, .inr (.inl ⟨rfl, rfl, rfl, rfl, e⟩)⟩ (by dsimp only; omega) ?_ ?_)))))))))))
    · exact bc_ 1 r_ (bc_ 2 r_ (bc_ 0 r_ sub_end))
    · (repeat (first | exact True.intro | refine ⟨rfl, ?_⟩))
  · rw [tk2, dcG, R.bind_assoc] at e
    refine R_ (o_ r_ (bw_ r_ r_ (T_ (am_ (aq_ r_ r_ (as_ (al_ (B_ (R_ (o_ r_ (ow_indexAddr r_ r_ g_ r_ r_ b_ (o_ r_ (cr_ r_ r_ r_ (o_ r_ (bl_ r_ r_ (fun bl => S_ 0 r_ (T_ (R_ (M_ r_ ?_)))))))))))))))))))
    refine F_ r_ (L_ 0 r_ (jl_bindE [1] rfl rfl (pword_p hl h2 Kdeadline) e (fun v hv => by (repeat (first | refine pq_then ?_ | refine pq_block ?_)); exact pq_fin hv) (nb rfl) ?_))
    clear e
    intro u c1 k1 g2 e
    refine T_ (jc_hpV 4 (n := 6) rfl 1 [.string Kdeadline, .pointer (some ⟨bT, 2, none⟩)] k_ rfl rfl (df_ (i := 0) rfl k_ k_ k_ b_ (by (repeat (first | refine pani_then ?_ | refine pani_block ?_)); exact pani_body) (dl_ rfl rfl rfl b_) ?_))
    refine df_ (i := 1) rfl k_ k_ k_ b_ (by (repeat (first | refine pani_then ?_ | refine pani_block ?_)); exact pani_body) (dm_ 1 rfl rfl rfl mem0 rfl) ?_
    refine df_ (i := 2) rfl k_ k_ k_ b_ (by (repeat (first | refine pani_then ?_ | refine pani_block ?_)); exact pani_body) (dk_ rfl) ?_
    refine hp_bindE (i := 3) rfl k_ (nb rfl) [0] rfl rfl (pnum_p hl g_) e (fun v hv => by (repeat (first | refine pq_then ?_ | refine pq_block ?_)); exact pq_fin hv) ?_
    clear e
    intro x c2 k2 g3 e
    refine ⟨?_, ?_⟩
    exact keep1 1 rfl
    refine df_ (i := 4) rfl k_ k_ k_ b_ (by (repeat (first | refine pani_then ?_ | refine pani_block ?_)); exact pani_body) (dr_ rfl) ?_
    refine hp_tail (dj_ (i := 5) rfl k_ (by decide) (ca_ 3 rfl rfl rfl rfl b_ (ht_done k_ (ay_ (al_ (an_ (o_ r_ (bj_ r_ r_ g_ (M_ r_ (ak_ (jq_againS (i := (1, c, pe, 0, 0, 0)) ((2, c2, pe, x, 0, 0) : Nat × Nat × Int × Int × Int × Int) ⟨⟨by dsimp only; omega, g3.2⟩, .inr (.inr (.inl ⟨rfl, rfl, rfl, e⟩))⟩ (by dsimp only; omega) ?_ ?_)))))))))))
    · exact bc_ 1 r_ (bc_ 2 r_ (bc_ 0 r_ sub_end))
    · (repeat (first | exact True.intro | refine ⟨rfl, ?_⟩))
  · rw [tk3, dcG, R.bind_assoc] at e
    refine R_ (o_ r_ (bw_ r_ r_ (T_ (am_ (aq_ r_ r_ (as_ (al_ (B_ (R_ (o_ r_ (ow_indexAddr r_ r_ g_ r_ r_ b_ (o_ r_ (cr_ r_ r_ r_ (o_ r_ (bl_ r_ r_ (fun bl => S_ 0 r_ (T_ (R_ (M_ r_ ?_)))))))))))))))))))
    refine F_ r_ (L_ 0 r_ (jl_bindE [1] rfl rfl (pword_p hl h2 Kpriority) e (fun v hv => by (repeat (first | refine pq_then ?_ | refine pq_block ?_)); exact pq_fin hv) (nb rfl) ?_))
    clear e
    intro u c1 k1 g2 e
    refine T_ (jc_hpV 4 (n := 6) rfl 1 [.string Kpriority, .pointer (some ⟨bT, 3, none⟩)] k_ rfl rfl (df_ (i := 0) rfl k_ k_ k_ b_ (by (repeat (first | refine pani_then ?_ | refine pani_block ?_)); exact pani_body) (dl_ rfl rfl rfl b_) ?_))
    refine df_ (i := 1) rfl k_ k_ k_ b_ (by (repeat (first | refine pani_then ?_ | refine pani_block ?_)); exact pani_body) (dm_ 1 rfl rfl rfl mem0 rfl) ?_
    refine df_ (i := 2) rfl k_ k_ k_ b_ (by (repeat (first | refine pani_then ?_ | refine pani_block ?_)); exact pani_body) (dk_ rfl) ?_
    refine hp_bindE (i := 3) rfl k_ (nb rfl) [0] rfl rfl (pnum_p hl g_) e (fun v hv => by (repeat (first | refine pq_then ?_ | refine pq_block ?_)); exact pq_fin hv) ?_
    clear e
    intro x c2 k2 g3 e
    refine ⟨?_, ?_⟩
    exact keep1 1 rfl
    refine df_ (i := 4) rfl k_ k_ k_ b_ (by (repeat (first | refine pani_then ?_ | refine pani_block ?_)); exact pani_body) (dr_ rfl) ?_
    refine hp_tail (dj_ (i := 5) rfl k_ (by decide) (ca_ 3 rfl rfl rfl rfl b_ (ht_done k_ (ay_ (al_ (an_ (o_ r_ (bj_ r_ r_ g_ (M_ r_ (ak_ (jq_againS (i := (2, c, pe, de, 0, 0)) ((3, c2, pe, de, x, 0) : Nat × Nat × Int × Int × Int × Int) ⟨⟨by dsimp only; omega, g3.2⟩, .inr (.inr (.inr (.inl ⟨rfl, rfl, e⟩)))⟩ (by dsimp only; omega) ?_ ?_)))))))))))
    · exact bc_ 1 r_ (bc_ 2 r_ (bc_ 0 r_ sub_end))
    · (repeat (first | exact True.intro | refine ⟨rfl, ?_⟩))
  · rw [tk4, dcG, R.bind_assoc] at e
    refine R_ (o_ r_ (bw_ r_ r_ (T_ (am_ (aq_ r_ r_ (as_ (al_ (B_ (R_ (o_ r_ (ow_indexAddr r_ r_ g_ r_ r_ b_ (o_ r_ (cr_ r_ r_ r_ (o_ r_ (bl_ r_ r_ (fun bl => S_ 0 r_ (T_ (R_ (M_ r_ ?_)))))))))))))))))))
    refine F_ r_ (L_ 0 r_ (jl_bindE [1] rfl rfl (pword_p hl h2 Kjitter) e (fun v hv => by (repeat (first | refine pq_then ?_ | refine pq_block ?_)); exact pq_fin hv) (nb rfl) ?_))
    clear e
    intro u c1 k1 g2 e
    refine T_ (jc_hpV 4 (n := 6) rfl 1 [.string Kjitter, .pointer (some ⟨bT, 4, none⟩)] k_ rfl rfl (df_ (i := 0) rfl k_ k_ k_ b_ (by (repeat (first | refine pani_then ?_ | refine pani_block ?_)); exact pani_body) (dl_ rfl rfl rfl b_) ?_))
    refine df_ (i := 1) rfl k_ k_ k_ b_ (by (repeat (first | refine pani_then ?_ | refine pani_block ?_)); exact pani_body) (dm_ 1 rfl rfl rfl mem0 rfl) ?_
    refine df_ (i := 2) rfl k_ k_ k_ b_ (by (repeat (first | refine pani_then ?_ | refine pani_block ?_)); exact pani_body) (dk_ rfl) ?_
    refine hp_bindE (i := 3) rfl k_ (nb rfl) [0] rfl rfl (pnum_p hl g_) e (fun v hv => by (repeat (first | refine pq_then ?_ | refine pq_block ?_)); exact pq_fin hv) ?_
    clear e
    intro x c2 k2 g3 e
    refine ⟨?_, ?_⟩
    exact keep1 1 rfl
    refine df_ (i := 4) rfl k_ k_ k_ b_ (by (repeat (first | refine pani_then ?_ | refine pani_block ?_)); exact pani_body) (dr_ rfl) ?_
    refine hp_tail (dj_ (i := 5) rfl k_ (by decide) (ca_ 3 rfl rfl rfl rfl b_ (ht_done k_ (ay_ (al_ (an_ (o_ r_ (bj_ r_ r_ g_ (M_ r_ (ak_ (jq_againS (i := (3, c, pe, de, pr, 0)) ((4, c2, pe, de, pr, x) : Nat × Nat × Int × Int × Int × Int) ⟨⟨by dsimp only; omega, g3.2⟩, .inr (.inr (.inr (.inr (⟨rfl, e⟩))))⟩ (by dsimp only; omega) ?_ ?_)))))))))))
    · exact bc_ 1 r_ (bc_ 2 r_ (bc_ 0 r_ sub_end))
    · (repeat (first | exact True.intro | refine ⟨rfl, ?_⟩))
  · clear hS
    have hS := pstmt_all hl hN (l.length + 1)
    refine R_ (o_ r_ (bw_ r_ r_ (T_ (am_ (ap_ r_ r_ (av_ (ax_ (ax_ (ba_ (al_ (B_ ?_)))))))))))
    rw [tkA] at e
    refine jc_ownNil 85 3 g_ ?_
    refine jc_loopS (ι := List Inp × Nat × Nat × Value) [] (fun i => (c ≤ i.2.1 ∧ i.2.1 ≤ l.length) ∧ l.length - i.2.1 ≤ i.2.2.1 ∧ i.1.length ≤ i.2.1 ∧ fin0 = finR l b TkS ((lpG l Kinput (inG l) i.2.2.1 i.2.1 i.1).bind fun x b => tkB l nm pe de pr ji x b))
      (fun i => [(0, Ptr b), (2, Ptr bR), (3, Ptr bT)]) (fun i => [Pz b l i.2.1, .blk bR 78 [.val (.string ⟨#[]⟩), .val (.int .i64 0), .val (.int .i64 0), .val (.int .i64 0), .val (.int .i64 0), .val (.slice none 0 0), .val (.slice none 0 0), .val (.slice none 0 0), .val (.slice none 0 0), .val (.slice none 0 0), .val (.slice none 0 0)], .blk bT 78 [.val (.string nm), .val (.int .i64 pe), .val (.int .i64 de), .val (.int .i64 pr), .val (.int .i64 ji), .val (i.2.2.2), .val (.slice none 0 0), .val (.slice none 0 0), .val (.slice none 0 0), .val (.slice none 0 0), .val (.slice none 0 0)], .own i.2.2.2 85 3 (i.1.map InRow)]) (fun i => l.length - i.2.1) ([], c, l.length + 1, .slice none 0 0) ⟨⟨Nat.le_refl _, h2⟩, by dsimp only; omega, Nat.zero_le _, e⟩ ?_ ?_ ?_
    · exact bc_ 1 r_ (bc_ 1 r_ (bc_ 1 r_ (bc_ 0 r_ sub_end)))
    · (repeat (first | exact True.intro | refine ⟨rfl, ?_⟩))
    clear e h1 h2
    rintro ⟨l0, c10, n0, v0⟩ ⟨⟨i1, i2⟩, hn, hacc, e⟩
    dsimp only at i1 i2 hn hacc e ⊢
    refine jc_reset [(0, Ptr b), (2, Ptr bR), (3, Ptr bT)] [Pz b l c10, .blk bR 78 [.val (.string ⟨#[]⟩), .val (.int .i64 0), .val (.int .i64 0), .val (.int .i64 0), .val (.int .i64 0), .val (.slice none 0 0), .val (.slice none 0 0), .val (.slice none 0 0), .val (.slice none 0 0), .val (.slice none 0 0), .val (.slice none 0 0)], .blk bT 78 [.val (.string nm), .val (.int .i64 pe), .val (.int .i64 de), .val (.int .i64 pr), .val (.int .i64 ji), .val (v0), .val (.slice none 0 0), .val (.slice none 0 0), .val (.slice none 0 0), .val (.slice none 0 0), .val (.slice none 0 0)], .own v0 85 3 (l0.map InRow)] ?_ ⟨[0, 0, 0, 0], [], rfl⟩ ?_
    · (repeat (first | exact True.intro | refine ⟨rfl, ?_⟩))
    cases h : isA l c10 Kinput with
    | true =>
      have hlt := isA_lt h
      rw [lpG_go h hn] at e
      simp only [inG, R.bind_assoc, bind_okE] at e
      refine am_ (R_ (M_ r_ (o_ r_ (bi_ [0] r_ r_ (has_y hl i2 h) (T_ (aq_ r_ r_ (as_ (al_ (au_ (jc_hpV 11 (n := 13) rfl 2 [.string nm, .int .i64 pe, .int .i64 de, .int .i64 pr, .int .i64 ji, v0, .slice none 0 0, .slice none 0 0, .slice none 0 0, .slice none 0 0, .slice none 0 0] k_ rfl rfl ?_))))))))))
      refine df_ (i := 0) rfl k_ k_ k_ b_ (by (repeat (first | refine pani_then ?_ | refine pani_block ?_)); exact pani_body) (dl_ rfl rfl rfl b_) ?_
      refine df_ (i := 1) rfl k_ k_ k_ b_ (by (repeat (first | refine pani_then ?_ | refine pani_block ?_)); exact pani_body) (dm_ 2 rfl rfl rfl mem0 rfl) ?_
      refine df_ (i := 2) rfl k_ k_ k_ b_ (by (repeat (first | refine pani_then ?_ | refine pani_block ?_)); exact pani_body) (dk_ rfl) ?_
      refine df_ (i := 4) rfl k_ k_ k_ b_ (by (repeat (first | refine pani_then ?_ | refine pani_block ?_)); exact pani_body) (dk_ rfl) ?_
      refine df_ (i := 6) rfl k_ k_ k_ b_ (by (repeat (first | refine pani_then ?_ | refine pani_block ?_)); exact pani_body) (dk_ rfl) ?_
      refine hp_bindE (i := 3) rfl k_ (nb rfl) [0] rfl rfl (pname_p (a := c10 + 1) hl g_) e (fun v hv => by (repeat (first | refine pq_then ?_ | refine pq_block ?_)); exact pq_fin hv) ?_
      clear e
      intro s c20 k20 g20 e
      refine ⟨?_, ?_⟩
      exact keep1 2 rfl
      refine hp_bindE (i := 5) rfl k_ (nb rfl) [0] rfl rfl (pnumber_p (a := c20) hl g_) e (fun v hv => by (repeat (first | refine pq_then ?_ | refine pq_block ?_)); exact pq_fin hv) ?_
      clear e
      intro lo c21 k21 g21 e
      refine ⟨?_, ?_⟩
      exact keep1 2 rfl
      refine hp_bindE (i := 7) rfl k_ (nb rfl) [0] rfl rfl (pnumber_p (a := c21) hl g_) e (fun v hv => by (repeat (first | refine pq_then ?_ | refine pq_block ?_)); exact pq_fin hv) ?_
      clear e
      intro hi c22 k22 g22 e
      refine ⟨?_, ?_⟩
      exact keep1 2 rfl
      refine dg_ (i := 8) r_ k_ b_ (bu_ r_ r_ r_ r_ r_ ⟨?_, ?_⟩)
      exact keep1 2 rfl
      refine dg_ (i := 9) r_ k_ b_ (bq_ r_ r_ b_ r_ r_ b_ ⟨?_, ?_⟩)
      exact keep1 2 rfl
      refine dg_ (i := 10) rfl k_ b_ (ow_apR 3 ((s, lo, hi) : Inp) (f := InRow) rfl rfl rfl rfl rfl rfl rfl (fun _ => rfl) g_ b_ (fun v2 hv2 => ⟨?_, ?_⟩))
      exact keep1 3 rfl
      refine df_ (i := 11) rfl k_ k_ k_ b_ (by (repeat (first | refine pani_then ?_ | refine pani_block ?_)); exact pani_body) (dl_ rfl rfl rfl b_) ?_
      refine hp_tail (dj_ (i := 12) rfl k_ (by decide) (ca_ 3 rfl rfl rfl rfl b_ (ht_done k_ (ay_ (jq_againS (i := (l0, c10, n0, v0)) ((l0 ++ [(s, lo, hi)], c22, n0 - 1, v2) : List Inp × Nat × Nat × Value) ⟨⟨by dsimp only; omega, g22.2⟩, by dsimp only; omega, by dsimp only; simp only [List.length_append, List.length_singleton]; omega, e⟩ (by dsimp only; omega) ?_ ?_)))))
      · exact bc_ 2 r_ (bc_ 2 r_ (bc_ 0 r_ (bc_ 0 r_ sub_end)))
      · (repeat (first | exact True.intro | refine ⟨rfl, ?_⟩))
    | false =>
      rw [lpG_stop h, bind_okE] at e
      refine am_ (R_ (M_ r_ (o_ r_ (bi_ [0] r_ r_ (has_n hl i2 h) (T_ (ap_ r_ r_ (av_ (ax_ (ax_ (ba_ (al_ (B_ ?_))))))))))))
      rw [tkB] at e
      refine jc_ownNil 9 1 g_ ?_
      refine jc_loopS (ι := List ByteArray × Nat × Nat × Value) [] (fun i => (c10 ≤ i.2.1 ∧ i.2.1 ≤ l.length) ∧ l.length - i.2.1 ≤ i.2.2.1 ∧ i.1.length ≤ i.2.1 ∧ fin0 = finR l b TkS ((lpG l Kvar (nmG l) i.2.2.1 i.2.1 i.1).bind fun x b => tkC l nm pe de pr ji l0 x b))
        (fun i => [(0, Ptr b), (2, Ptr bR), (3, Ptr bT)]) (fun i => [Pz b l i.2.1, .blk bR 78 [.val (.string ⟨#[]⟩), .val (.int .i64 0), .val (.int .i64 0), .val (.int .i64 0), .val (.int .i64 0), .val (.slice none 0 0), .val (.slice none 0 0), .val (.slice none 0 0), .val (.slice none 0 0), .val (.slice none 0 0), .val (.slice none 0 0)], .blk bT 78 [.val (.string nm), .val (.int .i64 pe), .val (.int .i64 de), .val (.int .i64 pr), .val (.int .i64 ji), .val (v0), .val (i.2.2.2), .val (.slice none 0 0), .val (.slice none 0 0), .val (.slice none 0 0), .val (.slice none 0 0)], .own i.2.2.2 9 1 (i.1.map Wrow), .own v0 85 3 (l0.map InRow)]) (fun i => l.length - i.2.1) ([], c10, l.length + 1, .slice none 0 0) ⟨⟨Nat.le_refl _, i2⟩, by dsimp only; omega, Nat.zero_le _, e⟩ ?_ ?_ ?_
      · exact bc_ 1 r_ (bc_ 1 r_ (bc_ 1 r_ (bc_ 0 r_ (bc_ 0 r_ sub_end))))
      · (repeat (first | exact True.intro | refine ⟨rfl, ?_⟩))
      clear e h hn hacc i1 i2
      rintro ⟨l1, c11, n1, v1⟩ ⟨⟨i1, i2⟩, hn, hacc, e⟩
      dsimp only at i1 i2 hn hacc e ⊢
      refine jc_reset [(0, Ptr b), (2, Ptr bR), (3, Ptr bT)] [Pz b l c11, .blk bR 78 [.val (.string ⟨#[]⟩), .val (.int .i64 0), .val (.int .i64 0), .val (.int .i64 0), .val (.int .i64 0), .val (.slice none 0 0), .val (.slice none 0 0), .val (.slice none 0 0), .val (.slice none 0 0), .val (.slice none 0 0), .val (.slice none 0 0)], .blk bT 78 [.val (.string nm), .val (.int .i64 pe), .val (.int .i64 de), .val (.int .i64 pr), .val (.int .i64 ji), .val (v0), .val (v1), .val (.slice none 0 0), .val (.slice none 0 0), .val (.slice none 0 0), .val (.slice none 0 0)], .own v1 9 1 (l1.map Wrow), .own v0 85 3 (l0.map InRow)] ?_ ⟨[0, 0, 0, 0, 0], [], rfl⟩ ?_
      · (repeat (first | exact True.intro | refine ⟨rfl, ?_⟩))
      cases h : isA l c11 Kvar with
      | true =>
        have hlt := isA_lt h
        rw [lpG_go h hn] at e
        skip
        refine am_ (R_ (M_ r_ (o_ r_ (bi_ [0] r_ r_ (has_y hl i2 h) (T_ (aq_ r_ r_ (as_ (al_ (au_ (jc_hpV 6 (n := 8) rfl 2 [.string nm, .int .i64 pe, .int .i64 de, .int .i64 pr, .int .i64 ji, v0, v1, .slice none 0 0, .slice none 0 0, .slice none 0 0, .slice none 0 0] k_ rfl rfl (df_ (i := 0) rfl k_ k_ k_ b_ (by (repeat (first | refine pani_then ?_ | refine pani_block ?_)); exact pani_body) (dl_ rfl rfl rfl b_) ?_)))))))))))
        refine df_ (i := 1) rfl k_ k_ k_ b_ (by (repeat (first | refine pani_then ?_ | refine pani_block ?_)); exact pani_body) (dm_ 2 rfl rfl rfl mem0 rfl) ?_
        refine df_ (i := 2) rfl k_ k_ k_ b_ (by (repeat (first | refine pani_then ?_ | refine pani_block ?_)); exact pani_body) (dk_ rfl) ?_
        refine hp_bindE (i := 3) rfl k_ (nb rfl) [0] rfl rfl (pname_p (a := c11 + 1) hl g_) e (fun v hv => by (repeat (first | refine pq_then ?_ | refine pq_block ?_)); exact pq_fin hv) ?_
        clear e
        intro s c20 k20 g20 e
        refine ⟨?_, ?_⟩
        exact keep1 2 rfl
        refine dg_ (i := 4) r_ k_ b_ (bq_ r_ r_ b_ r_ r_ b_ ⟨?_, ?_⟩)
        exact keep1 2 rfl
        refine dg_ (i := 5) rfl k_ b_ (ow_apR 3 (s : ByteArray) (f := Wrow) rfl rfl rfl rfl rfl rfl rfl (fun _ => rfl) g_ b_ (fun v2 hv2 => ⟨?_, ?_⟩))
        exact keep1 3 rfl
        refine df_ (i := 6) rfl k_ k_ k_ b_ (by (repeat (first | refine pani_then ?_ | refine pani_block ?_)); exact pani_body) (dl_ rfl rfl rfl b_) ?_
        refine hp_tail (dj_ (i := 7) rfl k_ (by decide) (ca_ 3 rfl rfl rfl rfl b_ (ht_done k_ (ay_ (jq_againS (i := (l1, c11, n1, v1)) ((l1 ++ [s], c20, n1 - 1, v2) : List ByteArray × Nat × Nat × Value) ⟨⟨by dsimp only; omega, g20.2⟩, by dsimp only; omega, by dsimp only; simp only [List.length_append, List.length_singleton]; omega, e⟩ (by dsimp only; omega) ?_ ?_)))))
        · exact bc_ 2 r_ (bc_ 2 r_ (bc_ 0 r_ (bc_ 0 r_ (bc_ 0 r_ sub_end))))
        · (repeat (first | exact True.intro | refine ⟨rfl, ?_⟩))
      | false =>
        rw [lpG_stop h, bind_okE] at e
        refine am_ (R_ (M_ r_ (o_ r_ (bi_ [0] r_ r_ (has_n hl i2 h) (T_ (ap_ r_ r_ (av_ (ax_ (ax_ (ba_ (al_ (B_ ?_))))))))))))
        rw [tkC] at e
        refine jc_ownNil 80 2 g_ ?_
        refine jc_loopS (ι := List Arr × Nat × Nat × Value) [] (fun i => (c11 ≤ i.2.1 ∧ i.2.1 ≤ l.length) ∧ l.length - i.2.1 ≤ i.2.2.1 ∧ i.1.length ≤ i.2.1 ∧ fin0 = finR l b TkS ((lpG l Karray (arG l) i.2.2.1 i.2.1 i.1).bind fun x b => tkD l nm pe de pr ji l0 l1 x b))
          (fun i => [(0, Ptr b), (2, Ptr bR), (3, Ptr bT)]) (fun i => [Pz b l i.2.1, .blk bR 78 [.val (.string ⟨#[]⟩), .val (.int .i64 0), .val (.int .i64 0), .val (.int .i64 0), .val (.int .i64 0), .val (.slice none 0 0), .val (.slice none 0 0), .val (.slice none 0 0), .val (.slice none 0 0), .val (.slice none 0 0), .val (.slice none 0 0)], .blk bT 78 [.val (.string nm), .val (.int .i64 pe), .val (.int .i64 de), .val (.int .i64 pr), .val (.int .i64 ji), .val (v0), .val (v1), .val (i.2.2.2), .val (.slice none 0 0), .val (.slice none 0 0), .val (.slice none 0 0)], .own i.2.2.2 80 2 (i.1.map ArRow), .own v0 85 3 (l0.map InRow), .own v1 9 1 (l1.map Wrow)]) (fun i => l.length - i.2.1) ([], c11, l.length + 1, .slice none 0 0) ⟨⟨Nat.le_refl _, i2⟩, by dsimp only; omega, Nat.zero_le _, e⟩ ?_ ?_ ?_
        · exact bc_ 1 r_ (bc_ 1 r_ (bc_ 1 r_ (bc_ 0 r_ (bc_ 1 r_ (bc_ 0 r_ sub_end)))))
        · (repeat (first | exact True.intro | refine ⟨rfl, ?_⟩))
        clear e h hn hacc i1 i2
        rintro ⟨l2, c12, n2, v2⟩ ⟨⟨i1, i2⟩, hn, hacc, e⟩
        dsimp only at i1 i2 hn hacc e ⊢
        refine jc_reset [(0, Ptr b), (2, Ptr bR), (3, Ptr bT)] [Pz b l c12, .blk bR 78 [.val (.string ⟨#[]⟩), .val (.int .i64 0), .val (.int .i64 0), .val (.int .i64 0), .val (.int .i64 0), .val (.slice none 0 0), .val (.slice none 0 0), .val (.slice none 0 0), .val (.slice none 0 0), .val (.slice none 0 0), .val (.slice none 0 0)], .blk bT 78 [.val (.string nm), .val (.int .i64 pe), .val (.int .i64 de), .val (.int .i64 pr), .val (.int .i64 ji), .val (v0), .val (v1), .val (v2), .val (.slice none 0 0), .val (.slice none 0 0), .val (.slice none 0 0)], .own v2 80 2 (l2.map ArRow), .own v0 85 3 (l0.map InRow), .own v1 9 1 (l1.map Wrow)] ?_ ⟨[0, 0, 0, 0, 0, 0], [], rfl⟩ ?_
        · (repeat (first | exact True.intro | refine ⟨rfl, ?_⟩))
        cases h : isA l c12 Karray with
        | true =>
          have hlt := isA_lt h
          rw [lpG_go h hn] at e
          simp only [arG, R.bind_assoc, bind_okE] at e
          refine am_ (R_ (M_ r_ (o_ r_ (bi_ [0] r_ r_ (has_y hl i2 h) (T_ (aq_ r_ r_ (as_ (al_ (au_ (jc_hpV 9 (n := 11) rfl 2 [.string nm, .int .i64 pe, .int .i64 de, .int .i64 pr, .int .i64 ji, v0, v1, v2, .slice none 0 0, .slice none 0 0, .slice none 0 0] k_ rfl rfl (df_ (i := 0) rfl k_ k_ k_ b_ (by (repeat (first | refine pani_then ?_ | refine pani_block ?_)); exact pani_body) (dl_ rfl rfl rfl b_) ?_)))))))))))
          refine df_ (i := 1) rfl k_ k_ k_ b_ (by (repeat (first | refine pani_then ?_ | refine pani_block ?_)); exact pani_body) (dm_ 2 rfl rfl rfl mem0 rfl) ?_
          refine df_ (i := 2) rfl k_ k_ k_ b_ (by (repeat (first | refine pani_then ?_ | refine pani_block ?_)); exact pani_body) (dk_ rfl) ?_
          refine df_ (i := 4) rfl k_ k_ k_ b_ (by (repeat (first | refine pani_then ?_ | refine pani_block ?_)); exact pani_body) (dk_ rfl) ?_
          refine hp_bindE (i := 3) rfl k_ (nb rfl) [0] rfl rfl (pname_p (a := c12 + 1) hl g_) e (fun v hv => by (repeat (first | refine pq_then ?_ | refine pq_block ?_)); exact pq_fin hv) ?_
          clear e
          intro s c20 k20 g20 e
          refine ⟨?_, ?_⟩
          exact keep1 2 rfl
          refine hp_bindE (i := 5) rfl k_ (nb rfl) [0] rfl rfl (pnum_p (a := c20) hl g_) e (fun v hv => by (repeat (first | refine pq_then ?_ | refine pq_block ?_)); exact pq_fin hv) ?_
          clear e
          intro n c21 k21 g21 e
          refine ⟨?_, ?_⟩
          exact keep1 2 rfl
          refine dg_ (i := 6) r_ k_ b_ (bu_ r_ r_ r_ r_ r_ ⟨?_, ?_⟩)
          exact keep1 2 rfl
          refine dg_ (i := 7) r_ k_ b_ (bq_ r_ r_ b_ r_ r_ b_ ⟨?_, ?_⟩)
          exact keep1 2 rfl
          refine dg_ (i := 8) rfl k_ b_ (ow_apR 3 ((s, n) : Arr) (f := ArRow) rfl rfl rfl rfl rfl rfl rfl (fun _ => rfl) g_ b_ (fun v2 hv2 => ⟨?_, ?_⟩))
          exact keep1 3 rfl
          refine df_ (i := 9) rfl k_ k_ k_ b_ (by (repeat (first | refine pani_then ?_ | refine pani_block ?_)); exact pani_body) (dl_ rfl rfl rfl b_) ?_
          refine hp_tail (dj_ (i := 10) rfl k_ (by decide) (ca_ 3 rfl rfl rfl rfl b_ (ht_done k_ (ay_ (jq_againS (i := (l2, c12, n2, v2)) ((l2 ++ [(s, n)], c21, n2 - 1, v2) : List Arr × Nat × Nat × Value) ⟨⟨by dsimp only; omega, g21.2⟩, by dsimp only; omega, by dsimp only; simp only [List.length_append, List.length_singleton]; omega, e⟩ (by dsimp only; omega) ?_ ?_)))))
          · exact bc_ 2 r_ (bc_ 2 r_ (bc_ 0 r_ (bc_ 0 r_ (bc_ 0 r_ (bc_ 0 r_ sub_end)))))
          · (repeat (first | exact True.intro | refine ⟨rfl, ?_⟩))
        | false =>
          rw [lpG_stop h, bind_okE] at e
          refine am_ (R_ (M_ r_ (o_ r_ (bi_ [0] r_ r_ (has_n hl i2 h) (T_ (ap_ r_ r_ (av_ (ax_ (ax_ (ba_ (al_ (B_ ?_))))))))))))
          rw [tkD] at e
          refine jc_ownNil 87 4 g_ ?_
          refine jc_loopS (ι := List Md × Nat × Nat × Value) [] (fun i => (c12 ≤ i.2.1 ∧ i.2.1 ≤ l.length) ∧ l.length - i.2.1 ≤ i.2.2.1 ∧ i.1.length ≤ i.2.1 ∧ fin0 = finR l b TkS ((lpG l Kmode (mdG l) i.2.2.1 i.2.1 i.1).bind fun x b => tkE l nm pe de pr ji l0 l1 l2 x b))
            (fun i => [(0, Ptr b), (2, Ptr bR), (3, Ptr bT)]) (fun i => [Pz b l i.2.1, .blk bR 78 [.val (.string ⟨#[]⟩), .val (.int .i64 0), .val (.int .i64 0), .val (.int .i64 0), .val (.int .i64 0), .val (.slice none 0 0), .val (.slice none 0 0), .val (.slice none 0 0), .val (.slice none 0 0), .val (.slice none 0 0), .val (.slice none 0 0)], .blk bT 78 [.val (.string nm), .val (.int .i64 pe), .val (.int .i64 de), .val (.int .i64 pr), .val (.int .i64 ji), .val (v0), .val (v1), .val (v2), .val (i.2.2.2), .val (.slice none 0 0), .val (.slice none 0 0)], .own i.2.2.2 87 4 (i.1.map MdRow), .own v0 85 3 (l0.map InRow), .own v1 9 1 (l1.map Wrow), .own v2 80 2 (l2.map ArRow)]) (fun i => l.length - i.2.1) ([], c12, l.length + 1, .slice none 0 0) ⟨⟨Nat.le_refl _, i2⟩, by dsimp only; omega, Nat.zero_le _, e⟩ ?_ ?_ ?_
          · exact bc_ 1 r_ (bc_ 1 r_ (bc_ 1 r_ (bc_ 0 r_ (bc_ 1 r_ (bc_ 1 r_ (bc_ 0 r_ sub_end))))))
          · (repeat (first | exact True.intro | refine ⟨rfl, ?_⟩))
          clear e h hn hacc i1 i2
          rintro ⟨l3, c13, n3, v3⟩ ⟨⟨i1, i2⟩, hn, hacc, e⟩
          dsimp only at i1 i2 hn hacc e ⊢
          refine jc_reset [(0, Ptr b), (2, Ptr bR), (3, Ptr bT)] [Pz b l c13, .blk bR 78 [.val (.string ⟨#[]⟩), .val (.int .i64 0), .val (.int .i64 0), .val (.int .i64 0), .val (.int .i64 0), .val (.slice none 0 0), .val (.slice none 0 0), .val (.slice none 0 0), .val (.slice none 0 0), .val (.slice none 0 0), .val (.slice none 0 0)], .blk bT 78 [.val (.string nm), .val (.int .i64 pe), .val (.int .i64 de), .val (.int .i64 pr), .val (.int .i64 ji), .val (v0), .val (v1), .val (v2), .val (v3), .val (.slice none 0 0), .val (.slice none 0 0)], .own v3 87 4 (l3.map MdRow), .own v0 85 3 (l0.map InRow), .own v1 9 1 (l1.map Wrow), .own v2 80 2 (l2.map ArRow)] ?_ ⟨[0, 0, 0, 0, 0, 0, 0], [], rfl⟩ ?_
          · (repeat (first | exact True.intro | refine ⟨rfl, ?_⟩))
          cases h : isA l c13 Kmode with
          | true =>
            have hlt := isA_lt h
            rw [lpG_go h hn] at e
            simp only [mdG, R.bind_assoc, bind_okE] at e
            refine am_ (R_ (M_ r_ (o_ r_ (bi_ [0] r_ r_ (has_y hl i2 h) (T_ (aq_ r_ r_ (as_ (al_ (au_ (jc_hpV 13 (n := 15) rfl 2 [.string nm, .int .i64 pe, .int .i64 de, .int .i64 pr, .int .i64 ji, v0, v1, v2, v3, .slice none 0 0, .slice none 0 0] k_ rfl rfl (df_ (i := 0) rfl k_ k_ k_ b_ (by (repeat (first | refine pani_then ?_ | refine pani_block ?_)); exact pani_body) (dl_ rfl rfl rfl b_) ?_)))))))))))
            refine df_ (i := 1) rfl k_ k_ k_ b_ (by (repeat (first | refine pani_then ?_ | refine pani_block ?_)); exact pani_body) (dm_ 2 rfl rfl rfl mem0 rfl) ?_
            refine df_ (i := 2) rfl k_ k_ k_ b_ (by (repeat (first | refine pani_then ?_ | refine pani_block ?_)); exact pani_body) (dk_ rfl) ?_
            refine df_ (i := 4) rfl k_ k_ k_ b_ (by (repeat (first | refine pani_then ?_ | refine pani_block ?_)); exact pani_body) (dk_ rfl) ?_
            refine df_ (i := 6) rfl k_ k_ k_ b_ (by (repeat (first | refine pani_then ?_ | refine pani_block ?_)); exact pani_body) (dk_ rfl) ?_
            refine df_ (i := 8) rfl k_ k_ k_ b_ (by (repeat (first | refine pani_then ?_ | refine pani_block ?_)); exact pani_body) (dk_ rfl) ?_
            refine hp_bindE (i := 3) rfl k_ (nb rfl) [0] rfl rfl (pname_p (a := c13 + 1) hl g_) e (fun v hv => by (repeat (first | refine pq_then ?_ | refine pq_block ?_)); exact pq_fin hv) ?_
            clear e
            intro s c20 k20 g20 e
            refine ⟨?_, ?_⟩
            exact keep1 2 rfl
            refine hp_bindE (i := 5) rfl k_ (nb rfl) [0] rfl rfl (pname_p (a := c20) hl g_) e (fun v hv => by (repeat (first | refine pq_then ?_ | refine pq_block ?_)); exact pq_fin hv) ?_
            clear e
            intro i c21 k21 g21 e
            refine ⟨?_, ?_⟩
            exact keep1 2 rfl
            refine hp_bindE (i := 7) rfl k_ (nb rfl) [0] rfl rfl (pnumber_p (a := c21) hl g_) e (fun v hv => by (repeat (first | refine pq_then ?_ | refine pq_block ?_)); exact pq_fin hv) ?_
            clear e
            intro lo c22 k22 g22 e
            refine ⟨?_, ?_⟩
            exact keep1 2 rfl
            refine hp_bindE (i := 9) rfl k_ (nb rfl) [0] rfl rfl (pnumber_p (a := c22) hl g_) e (fun v hv => by (repeat (first | refine pq_then ?_ | refine pq_block ?_)); exact pq_fin hv) ?_
            clear e
            intro hi c23 k23 g23 e
            refine ⟨?_, ?_⟩
            exact keep1 2 rfl
            refine dg_ (i := 10) r_ k_ b_ (bu_ r_ r_ r_ r_ r_ ⟨?_, ?_⟩)
            exact keep1 2 rfl
            refine dg_ (i := 11) r_ k_ b_ (bq_ r_ r_ b_ r_ r_ b_ ⟨?_, ?_⟩)
            exact keep1 2 rfl
            refine dg_ (i := 12) rfl k_ b_ (ow_apR 3 ((s, i, lo, hi) : Md) (f := MdRow) rfl rfl rfl rfl rfl rfl rfl (fun _ => rfl) g_ b_ (fun v2 hv2 => ⟨?_, ?_⟩))
            exact keep1 3 rfl
            refine df_ (i := 13) rfl k_ k_ k_ b_ (by (repeat (first | refine pani_then ?_ | refine pani_block ?_)); exact pani_body) (dl_ rfl rfl rfl b_) ?_
            refine hp_tail (dj_ (i := 14) rfl k_ (by decide) (ca_ 3 rfl rfl rfl rfl b_ (ht_done k_ (ay_ (jq_againS (i := (l3, c13, n3, v3)) ((l3 ++ [(s, i, lo, hi)], c23, n3 - 1, v2) : List Md × Nat × Nat × Value) ⟨⟨by dsimp only; omega, g23.2⟩, by dsimp only; omega, by dsimp only; simp only [List.length_append, List.length_singleton]; omega, e⟩ (by dsimp only; omega) ?_ ?_)))))
            · exact bc_ 2 r_ (bc_ 2 r_ (bc_ 0 r_ (bc_ 0 r_ (bc_ 0 r_ (bc_ 0 r_ (bc_ 0 r_ sub_end))))))
            · (repeat (first | exact True.intro | refine ⟨rfl, ?_⟩))
          | false =>
            rw [lpG_stop h, bind_okE] at e
            refine am_ (R_ (M_ r_ (o_ r_ (bi_ [0] r_ r_ (has_n hl i2 h) (T_ (ap_ r_ r_ (av_ (ax_ (ax_ (ba_ (al_ (B_ ?_))))))))))))
            rw [tkE] at e
            refine jc_ownNil 89 2 g_ ?_
            refine jc_loopS (ι := List Clm × Nat × Nat × Value) [] (fun i => (c13 ≤ i.2.1 ∧ i.2.1 ≤ l.length) ∧ l.length - i.2.1 ≤ i.2.2.1 ∧ i.1.length ≤ i.2.1 ∧ fin0 = finR l b TkS ((lpG l Knever (clG l) i.2.2.1 i.2.1 i.1).bind fun x b => tkF l nm pe de pr ji l0 l1 l2 l3 x b))
              (fun i => [(0, Ptr b), (2, Ptr bR), (3, Ptr bT)]) (fun i => [Pz b l i.2.1, .blk bR 78 [.val (.string ⟨#[]⟩), .val (.int .i64 0), .val (.int .i64 0), .val (.int .i64 0), .val (.int .i64 0), .val (.slice none 0 0), .val (.slice none 0 0), .val (.slice none 0 0), .val (.slice none 0 0), .val (.slice none 0 0), .val (.slice none 0 0)], .blk bT 78 [.val (.string nm), .val (.int .i64 pe), .val (.int .i64 de), .val (.int .i64 pr), .val (.int .i64 ji), .val (v0), .val (v1), .val (v2), .val (v3), .val (i.2.2.2), .val (.slice none 0 0)], .own i.2.2.2 89 2 (i.1.map ClRow), .own v0 85 3 (l0.map InRow), .own v1 9 1 (l1.map Wrow), .own v2 80 2 (l2.map ArRow), .own v3 87 4 (l3.map MdRow)]) (fun i => l.length - i.2.1) ([], c13, l.length + 1, .slice none 0 0) ⟨⟨Nat.le_refl _, i2⟩, by dsimp only; omega, Nat.zero_le _, e⟩ ?_ ?_ ?_
            · exact bc_ 1 r_ (bc_ 1 r_ (bc_ 1 r_ (bc_ 0 r_ (bc_ 1 r_ (bc_ 1 r_ (bc_ 1 r_ (bc_ 0 r_ sub_end)))))))
            · (repeat (first | exact True.intro | refine ⟨rfl, ?_⟩))
            clear e h hn hacc i1 i2
            rintro ⟨l4, c14, n4, v4⟩ ⟨⟨i1, i2⟩, hn, hacc, e⟩
            dsimp only at i1 i2 hn hacc e ⊢
            refine jc_reset [(0, Ptr b), (2, Ptr bR), (3, Ptr bT)] [Pz b l c14, .blk bR 78 [.val (.string ⟨#[]⟩), .val (.int .i64 0), .val (.int .i64 0), .val (.int .i64 0), .val (.int .i64 0), .val (.slice none 0 0), .val (.slice none 0 0), .val (.slice none 0 0), .val (.slice none 0 0), .val (.slice none 0 0), .val (.slice none 0 0)], .blk bT 78 [.val (.string nm), .val (.int .i64 pe), .val (.int .i64 de), .val (.int .i64 pr), .val (.int .i64 ji), .val (v0), .val (v1), .val (v2), .val (v3), .val (v4), .val (.slice none 0 0)], .own v4 89 2 (l4.map ClRow), .own v0 85 3 (l0.map InRow), .own v1 9 1 (l1.map Wrow), .own v2 80 2 (l2.map ArRow), .own v3 87 4 (l3.map MdRow)] ?_ ⟨[0, 0, 0, 0, 0, 0, 0, 0], [], rfl⟩ ?_
            · (repeat (first | exact True.intro | refine ⟨rfl, ?_⟩))
            cases h : isA l c14 Knever with
            | true =>
              have hlt := isA_lt h
              rw [lpG_go h hn] at e
              simp only [clG, R.bind_assoc, bind_okE] at e
              refine am_ (R_ (M_ r_ (o_ r_ (bi_ [0] r_ r_ (has_y hl i2 h) (T_ (aq_ r_ r_ (as_ (al_ (au_ (jc_hpV 9 (n := 11) rfl 2 [.string nm, .int .i64 pe, .int .i64 de, .int .i64 pr, .int .i64 ji, v0, v1, v2, v3, v4, .slice none 0 0] k_ rfl rfl (df_ (i := 0) rfl k_ k_ k_ b_ (by (repeat (first | refine pani_then ?_ | refine pani_block ?_)); exact pani_body) (dl_ rfl rfl rfl b_) ?_)))))))))))
              refine df_ (i := 1) rfl k_ k_ k_ b_ (by (repeat (first | refine pani_then ?_ | refine pani_block ?_)); exact pani_body) (dm_ 2 rfl rfl rfl mem0 rfl) ?_
              refine df_ (i := 2) rfl k_ k_ k_ b_ (by (repeat (first | refine pani_then ?_ | refine pani_block ?_)); exact pani_body) (dk_ rfl) ?_
              refine df_ (i := 4) rfl k_ k_ k_ b_ (by (repeat (first | refine pani_then ?_ | refine pani_block ?_)); exact pani_body) (dk_ rfl) ?_
              refine hp_bindE (i := 3) rfl k_ (nb rfl) [0] rfl rfl (pnum_p (a := c14 + 1) hl g_) e (fun v hv => by (repeat (first | refine pq_then ?_ | refine pq_block ?_)); exact pq_fin hv) ?_
              clear e
              intro x c20 k20 g20 e
              refine ⟨?_, ?_⟩
              exact keep1 2 rfl
              refine hp_bindE (i := 5) rfl k_ (nb rfl) [0] rfl rfl (pnum_p (a := c20) hl g_) e (fun v hv => by (repeat (first | refine pq_then ?_ | refine pq_block ?_)); exact pq_fin hv) ?_
              clear e
              intro y c21 k21 g21 e
              refine ⟨?_, ?_⟩
              exact keep1 2 rfl
              refine dg_ (i := 6) r_ k_ b_ (bu_ r_ r_ r_ r_ r_ ⟨?_, ?_⟩)
              exact keep1 2 rfl
              refine dg_ (i := 7) r_ k_ b_ (bq_ r_ r_ b_ r_ r_ b_ ⟨?_, ?_⟩)
              exact keep1 2 rfl
              refine dg_ (i := 8) rfl k_ b_ (ow_apR 3 ((x, y) : Clm) (f := ClRow) rfl rfl rfl rfl rfl rfl rfl (fun _ => rfl) g_ b_ (fun v2 hv2 => ⟨?_, ?_⟩))
              exact keep1 3 rfl
              refine df_ (i := 9) rfl k_ k_ k_ b_ (by (repeat (first | refine pani_then ?_ | refine pani_block ?_)); exact pani_body) (dl_ rfl rfl rfl b_) ?_
              refine hp_tail (dj_ (i := 10) rfl k_ (by decide) (ca_ 3 rfl rfl rfl rfl b_ (ht_done k_ (ay_ (jq_againS (i := (l4, c14, n4, v4)) ((l4 ++ [(x, y)], c21, n4 - 1, v2) : List Clm × Nat × Nat × Value) ⟨⟨by dsimp only; omega, g21.2⟩, by dsimp only; omega, by dsimp only; simp only [List.length_append, List.length_singleton]; omega, e⟩ (by dsimp only; omega) ?_ ?_)))))
              · exact bc_ 2 r_ (bc_ 2 r_ (bc_ 0 r_ (bc_ 0 r_ (bc_ 0 r_ (bc_ 0 r_ (bc_ 0 r_ (bc_ 0 r_ sub_end)))))))
              · (repeat (first | exact True.intro | refine ⟨rfl, ?_⟩))
            | false =>
              rw [lpG_stop h, bind_okE] at e
              refine am_ (R_ (M_ r_ (o_ r_ (bi_ [0] r_ r_ (has_n hl i2 h) (T_ (ap_ r_ r_ (av_ (ax_ (ax_ (ba_ (al_ (R_ (M_ r_ ?_)))))))))))))
              rw [tkF, bodyG] at e
              simp only [R.bind_assoc, bind_okE] at e
              -- body
              refine jl_bindE [0] rfl rfl (pword_p hl i2 Kbody) e (fun v hv => by (repeat (first | refine pq_then ?_ | refine pq_block ?_)); exact pq_fin hv) (nb rfl) ?_
              clear e
              intro u2 b3 k3 g3 e
              refine T_ (B_ (jc_ownNil 111 8 g_ ?_))
              refine jc_loopS (ι := List Sm × Nat × Nat × Value) [] (fun i => (b3 ≤ i.2.1 ∧ i.2.1 ≤ l.length) ∧ l.length - i.2.1 ≤ i.2.2.1 ∧ i.1.length ≤ i.2.1 ∧ fin0 = finR l b TkS ((stmtsL l (stmtG l (l.length + 1) 0) 0 i.2.2.1 i.2.1 i.1).bind fun ss c => (wdG l Kend c).bind fun _ d => .ok ⟨nm, pe, de, pr, ji, l0, l1, l2, l3, l4, ss⟩ d))
                (fun i => [(0, Ptr b), (2, Ptr bR), (3, Ptr bT)]) (fun i => [Pz b l i.2.1, .blk bR 78 [.val (.string ⟨#[]⟩), .val (.int .i64 0), .val (.int .i64 0), .val (.int .i64 0), .val (.int .i64 0), .val (.slice none 0 0), .val (.slice none 0 0), .val (.slice none 0 0), .val (.slice none 0 0), .val (.slice none 0 0), .val (.slice none 0 0)], .blk bT 78 [.val (.string nm), .val (.int .i64 pe), .val (.int .i64 de), .val (.int .i64 pr), .val (.int .i64 ji), .val (v0), .val (v1), .val (v2), .val (v3), .val (v4), .val (i.2.2.2)], .own i.2.2.2 111 8 (i.1.map Sm.row'), .own v0 85 3 (l0.map InRow), .own v1 9 1 (l1.map Wrow), .own v2 80 2 (l2.map ArRow), .own v3 87 4 (l3.map MdRow), .own v4 89 2 (l4.map ClRow)]) (fun i => l.length + 1 - i.2.1) ([], b3, l.length + 1, .slice none 0 0) ⟨⟨Nat.le_refl _, g3.2⟩, by dsimp only; omega, Nat.zero_le _, e⟩ ?_ ?_ ?_
              · exact bc_ 1 r_ (bc_ 1 r_ (bc_ 1 r_ (bc_ 0 r_ (bc_ 1 r_ (bc_ 1 r_ (bc_ 1 r_ (bc_ 1 r_ (bc_ 0 r_ sub_end))))))))
              · (repeat (first | exact True.intro | refine ⟨rfl, ?_⟩))
              clear e h hn hacc i1 i2 g3 k3
              rintro ⟨ss, c, n, v⟩ ⟨⟨j1, j2⟩, hn2, hacc2, e⟩
              dsimp only at j1 j2 hn2 hacc2 e ⊢
              refine jc_reset [(0, Ptr b), (2, Ptr bR), (3, Ptr bT)] [Pz b l c, .blk bR 78 [.val (.string ⟨#[]⟩), .val (.int .i64 0), .val (.int .i64 0), .val (.int .i64 0), .val (.int .i64 0), .val (.slice none 0 0), .val (.slice none 0 0), .val (.slice none 0 0), .val (.slice none 0 0), .val (.slice none 0 0), .val (.slice none 0 0)], .blk bT 78 [.val (.string nm), .val (.int .i64 pe), .val (.int .i64 de), .val (.int .i64 pr), .val (.int .i64 ji), .val (v0), .val (v1), .val (v2), .val (v3), .val (v4), .val (v)], .own v 111 8 (ss.map Sm.row'), .own v0 85 3 (l0.map InRow), .own v1 9 1 (l1.map Wrow), .own v2 80 2 (l2.map ArRow), .own v3 87 4 (l3.map MdRow), .own v4 89 2 (l4.map ClRow)] ?_ ⟨[0, 0, 0, 0, 0, 0, 0, 0, 0], [], rfl⟩ ?_
              · (repeat (first | exact True.intro | refine ⟨rfl, ?_⟩))
              cases h2 : isA l c Kend with
              | true =>
                rw [stmtsL_stop (start_end h2), bind_okE, wdG_y h2, bind_okE] at e
                refine am_ (R_ (M_ r_ (o_ r_ (bi_ [0] r_ r_ (has_y hl j2 h2) (o_ r_ (cd_ r_ (T_ (ap_ r_ r_ (av_ (ax_ (ax_ (ba_ (al_ (R_ (A_ 2 r_ (S_ 1 r_ (T_ ?_)))))))))))))))))
                refine ar_ (jq_freezeBi 4 0 5 rfl rfl rfl (by rw [hc]; simp [hb, Ch.bs]) (jq_freezeBi 4 0 6 rfl rfl rfl (by rw [hc]; simp [hb, Ch.bs]) (jq_freezeBi 4 0 7 rfl rfl rfl (by rw [hc]; simp [hb, Ch.bs]) (jq_freezeBi 4 0 8 rfl rfl rfl (by rw [hc]; simp [hb, Ch.bs]) (jq_freezeBi 4 0 9 rfl rfl rfl (by rw [hc]; simp [hb, Ch.bs]) (jq_freezeBi 3 0 10 rfl rfl rfl (by rw [hc]; simp [hb, Ch.bs]) (jq_fin e ?_)))))))
                exact jq_retRowS rfl rfl rfl rfl 0 rfl (fun K h => by rw [smrows]; exact h) (bc_ 1 r_ sub_end)
              | false =>
                rw [stmts_goK h2 hn2] at e
                have eS : (ss.map Sm.row').length = ss.length := List.length_map _
                refine am_ (R_ (M_ r_ (o_ r_ (bi_ [0] r_ r_ (has_n hl j2 h2) (o_ r_ (cd_ r_ (T_ (aq_ r_ r_ (as_ (al_ (au_ (jc_hpV 6 (n := 11) rfl 2 [.string nm, .int .i64 pe, .int .i64 de, .int .i64 pr, .int .i64 ji, v0, v1, v2, v3, v4, v] k_ rfl rfl (df_ (i := 0) rfl k_ k_ k_ b_ (by (repeat (first | refine pani_then ?_ | refine pani_block ?_)); exact pani_body) (dl_ rfl rfl rfl b_) ?_)))))))))))))
                refine df_ (i := 1) rfl k_ k_ k_ b_ (by (repeat (first | refine pani_then ?_ | refine pani_block ?_)); exact pani_body) (dm_ 2 rfl rfl rfl mem0 rfl) ?_
                refine df_ (i := 2) rfl k_ k_ k_ b_ (by (repeat (first | refine pani_then ?_ | refine pani_block ?_)); exact pani_body) (dk_ rfl) ?_
                refine df_ (i := 4) rfl k_ k_ k_ b_ (by (repeat (first | refine pani_then ?_ | refine pani_block ?_)); exact pani_body) (hok_lenown 3 rfl rfl (by rw [eS]; omega)) ?_
                refine hp_two_bindE (i := 5) (j := 3) rfl rfl (by kernel_rfl) (by kernel_rfl) (by kernel_rfl) (nb rfl) (nb rfl) rfl rfl (keep1 2 rfl) (ow_buildSliceC zSmV rfl rfl rfl rfl (nb rfl) rfl (nb rfl) ⟨rfl, rfl⟩) (fun _ _ => ow_buildSliceC zSmV rfl rfl rfl rfl (nb rfl) rfl (nb rfl) ⟨rfl, rfl⟩)
                  [0] rfl rfl (hS b 0 c _ (by omega) (by omega) j2 (by omega)) e (fun v hv => by (repeat (first | refine pq_then ?_ | refine pq_block ?_)); exact pq_fin hv) (fun s c2 k2 g4 e => ⟨?_, ?_⟩)
                · exact keep1 2 rfl
                refine dg_ (i := 6) rfl k_ b_ (ow_apRow 3 rfl rfl rfl rfl rfl rfl rfl rfl g_ b_ (fun w2 hw2 => ⟨?_, ?_⟩))
                · exact keep1 3 rfl
                refine hp_rest (n := 11) k_ (df_ (i := 9) rfl k_ k_ k_ b_ (by (repeat (first | refine pani_then ?_ | refine pani_block ?_)); exact pani_body) (dl_ rfl rfl rfl b_) ?_)
                refine df_ (i := 7) rfl k_ k_ k_ b_ (by (repeat (first | refine pani_then ?_ | refine pani_block ?_)); exact pani_body) (hok_indexOwn 0 rfl rfl rfl g_ (by simp only [List.length_append, List.length_singleton]; omega) rfl) ?_
                have e9 : ((ss.map Sm.row') ++ [zSm]).set ss.length s.row' = (ss ++ [s]).map Sm.row' := by rw [set_snoc _ _ _ _ eS.symm, List.map_append]; rfl
                refine hp_both0 (i := 8) (j := 10) rfl rfl k_ (ow_storeInnAll (row := zSm) 0 ss.length rfl rfl rfl rfl g_ (get_snoc _ _ _ eS.symm) rfl rfl rfl ⟨keepT, ?_⟩) (ca_ 3 rfl rfl rfl rfl (nb rfl) ⟨keepT, ?_⟩)
                · refine dh_ (i := 10) r_ k_ (ca_ 3 r_ r_ r_ r_ b_ ⟨keepT, (hp_done k_ (ay_ (jq_againS (i := (ss, c, n, v)) ((ss ++ [s], c2, n - 1, w2) : List Sm × Nat × Nat × Value) ⟨⟨by dsimp only; omega, g4.2⟩, by dsimp only; omega, by dsimp only; simp only [List.length_append, List.length_singleton]; omega, e⟩ (by dsimp only; omega) ?_ ?_)))⟩)
                  · dsimp only
                    rw [← e9]
                    exact bc_ 2 r_ (bc_ 2 r_ (bc_ 0 r_ (bc_ 0 r_ (bc_ 0 r_ (bc_ 0 r_ (bc_ 0 r_ (bc_ 0 r_ (bc_ 0 r_ sub_end))))))))
                  · (repeat (first | exact True.intro | refine ⟨rfl, ?_⟩))
                · refine dh_ (i := 8) r_ k_ (ow_storeInnAll (row := zSm) 1 ss.length r_ r_ r_ r_ g_ (get_snoc _ _ _ eS.symm) r_ r_ r_ ⟨keepT, (hp_done k_ (ay_ (jq_againS (i := (ss, c, n, v)) ((ss ++ [s], c2, n - 1, w2) : List Sm × Nat × Nat × Value) ⟨⟨by dsimp only; omega, g4.2⟩, by dsimp only; omega, by dsimp only; simp only [List.length_append, List.length_singleton]; omega, e⟩ (by dsimp only; omega) ?_ ?_)))⟩)
                  · dsimp only
                    rw [← e9]
                    exact bc_ 2 r_ (bc_ 2 r_ (bc_ 1 r_ (bc_ 0 r_ (bc_ 0 r_ (bc_ 0 r_ (bc_ 0 r_ (bc_ 0 r_ (bc_ 0 r_ sub_end))))))))
                  · (repeat (first | exact True.intro | refine ⟨rfl, ?_⟩))
end
end Go.Proofs.YtlniadfidfmckaaDoor
end

section
namespace Go.Proofs.YtlniadfidfmckaaDoor
open Go.Vc
set_option maxHeartbeats 1000000

theorem byteAt_pre (s : ByteArray) (n : Nat) (h : 0 < n) : byteAt (s.extract 0 n) 0 = byteAt s 0 := by
  rw [byteAt_getD, byteAt_getD, extract_bytes, List.drop_zero, List.getD_eq_getElem?_getD, List.getD_eq_getElem?_getD, List.getElem?_take_of_lt (by omega)]
theorem nextT_nm {s : ByteArray} (h : (nextT s).1.1 = 1) : ¬ (nextT s).1.2.2 = Kcb := by
  unfold nextT at h ⊢
  by_cases h1 : 0 < nameLen s
  · rw [if_pos h1] at h ⊢
    by_cases h2 : 12 < nameLen s
    · rw [if_pos h2] at h; exact absurd h (by decide)
    · rw [if_neg h2]
      intro e
      have hb := byteAt_pre s (nameLen s) h1
      rw [show s.extract 0 (nameLen s) = Kcb from e] at hb
      have h3 : isL (byteAt s 0) = true := by
        unfold nameLen at h1
        split at h1
        · rename_i h; exact h.2
        · omega
      rw [← hb] at h3
      exact absurd h3 (by decide +kernel)
  · rw [if_neg h1] at h
    split at h
    · split at h
      · exact absurd (show (0 : Int) = 1 from h) (by decide)
      · exact absurd (show (2 : Int) = 1 from h) (by decide)
    · exact absurd (show (3 : Int) = 1 from h) (by decide)
def TokOk (t : Tok) : Prop := t.kind = 1 → ¬ t.text = Kcb
theorem scanGo_toks (s : ByteArray) : ∀ (m k : Nat) (line : Int) (out : List Tok), s.size - k ≤ m → (∀ t ∈ out, TokOk t) → ∀ t ∈ (scanGo s k line out).1, TokOk t
  | 0, k, line, out, h, ho => by
    rw [scanGo, dif_neg (by omega)]
    exact ho
  | m + 1, k, line, out, h, ho => by
    rw [scanGo]
    split
    · split
      · exact scanGo_toks s m _ _ _ (by omega) ho
      · split
        · exact scanGo_toks s m _ _ _ (by omega) ho
        · split
          · intro t ht; cases ht
          · rename_i hn
            refine scanGo_toks s m _ _ _ (by omega) ?_
            intro t ht
            rcases List.mem_append.1 ht with ht | ht
            · exact ho t ht
            · obtain rfl := List.mem_singleton.1 ht
              exact fun hk => nextT_nm hk
    · exact ho
theorem scan_nm (s : ByteArray) : NmOk (scan s).1 := by
  have hq : ∀ t ∈ (scan s).1, TokOk t := by
    unfold scan
    split
    · intro t ht; cases ht
    · exact scanGo_toks s s.size 0 1 [] (by omega) (fun t ht => by cases ht)
  intro a ha
  have hlt := isNm_lt ha
  rw [isNm_get hlt] at ha
  rw [isA_get _ hlt]
  simp only [Bool.and_eq_true, decide_eq_true_eq] at ha
  rw [decide_eq_false (hq _ (List.getElem_mem hlt) ha.1), Bool.and_false]
end Go.Proofs.YtlniadfidfmckaaDoor
end

section
namespace Go.Proofs.YtlniadfidfmckaaDoor
open Go.Vc
attribute [local irreducible] JL JC JQ OpWp Con ConN Pan ConE OpPan HP HT HOk ConD JLD JCD JQD
set_option maxHeartbeats 4000000

theorem try1_idle (b1 b2 : Nat) : ConD Tryd.prog 34 [Ptr b1, Ptr b2] [] .returning .returning [] := by
  exact cond_intro Tryd.func34 rfl rfl (Nat.le_of_ble_eq_true rfl) (fun c hc c₀ cs hu a w hs => wps_recover (v := .nilIface) hs (nb rfl) (nb rfl) rfl (.inr ⟨by simp [recoverD, hu], rfl, rfl⟩) (R_ (M_ r_ (o_ r_ (ow_neqNilIface r_ r_ (T_ (ap_ r_ r_ (as_ (jq_retD rfl (by rw [← hu]) sub_end)))))))))
theorem try1_pan (b1 b2 : Nat) (n code : Int) : ConD Tryd.prog 34 [Ptr b1, Ptr b2] [.blk b1 57 [.val (.int .i64 0), .val (.int .i64 0)], .blk b2 4 [.val (.bool false)]]
    (.panicking [{ v := .iface 57 (.agg #[.int .i64 n, .int .i64 code]), recovered := false }]) (.panicking [{ v := .iface 57 (.agg #[.int .i64 n, .int .i64 code]), recovered := true }])
    [.blk b1 57 [.val (.int .i64 n), .val (.int .i64 code)], .blk b2 4 [.val (.bool true)]] := by
  refine cond_intro Tryd.func34 rfl rfl (Nat.le_of_ble_eq_true rfl) (fun c hc c₀ cs hu a w hs => wps_recover (v := .iface 57 (.agg #[.int .i64 n, .int .i64 code])) (cs' := { c₀ with mode := .panicking [{ v := .iface 57 (.agg #[.int .i64 n, .int .i64 code]), recovered := true }] } :: cs) hs (nb rfl) (nb rfl) rfl (.inl (by simp [recoverD, hu])) (R_ (M_ r_ (o_ r_ (ow_neqIface r_ r_ (T_ (aq_ r_ r_ (an_ (M_ r_ ?_)))))))))
  exact o_ r_ (ow_typeAssert (vs := [.int .i64 n, .int .i64 code]) r_ r_ r_ (S_ 0 r_ (W_ 1 r_ (ak_ (jq_retD rfl rfl (bc_ 1 r_ (bc_ 0 r_ sub_end)))))))
abbrev Zp : List C := [.val (.slice none 0 0), .val (.slice none 0 0), .val (.slice none 0 0)]
abbrev tfv (bp bo : Nat) : Value := .func (.func 18) #[] #[.pointer (some ⟨bp, 0, none⟩), .pointer (some ⟨bo, 0, none⟩)]
abbrev Tin (l : List Tok) (b bp bo : Nat) : List Ch := [.blk bp 53 [.val (.pointer (some ⟨b, 0, none⟩))], .blk bo 33 Zp, Pz b l 0]
theorem try_ret {l : List Tok} {b bp bo : Nat} {Hout : List Ch} (con : Con Tryd.prog 18 [Ptr bp, Ptr bo] (Tin l b bp bo) (fun K => K (.tup []) Hout)) (hO : ∃ x y z, Hout = [x, y, z]) :
    Con Tryd.prog 17 [.cell (.val (tfv bp bo))] (Tin l b bp bo) (fun K => K (.tup [.row [.val (.int .i64 0), .val (.int .i64 0)], Bl false]) Hout) := by
  obtain ⟨hx, hy, hz, rfl⟩ := hO
  refine con_introD Tryd.func17 rfl rfl (Nat.le_of_ble_eq_true rfl) (fun c hc => R_ (o_ r_ (bl_ r_ r_ (fun bl => o_ r_ (bl_ r_ r_ (fun bl => T_ (R_ (o_ r_ (ow_makeFunc r_ ?_)))))))))
  rename_i b1
  refine jl_defer rfl (jld_nil (jq_thenD (jcd_seq (jcd_region (jld_op (bd_ rfl (jld_op (cx_ (cs := [Ptr _, Ptr _]) [2, 2, 2] rfl rfl (fun _ _ => ⟨_, _, rfl, ⟨rfl, rfl⟩, _, _, rfl, ⟨rfl, rfl⟩, rfl⟩) rfl con (jld_nil (jq_thenD (jcd_seq (jcd_region (jld_op (bu_ rfl rfl rfl rfl rfl ?_) (nb rfl) (fun _ _ _ _ _ => nd_build))))))) (nb rfl) (nd_callv rfl))) (nb rfl) (fun _ _ _ _ _ => nd_move))))))
  exact jld_op0 (bk_ 4 rfl rfl rfl rfl rfl rfl (jld_op0 (ca_ 4 rfl rfl rfl rfl (nb rfl) (jld_nil (jq_thenD (jcd_ret (jqd_ret (ss := [Ptr b1, Ptr bl]) [] rfl (fun _ _ => ⟨_, _, rfl, ⟨rfl, rfl⟩, _, _, rfl, ⟨rfl, rfl⟩, rfl⟩) (try1_idle b1 bl) (jq_retRowC rfl rfl rfl rfl rfl rfl 1 0 rfl rfl (fun K h => h) (bc_ 2 r_ (bc_ 2 r_ (bc_ 2 r_ sub_end))))))))) (fun _ _ _ _ _ => nd_store))) (fun _ _ _ _ _ => nd_store)
theorem try_pan {l : List Tok} {b bp bo : Nat} {n code : Int} (con : Pan Tryd.prog 18 [Ptr bp, Ptr bo] (Tin l b bp bo) (.iface 57 (.agg #[.int .i64 n, .int .i64 code]))) :
    Con Tryd.prog 17 [.cell (.val (tfv bp bo))] (Tin l b bp bo) (fun K => K (.tup [.row [.val (.int .i64 n), .val (.int .i64 code)], Bl true]) []) := by
  refine con_introD Tryd.func17 rfl rfl (Nat.le_of_ble_eq_true rfl) (fun c hc => R_ (o_ r_ (bl_ r_ r_ (fun bl => o_ r_ (bl_ r_ r_ (fun bl => T_ (R_ (o_ r_ (ow_makeFunc r_ ?_)))))))))
  rename_i b1
  refine jl_defer rfl (jld_nil (jq_thenD (jcd_seq (jcd_region (jld_op (bd_ rfl (jld_pan (ss := [Ptr b1, Ptr bl]) (cs := [Ptr _, Ptr _]) (is := [2, 2, 2]) (is' := [1, 0]) rfl (fun _ _ => ⟨_, _, rfl, ⟨rfl, rfl⟩, _, _, rfl, ⟨rfl, rfl⟩, rfl⟩) rfl con rfl rfl (fun _ _ => ⟨_, _, rfl, ⟨rfl, rfl⟩, _, _, rfl, ⟨rfl, rfl⟩, rfl⟩) (try1_pan b1 bl n code) (fun _ _ => rfl) ?_)) (nb rfl) (fun _ _ _ _ _ => nd_move))))))
  exact jq_retRowC rfl rfl rfl rfl rfl rfl 0 1 rfl rfl (fun K h => h) sub_end
end Go.Proofs.YtlniadfidfmckaaDoor
end

section
namespace Go.Proofs.YtlniadfidfmckaaDoor
open Go.Vc
set_option maxHeartbeats 4000000

def pgB (l : List Tok) (r : List ByteArray) (s : List Shd) (b : Nat) : R Pg := (tasksL l (l.length + 1) b []).bind fun t b => .ok ⟨r, s, t⟩ b
def pgA (l : List Tok) (r : List ByteArray) (b : Nat) : R Pg := (lpG l Kshared (shG l) (l.length + 1) b []).bind fun s b => pgB l r s b
theorem progG_eq (l : List Tok) : progG l = (lpG l Kresource (nmG l) (l.length + 1) 0 []).bind fun r b => pgA l r b := rfl
theorem tasksL_stop {l : List Tok} {a : Nat} (h : ¬ a < l.length) (n : Nat) (acc : List Tk) : tasksL l n a acc = .ok acc a := by
  cases n with
  | zero => rw [tasksL]
  | succ n => rw [tasksL, if_neg h]
theorem tasksL_go {β : Type} {l : List Tok} {a n : Nat} (h : a < l.length) (hn : l.length - a ≤ n) (acc : List Tk) (K : List Tk → Nat → R β) : (tasksL l n a acc).bind K = (wdG l Ktask a).bind fun _ b => (taskG l b).bind fun t c => (tasksL l (n - 1) c (acc ++ [t])).bind K := by
  obtain ⟨n, rfl⟩ : ∃ m, n = m + 1 := ⟨n - 1, by omega⟩
  rw [tasksL, if_pos h]
  simp only [R.bind_assoc]
  rfl
abbrev PgS (p : Pg) : S := .row p.row
theorem scanGo_len (s : ByteArray) : ∀ (m k : Nat) (line : Int) (out : List Tok), s.size - k ≤ m → (scanGo s k line out).1.length ≤ out.length + m
  | 0, k, line, out, h => by
    rw [scanGo, dif_neg (by omega)]
    exact Nat.le_refl _
  | m + 1, k, line, out, h => by
    rw [scanGo]
    split
    · split
      · have := scanGo_len s m (k + 1) (line + 1) out (by omega); omega
      · split
        · have := scanGo_len s m (k + 1) line out (by omega); omega
        · split
          · exact Nat.zero_le _
          · rename_i hn
            refine Nat.le_trans (scanGo_len s m _ _ _ (by omega)) ?_
            simp only [List.length_append, List.length_singleton]
            omega
    · exact Nat.le_add_right _ _
theorem scan_len (s : ByteArray) : (scan s).1.length ≤ 1000000 := by
  unfold scan
  split
  · exact Nat.zero_le _
  · have := scanGo_len s s.size 0 1 [] (by omega)
    simp only [List.length_nil] at this
    omega
def PRow : Option Pg → List C
  | none => Zp
  | some p => p.row
end Go.Proofs.YtlniadfidfmckaaDoor
end

section
namespace Go.Proofs.YtlniadfidfmckaaDoor
open Go.Vc
set_option maxHeartbeats 4000000

attribute [local irreducible] JL JC JQ OpWp Con ConN Pan ConE OpPan HP HT HOk hasW idxW isA isNum isNm numAt txtAt lineAt opAt lx lpx sx sxp exG startA stmtG stmtsL blkG wdG nmG nuG nbG lpG dcG stG taskG tasksL pgA pgB
section
variable {l : List Tok} (hl : l.length ≤ 1000000)
include hl
theorem pprog_p (hN : NmOk l) {b : Nat} : ConE Tryd.prog 19 [Ptr b] [Pz b l 0] (finR l b PgS (progG l)) := by
  have eL : (l.map Tok.row).length = l.length := List.length_map _
  refine con_introE Tryd.func19 rfl rfl (Nat.le_of_ble_eq_true rfl) (fun c hc => ?_)
  generalize hfin : finR l b PgS (progG l) = fin0
  have e := hfin.symm
  clear hfin
  rw [progG_eq] at e
  refine R_ (o_ r_ (bl_ r_ r_ (fun bl => T_ (R_ (o_ r_ (bl_ r_ r_ (fun bl => T_ (B_ ?_))))))))
  rename_i bR
  revert bl
  intro bT
  refine jc_ownNil 9 1 g_ ?_
  refine jc_loopS (ι := List ByteArray × Nat × Nat × Value) [] (fun i => i.2.1 ≤ l.length ∧ l.length - i.2.1 ≤ i.2.2.1 ∧ i.1.length ≤ i.2.1 ∧ fin0 = finR l b PgS ((lpG l Kresource (nmG l) i.2.2.1 i.2.1 i.1).bind fun x b => pgA l x b))
    (fun i => [(0, Ptr b), (2, Ptr bR), (3, Ptr bT)]) (fun i => [Pz b l i.2.1, .blk bR 33 Zp, .blk bT 33 [.val i.2.2.2, .val (.slice none 0 0), .val (.slice none 0 0)], .own i.2.2.2 9 1 (i.1.map Wrow)]) (fun i => l.length - i.2.1) ([], 0, l.length + 1, .slice none 0 0) ⟨Nat.zero_le _, by dsimp only; omega, Nat.zero_le _, e⟩ ?_ ?_ ?_
  · exact bc_ 3 r_ (bc_ 2 r_ (bc_ 1 r_ (bc_ 0 r_ sub_end)))
  · (repeat (first | exact True.intro | refine ⟨rfl, ?_⟩))
  clear e
  rintro ⟨l0, c, n0, v0⟩ ⟨i2, hn, hacc, e⟩
  dsimp only at i2 hn hacc e ⊢
  refine jc_reset [(0, Ptr b), (2, Ptr bR), (3, Ptr bT)] [Pz b l c, .blk bR 33 Zp, .blk bT 33 [.val v0, .val (.slice none 0 0), .val (.slice none 0 0)], .own v0 9 1 (l0.map Wrow)] ?_ ⟨[0, 0, 0, 0], [], rfl⟩ ?_
  · (repeat (first | exact True.intro | refine ⟨rfl, ?_⟩))
  cases h : isA l c Kresource with
  | true =>
    have hlt := isA_lt h
    rw [lpG_go h hn] at e
    refine am_ (R_ (M_ r_ (o_ r_ (bi_ [0] r_ r_ (has_y hl i2 h) (T_ (aq_ r_ r_ (as_ (al_ (au_ (jc_hpV 6 (n := 8) rfl 2 [v0, .slice none 0 0, .slice none 0 0] k_ rfl rfl (df_ (i := 0) rfl k_ k_ k_ b_ (by (repeat (first | refine pani_then ?_ | refine pani_block ?_)); exact pani_body) (dl_ rfl rfl rfl b_) ?_)))))))))))
    refine df_ (i := 1) rfl k_ k_ k_ b_ (by (repeat (first | refine pani_then ?_ | refine pani_block ?_)); exact pani_body) (dm_ 2 rfl rfl rfl mem0 rfl) ?_
    refine df_ (i := 2) rfl k_ k_ k_ b_ (by (repeat (first | refine pani_then ?_ | refine pani_block ?_)); exact pani_body) (dk_ rfl) ?_
    refine hp_bindE (i := 3) rfl k_ (nb rfl) [0] rfl rfl (pname_p (a := c + 1) hl g_) e (fun v hv => by (repeat (first | refine pq_then ?_ | refine pq_block ?_)); exact pq_fin hv) ?_
    clear e
    intro s c20 k20 g20 e
    refine ⟨?_, ?_⟩
    exact keep1 2 rfl
    refine dg_ (i := 4) r_ k_ b_ (bq_ r_ r_ b_ r_ r_ b_ ⟨?_, ?_⟩)
    exact keep1 2 rfl
    refine dg_ (i := 5) rfl k_ b_ (ow_apR 3 (s : ByteArray) (f := Wrow) rfl rfl rfl rfl rfl rfl rfl (fun _ => rfl) g_ b_ (fun v2 hv2 => ⟨?_, ?_⟩))
    exact keep1 3 rfl
    refine df_ (i := 6) rfl k_ k_ k_ b_ (by (repeat (first | refine pani_then ?_ | refine pani_block ?_)); exact pani_body) (dl_ rfl rfl rfl b_) ?_
    refine hp_tail (dj_ (i := 7) rfl k_ (by decide) (ca_ 3 rfl rfl rfl rfl b_ (ht_done k_ (ay_ (jq_againS (i := (l0, c, n0, v0)) ((l0 ++ [s], c20, n0 - 1, v2) : List ByteArray × Nat × Nat × Value) ⟨g20.2, by dsimp only; omega, by dsimp only; simp only [List.length_append, List.length_singleton]; omega, e⟩ (by dsimp only; omega) ?_ ?_)))))
    · exact bc_ 2 r_ (bc_ 2 r_ (bc_ 0 r_ (bc_ 0 r_ sub_end)))
    · (repeat (first | exact True.intro | refine ⟨rfl, ?_⟩))
  | false =>
    rw [lpG_stop h, bind_okE] at e
    refine am_ (R_ (M_ r_ (o_ r_ (bi_ [0] r_ r_ (has_n hl i2 h) (T_ (ap_ r_ r_ (av_ (ax_ (ax_ (ba_ (al_ (B_ ?_))))))))))))
    rw [pgA] at e
    refine jc_ownNil 82 3 g_ ?_
    refine jc_loopS (ι := List Shd × Nat × Nat × Value) [] (fun i => i.2.1 ≤ l.length ∧ l.length - i.2.1 ≤ i.2.2.1 ∧ i.1.length ≤ i.2.1 ∧ fin0 = finR l b PgS ((lpG l Kshared (shG l) i.2.2.1 i.2.1 i.1).bind fun x b => pgB l l0 x b))
      (fun i => [(0, Ptr b), (2, Ptr bR), (3, Ptr bT)]) (fun i => [Pz b l i.2.1, .blk bR 33 Zp, .blk bT 33 [.val v0, .val i.2.2.2, .val (.slice none 0 0)], .own i.2.2.2 82 3 (i.1.map ShRow), .own v0 9 1 (l0.map Wrow)]) (fun i => l.length - i.2.1) ([], c, l.length + 1, .slice none 0 0) ⟨i2, by dsimp only; omega, Nat.zero_le _, e⟩ ?_ ?_ ?_
    · exact bc_ 1 r_ (bc_ 1 r_ (bc_ 1 r_ (bc_ 0 r_ (bc_ 0 r_ sub_end))))
    · (repeat (first | exact True.intro | refine ⟨rfl, ?_⟩))
    clear e
    rintro ⟨l1, c1, n1, v1⟩ ⟨j2, hn1, hacc1, e⟩
    dsimp only at j2 hn1 hacc1 e ⊢
    refine jc_reset [(0, Ptr b), (2, Ptr bR), (3, Ptr bT)] [Pz b l c1, .blk bR 33 Zp, .blk bT 33 [.val v0, .val v1, .val (.slice none 0 0)], .own v1 82 3 (l1.map ShRow), .own v0 9 1 (l0.map Wrow)] ?_ ⟨[0, 0, 0, 0, 0], [], rfl⟩ ?_
    · (repeat (first | exact True.intro | refine ⟨rfl, ?_⟩))
    cases h : isA l c1 Kshared with
    | true =>
      have hlt := isA_lt h
      rw [lpG_go h hn1] at e
      simp only [shG, R.bind_assoc, bind_okE] at e
      refine am_ (R_ (M_ r_ (o_ r_ (bi_ [0] r_ r_ (has_y hl j2 h) (T_ (aq_ r_ r_ (as_ (al_ (au_ (jc_hpV 12 (n := 14) rfl 2 [v0, v1, .slice none 0 0] k_ rfl rfl (df_ (i := 0) rfl k_ k_ k_ b_ (by (repeat (first | refine pani_then ?_ | refine pani_block ?_)); exact pani_body) (dl_ rfl rfl rfl b_) ?_)))))))))))
      refine df_ (i := 1) rfl k_ k_ k_ b_ (by (repeat (first | refine pani_then ?_ | refine pani_block ?_)); exact pani_body) (dm_ 2 rfl rfl rfl mem0 rfl) ?_
      refine df_ (i := 2) rfl k_ k_ k_ b_ (by (repeat (first | refine pani_then ?_ | refine pani_block ?_)); exact pani_body) (dk_ rfl) ?_
      refine df_ (i := 4) rfl k_ k_ k_ b_ (by (repeat (first | refine pani_then ?_ | refine pani_block ?_)); exact pani_body) (dk_ rfl) ?_
      refine df_ (i := 7) rfl k_ k_ k_ b_ (by (repeat (first | refine pani_then ?_ | refine pani_block ?_)); exact pani_body) (dk_ rfl) ?_
      refine hp_bindE (i := 3) rfl k_ (nb rfl) [0] rfl rfl (pname_p (a := c1 + 1) hl g_) e (fun v hv => by (repeat (first | refine pq_then ?_ | refine pq_block ?_)); exact pq_fin hv) ?_
      clear e
      intro s c20 k20 g20 e
      refine ⟨?_, ?_⟩
      exact keep1 2 rfl
      refine hp_bindE (i := 5) rfl k_ (nb rfl) [0] rfl rfl (pnum_p (a := c20) hl g_) e (fun v hv => by (repeat (first | refine pq_then ?_ | refine pq_block ?_)); exact pq_fin hv) ?_
      clear e
      intro n c21 k21 g21 e
      refine ⟨?_, ?_⟩
      exact keep1 2 rfl
      refine df_ (i := 6) rfl k_ k_ k_ b_ (by (repeat (first | refine pani_then ?_ | refine pani_block ?_)); exact pani_body) (hok_build rfl rfl rfl rfl rfl) ?_
      refine hp_bindE (i := 8) rfl k_ (nb rfl) [0] rfl rfl (pname_p (a := c21) hl g_) e (fun v hv => by (repeat (first | refine pq_then ?_ | refine pq_block ?_)); exact pq_fin hv) ?_
      clear e
      intro r c22 k22 g22 e
      refine ⟨?_, ?_⟩
      exact keep1 2 rfl
      refine df_ (i := 9) rfl k_ k_ k_ b_ (by (repeat (first | refine pani_then ?_ | refine pani_block ?_)); exact pani_body) (hok_build rfl rfl rfl rfl rfl) ?_
      refine dg_ (i := 10) r_ k_ b_ (bq_ r_ r_ b_ r_ r_ b_ ⟨?_, ?_⟩)
      exact keep1 2 rfl
      refine dg_ (i := 11) rfl k_ b_ (ow_apR 3 ((s, n, r) : Shd) (f := ShRow) rfl rfl rfl rfl rfl rfl rfl (fun _ => rfl) g_ b_ (fun v2 hv2 => ⟨?_, ?_⟩))
      exact keep1 3 rfl
      refine df_ (i := 12) rfl k_ k_ k_ b_ (by (repeat (first | refine pani_then ?_ | refine pani_block ?_)); exact pani_body) (dl_ rfl rfl rfl b_) ?_
      refine hp_tail (dj_ (i := 13) rfl k_ (by decide) (ca_ 3 rfl rfl rfl rfl b_ (ht_done k_ (ay_ (jq_againS (i := (l1, c1, n1, v1)) ((l1 ++ [(s, n, r)], c22, n1 - 1, v2) : List Shd × Nat × Nat × Value) ⟨g22.2, by dsimp only; omega, by dsimp only; simp only [List.length_append, List.length_singleton]; omega, e⟩ (by dsimp only; omega) ?_ ?_)))))
      · exact bc_ 2 r_ (bc_ 2 r_ (bc_ 0 r_ (bc_ 0 r_ (bc_ 0 r_ sub_end))))
      · (repeat (first | exact True.intro | refine ⟨rfl, ?_⟩))
    | false =>
      rw [lpG_stop h, bind_okE] at e
      refine am_ (R_ (M_ r_ (o_ r_ (bi_ [0] r_ r_ (has_n hl j2 h) (T_ (ap_ r_ r_ (av_ (ax_ (ax_ (ba_ (al_ (B_ ?_))))))))))))
      rw [pgB] at e
      refine jc_ownNil 78 11 g_ ?_
      refine jc_loopS (ι := List Tk × Nat × Nat × Value) [] (fun i => i.2.1 ≤ l.length ∧ l.length - i.2.1 ≤ i.2.2.1 ∧ i.1.length ≤ i.2.1 ∧ fin0 = finR l b PgS ((tasksL l i.2.2.1 i.2.1 i.1).bind fun x b => .ok ⟨l0, l1, x⟩ b))
        (fun i => [(0, Ptr b), (2, Ptr bR), (3, Ptr bT)]) (fun i => [Pz b l i.2.1, .blk bR 33 Zp, .blk bT 33 [.val v0, .val v1, .val i.2.2.2], .own i.2.2.2 78 11 (i.1.map Tk.row), .own v1 82 3 (l1.map ShRow), .own v0 9 1 (l0.map Wrow)]) (fun i => l.length - i.2.1) ([], c1, l.length + 1, .slice none 0 0) ⟨j2, by dsimp only; omega, Nat.zero_le _, e⟩ ?_ ?_ ?_
      · exact bc_ 1 r_ (bc_ 1 r_ (bc_ 1 r_ (bc_ 0 r_ (bc_ 0 r_ (bc_ 0 r_ sub_end)))))
      · (repeat (first | exact True.intro | refine ⟨rfl, ?_⟩))
      clear e
      rintro ⟨l2, c2, n2, v2⟩ ⟨k2, hn2, hacc2, e⟩
      dsimp only at k2 hn2 hacc2 e ⊢
      refine jc_reset [(0, Ptr b), (2, Ptr bR), (3, Ptr bT)] [Pz b l c2, .blk bR 33 Zp, .blk bT 33 [.val v0, .val v1, .val v2], .own v2 78 11 (l2.map Tk.row), .own v1 82 3 (l1.map ShRow), .own v0 9 1 (l0.map Wrow)] ?_ ⟨[0, 0, 0, 0, 0, 0], [], rfl⟩ ?_
      · (repeat (first | exact True.intro | refine ⟨rfl, ?_⟩))
      by_cases h : c2 < l.length
      · rw [tasksL_go h hn2] at e
        refine am_ (am_ (ao_ r_ r_ k_ k_ (yM_ r_ (yN_ r_ (yF_ r_ (yL_ 0 r_ (yM_ r_ (yN_ r_ (yF_ r_ (yL_ 0 r_ (aa_ (fun c => br_ r_ (fun hlen => p_)) (aa_ (fun c => bw_ r_ r_ p_) (ae_ (al_ (aq_ r_ t_ ?_)))))))))))))))
        refine as_ (al_ (au_ (R_ (M_ r_ (jl_bindE [0] rfl rfl (pword_p hl k2 Ktask) e (fun v hv => by (repeat (first | refine pq_then ?_ | refine pq_block ?_)); exact pq_fin hv) (nb rfl) ?_)))))
        clear e
        intro u c20 q20 g20 e
        refine T_ (jc_hpV 6 (n := 8) rfl 2 [v0, v1, v2] k_ rfl rfl (df_ (i := 0) rfl k_ k_ k_ b_ (by (repeat (first | refine pani_then ?_ | refine pani_block ?_)); exact pani_body) (dl_ rfl rfl rfl b_) ?_))
        refine df_ (i := 1) rfl k_ k_ k_ b_ (by (repeat (first | refine pani_then ?_ | refine pani_block ?_)); exact pani_body) (dm_ 2 rfl rfl rfl mem0 rfl) ?_
        refine df_ (i := 2) rfl k_ k_ k_ b_ (by (repeat (first | refine pani_then ?_ | refine pani_block ?_)); exact pani_body) (dk_ rfl) ?_
        refine hp_bindE (i := 3) rfl k_ (nb rfl) [0] rfl rfl (ptask_p hl hN (a := c20) g_) e (fun v hv => by (repeat (first | refine pq_then ?_ | refine pq_block ?_)); exact pq_fin hv) ?_
        clear e
        intro t c21 q21 g21 e
        refine ⟨?_, ?_⟩
        exact keep1 2 rfl
        refine dg_ (i := 4) r_ k_ b_ (bq_ r_ r_ b_ r_ r_ b_ ⟨?_, ?_⟩)
        exact keep1 2 rfl
        refine dg_ (i := 5) rfl k_ b_ (ow_apR 3 (t : Tk) (f := Tk.row) rfl rfl rfl rfl rfl rfl rfl (fun _ => rfl) g_ b_ (fun v3 hv3 => ⟨?_, ?_⟩))
        exact keep1 3 rfl
        refine df_ (i := 6) rfl k_ k_ k_ b_ (by (repeat (first | refine pani_then ?_ | refine pani_block ?_)); exact pani_body) (dl_ rfl rfl rfl b_) ?_
        refine hp_tail (dj_ (i := 7) rfl k_ (by decide) (ca_ 3 rfl rfl rfl rfl b_ (ht_done k_ (ay_ (jq_againS (i := (l2, c2, n2, v2)) ((l2 ++ [t], c21, n2 - 1, v3) : List Tk × Nat × Nat × Value) ⟨g21.2, by dsimp only; omega, by dsimp only; simp only [List.length_append, List.length_singleton]; omega, e⟩ (by dsimp only; omega) ?_ ?_)))))
        · exact bc_ 2 r_ (bc_ 2 r_ (bc_ 0 r_ (bc_ 0 r_ (bc_ 0 r_ (bc_ 0 r_ sub_end)))))
        · (repeat (first | exact True.intro | refine ⟨rfl, ?_⟩))
      · rw [tasksL_stop h, bind_okE] at e
        refine am_ (am_ (ao_ r_ r_ k_ k_ (yM_ r_ (yN_ r_ (yF_ r_ (yL_ 0 r_ (yM_ r_ (yN_ r_ (yF_ r_ (yL_ 0 r_ (aa_ (fun c => br_ r_ (fun hlen => p_)) (aa_ (fun c => bw_ r_ r_ p_) (ae_ (al_ (ap_ r_ v_ ?_)))))))))))))))
        refine av_ ?_; refine ax_ ?_; refine ax_ ?_; refine ba_ ?_; refine al_ ?_; refine R_ ?_; refine A_ 2 r_ ?_; refine S_ 1 r_ ?_; refine T_ ?_; refine ar_ ?_; refine jq_freezeBi 5 0 0 rfl rfl rfl (by rw [hc]; simp [hb, Ch.bs]) ?_; refine jq_freezeBi 4 0 1 rfl rfl rfl (by rw [hc]; simp [hb, Ch.bs]) ?_; refine jq_freezeBi 3 0 2 rfl rfl rfl (by rw [hc]; simp [hb, Ch.bs]) ?_; refine jq_fin e ?_; refine jq_retRowS rfl rfl rfl rfl 0 rfl (fun K h => h) ?_; refine bc_ 1 r_ ?_; exact sub_end
theorem program1_ok (hN : NmOk l) {b bp bo : Nat} {p : Pg} {c : Nat} (h : progG l = .ok p c) : Con Tryd.prog 18 [Ptr bp, Ptr bo] (Tin l b bp bo) (fun K => K (.tup []) [.blk bp 53 [.val (.pointer (some ⟨b, 0, none⟩))], .blk bo 33 p.row, Pz b l c]) := by
  have con := pprog_p hl hN (b := b)
  rw [h] at con
  have con := finR_con con
  refine con_intro Tryd.func18 rfl rfl (Nat.le_of_ble_eq_true rfl) (fun c hc => an_ (L_ 0 r_ (o_ r_ (bi_ [2] r_ r_ (con) (S_ 2 r_ (ak_ (jq_ret0 (.inr rfl) rfl [2, 0, 0] rfl (fun K h => h))))))))
theorem program1_er (hN : NmOk l) {b bp bo : Nat} {code : Int} {q : Nat} (h : progG l = .er code q) : Pan Tryd.prog 18 [Ptr bp, Ptr bo] (Tin l b bp bo) (stopV l code q) := by
  have con := pprog_p hl hN (b := b)
  rw [h] at con
  have con := finR_pan con
  refine pan_intro Tryd.func18 rfl rfl (Nat.le_of_ble_eq_true rfl) (fun c hc => an_ (L_ 0 r_ ?_))
  exact jl_pan (op_pan [2] rfl rfl (con)) (by (repeat (first | refine pq_then ?_ | refine pq_block ?_)); exact pq_fin (by first | rfl | assumption))
end
end Go.Proofs.YtlniadfidfmckaaDoor
end

section
namespace Go.Proofs.YtlniadfidfmckaaDoor
open Go.Vc
set_option maxHeartbeats 4000000
attribute [local irreducible] JL JC JQ OpWp Con ConN Pan ConE OpPan HP HT HOk hasW idxW isA isNum isNm numAt txtAt lineAt opAt lx lpx sx sxp exG startA stmtG stmtsL blkG wdG nmG nuG nbG lpG dcG stG taskG tasksL progG scan

theorem Program_c (s : ByteArray) : Con Tryd.prog 10 [Str s] [] (fun K => K (.tup [.row (PRow (parseF s).1), In .i64 (parseF s).2.1, In .i64 (parseF s).2.2]) []) := by
  have hl := scan_len s
  have hN := scan_nm s
  refine con_intro Tryd.func10 rfl rfl (Nat.le_of_ble_eq_true rfl) (fun c hc => ?_)
  by_cases he : (scan s).2.2 = 0
  · have he2 : ¬ ¬ (scan s).2.2 = 0 := fun h => h he
    cases hp : progG (scan s).1 with
    | ok p c =>
      have e : parseF s = (some p, 0, 0) := by unfold parseF; rw [if_pos he, hp]
      have con := fun b bp bo => try_ret (program1_ok (b := b) (bp := bp) (bo := bo) hl hN hp) ⟨_, _, _, rfl⟩
      refine R_ (o_ r_ (bl_ r_ r_ (fun bl => E_ r_ (E_ r_ (T_ (R_ (M_ r_ (o_ r_ (bm_ r_ (Scan_c s) (M_ r_ (X_ r_ (X_ r_ (X_ r_ (E_ r_ (E_ r_ (E_ r_ (T_ ?_)))))))))))))))))
      refine am_ (R_ (M_ r_ (o_ r_ (bx_ r_ r_ (T_ (ap_ r_ w_ (as_ (al_ (R_ (M_ r_ (o_ r_ (bu_ r_ r_ r_ r_ r_ (o_ r_ (ci_ r_ (fun bx => o_ r_ (bl_ r_ r_ (fun bl => W_ 0 r_ (T_ (R_ ?_)))))))))))))))))))
      refine o_ r_ (bl_ r_ r_ (fun bl => T_ (am_ (R_ (o_ r_ (ow_makeFunc r_ (o_ r_ (bi_ [1, 0, 0] r_ r_ (con _ _ _) (M_ r_ (X_ r_ (X_ r_ (o_ r_ (bl_ r_ r_ (fun bl => S_ 0 r_ (E_ r_ (T_ (R_ (M_ r_ (T_ ?_)))))))))))))))))))
      exact ap_ r_ r_ (as_ (al_ (R_ (A_ 2 r_ (S_ 4 r_ (E_ r_ (E_ r_ (T_ (ar_ (jq_retRow2 rfl rfl rfl rfl rfl rfl 0 rfl (fun K h => by rw [e] at h; exact h) sub_end))))))))))
    | er code q =>
      have e : parseF s = (none, lineAt (scan s).1 q, code) := by unfold parseF; rw [if_pos he, hp]
      have con := fun b bp bo => try_pan (program1_er (b := b) (bp := bp) (bo := bo) hl hN hp)
      refine R_ (o_ r_ (bl_ r_ r_ (fun bl => E_ r_ (E_ r_ (T_ (R_ (M_ r_ (o_ r_ (bm_ r_ (Scan_c s) (M_ r_ (X_ r_ (X_ r_ (X_ r_ (E_ r_ (E_ r_ (E_ r_ (T_ ?_)))))))))))))))))
      refine am_ (R_ (M_ r_ (o_ r_ (bx_ r_ r_ (T_ (ap_ r_ w_ (as_ (al_ (R_ (M_ r_ (o_ r_ (bu_ r_ r_ r_ r_ r_ (o_ r_ (ci_ r_ (fun bx => o_ r_ (bl_ r_ r_ (fun bl => W_ 0 r_ (T_ (R_ ?_)))))))))))))))))))
      refine o_ r_ (bl_ r_ r_ (fun bl => T_ (am_ (R_ (o_ r_ (ow_makeFunc r_ (o_ r_ (bi_ [1, 0, 0] r_ r_ (con _ _ _) (M_ r_ (X_ r_ (X_ r_ (o_ r_ (bl_ r_ r_ (fun bl => S_ 0 r_ (E_ r_ (T_ (R_ (M_ r_ (T_ ?_)))))))))))))))))))
      refine aq_ r_ r_ (am_ (jc_hp1 7 (n := 8) rfl 0 k_ rfl (fun cs1 hcs1 => ?_)))
      obtain ⟨u10, u11, rfl⟩ := len2 hcs1
      refine df_ (i := 0) rfl k_ k_ k_ b_ (by (repeat (first | refine pani_then ?_ | refine pani_block ?_)); exact pani_body) (hok_build rfl rfl rfl rfl rfl) ?_
      refine df_ (i := 1) rfl k_ k_ k_ b_ (by (repeat (first | refine pani_then ?_ | refine pani_block ?_)); exact pani_body) (dl_ rfl rfl rfl b_) ?_
      refine df_ (i := 2) rfl k_ k_ k_ b_ (by (repeat (first | refine pani_then ?_ | refine pani_block ?_)); exact pani_body) (dm_ 0 rfl rfl rfl mem0 rfl) ?_
      refine df_ (i := 3) rfl k_ k_ k_ b_ (by (repeat (first | refine pani_then ?_ | refine pani_block ?_)); exact pani_body) (dl_ rfl rfl rfl b_) ?_
      refine df_ (i := 4) rfl k_ k_ k_ b_ (by (repeat (first | refine pani_then ?_ | refine pani_block ?_)); exact pani_body) (dm_ 0 rfl rfl rfl mem0 rfl) ?_
      refine hp_exact 0 rfl mem0 (dh_ (i := 5) r_ k_ (bk_ 1 r_ r_ r_ r_ r_ r_ ⟨?_, ?_⟩))
      exact keep1 1 rfl
      refine dg_ (i := 6) r_ k_ b_ (be_ r_ ⟨?_, ?_⟩)
      exact keep1 1 rfl
      exact hp_tail (di_ (i := 7) rfl k_ b_ (by decide) (be_ rfl (ht_done k_ (al_ (ar_ (aw_ (jq_retRow2 rfl rfl rfl rfl rfl rfl 0 rfl (fun K h => by rw [e] at h; exact h) sub_end)))))))
  · have e : parseF s = (none, (scan s).2.1, (scan s).2.2) := by unfold parseF; rw [if_neg he]
    refine R_ (o_ r_ (bl_ r_ r_ (fun bl => E_ r_ (E_ r_ (T_ (R_ (M_ r_ (o_ r_ (bm_ r_ (Scan_c s) (M_ r_ (X_ r_ (X_ r_ (X_ r_ (E_ r_ (E_ r_ (E_ r_ (T_ ?_)))))))))))))))))
    refine am_ (R_ (M_ r_ (o_ r_ (bx_ r_ r_ (T_ (aq_ r_ u_ (R_ (o_ r_ (bu_ r_ r_ r_ r_ r_ (M_ r_ (M_ r_ (S_ 0 r_ (E_ r_ (E_ r_ (T_ (ar_ (aw_ ?_)))))))))))))))))
    exact jq_retRow2 rfl rfl rfl rfl rfl rfl 0 rfl (fun K h => by rw [e] at h; exact h) sub_end
end Go.Proofs.YtlniadfidfmckaaDoor
end

section
namespace Go.Proofs.YtlniadfidfmckaaDoor
open Go.Vc
set_option maxHeartbeats 1000000

/-- The beginning of some length is an expression. -/
def whole (l : List Tok) (F n : Nat) : Option T := match sx true (l.take n) F 0 0 with
  | .ok t b => if b = n then some t else none
  | .er _ _ => none
end Go.Proofs.YtlniadfidfmckaaDoor
end

section
namespace Go.Proofs.YtlniadfidfmckaaDoor
open Go.Vc
attribute [local irreducible] JL JC JQ OpWp Con ConN Pan ConE OpPan HP HT HOk hasW idxW isA isNum isNm numAt txtAt lineAt opAt lx lpx sx sxp
set_option maxHeartbeats 4000000

/-- What Expr answers. -/
abbrev Z5 : List C := [.val (.int .i64 0), .val (.int .i64 0), .val (.string ⟨#[]⟩), .val (.int .i64 0), .val (.slice none 0 0)]
def exF : Option (T × Nat) → Option T × Int × Int
  | none => (none, 0, 1)
  | some (t, n) => if 8 < t.dep then (none, 0, 4) else (some t, n, 0)
def ERow : Option T → List C
  | none => Z5
  | some t => t.row'
def exprL (l : List Tok) : Option T × Int × Int := exF (lx l (5 * l.length + 4) 0 0)

theorem Expr_c (l : List Tok) (hl : l.length ≤ 1000000) : Con Tryd.prog 13 [.cell (.list (l.map Tok.row))] [] (fun K => K (.tup [.row (ERow (exprL l).1), In .i64 (exprL l).2.1, In .i64 (exprL l).2.2]) []) := by
  have hall := fun b => (long_all hl (5 * l.length + 4)).2.1 b 0 0 (Nat.zero_le _) (Nat.zero_le _) (by unfold need; omega)
  refine con_intro Tryd.func13 rfl rfl (Nat.le_of_ble_eq_true rfl) (fun c hc => ?_)
  cases hr : lx l (5 * l.length + 4) 0 0 with
  | none =>
    have e : exprL l = (none, 0, 1) := by unfold exprL; rw [hr]; rfl
    rw [hr] at hall
    refine R_ (o_ r_ (bl_ r_ r_ (fun bl => E_ r_ (E_ r_ (T_ (R_ (M_ r_ (o_ r_ (bu_ r_ r_ r_ r_ r_ (o_ r_ (ci_ r_ (fun bx => o_ r_ (bt_ [0] rfl rfl (hall _) (fun pp hpp => o_ r_ (bl_ r_ r_ (fun bl => S_ 0 r_ (T_ (B_ (R_ (F_ r_ ?_))))))))))))))))))))
    exact L_ 0 r_ (o_ r_ (cd_ r_ (E_ r_ (T_ (aq_ r_ r_ (R_ (o_ r_ (bu_ r_ r_ r_ r_ r_ (S_ 2 r_ (E_ r_ (E_ r_ (T_ (ar_ (az_ (aw_ (jq_retRow2 rfl rfl rfl rfl rfl rfl 0 rfl (fun K h => by rw [e] at h; exact h) sub_end))))))))))))))))
  | some tn =>
    obtain ⟨t, n⟩ := tn
    rw [hr] at hall
    have hD := Depth_c 8 t (by omega)
    rw [dl_eq] at hD
    by_cases hd : 8 < t.dep
    · have e : exprL l = (none, 0, 4) := by unfold exprL; rw [hr]; exact if_pos hd
      have hd' : ((min t.dep (8 + 1) : Nat) : Int) > 8 := by omega
      refine R_ (o_ r_ (bl_ r_ r_ (fun bl => E_ r_ (E_ r_ (T_ (R_ (M_ r_ (o_ r_ (bu_ r_ r_ r_ r_ r_ (o_ r_ (ci_ r_ (fun bx => o_ r_ (bt_ [0] rfl rfl (hall _) (fun pp hpp => o_ r_ (bl_ r_ r_ (fun bl => S_ 0 r_ (T_ (B_ (R_ (F_ r_ ?_))))))))))))))))))))
      refine L_ 0 r_ ?_; refine o_ r_ (cd_ r_ ?_); refine E_ r_ ?_; refine T_ ?_; refine ap_ r_ r_ ?_; refine R_ ?_; refine F_ r_ ?_; refine o_ r_ (cp_ 0 r_ r_ r_ r_ r_ ?_); refine o_ r_ (bm_ r_ (hD) ?_); refine o_ r_ (bz_ r_ r_ ?_); refine E_ r_ ?_; refine T_ ?_; refine aq_ r_ u_ ?_; refine R_ ?_; refine o_ r_ (bu_ r_ r_ r_ r_ r_ ?_); refine S_ 2 r_ ?_
      exact E_ r_ (E_ r_ (T_ (ar_ (az_ (aw_ (jq_retRow2 rfl rfl rfl rfl rfl rfl 0 rfl (fun K h => by rw [e] at h; exact h) sub_end))))))
    · have e : exprL l = (some t, (n : Int), 0) := by unfold exprL; rw [hr]; exact if_neg hd
      have hd' : ¬ ((min t.dep (8 + 1) : Nat) : Int) > 8 := by omega
      refine R_ (o_ r_ (bl_ r_ r_ (fun bl => E_ r_ (E_ r_ (T_ (R_ (M_ r_ (o_ r_ (bu_ r_ r_ r_ r_ r_ (o_ r_ (ci_ r_ (fun bx => o_ r_ (bt_ [0] rfl rfl (hall _) (fun pp hpp => o_ r_ (bl_ r_ r_ (fun bl => S_ 0 r_ (T_ (B_ (R_ (F_ r_ ?_))))))))))))))))))))
      refine L_ 0 r_ ?_; refine o_ r_ (cd_ r_ ?_); refine E_ r_ ?_; refine T_ ?_; refine ap_ r_ r_ ?_; refine R_ ?_; refine F_ r_ ?_; refine o_ r_ (cp_ 0 r_ r_ r_ r_ r_ ?_); refine o_ r_ (bm_ r_ (hD) ?_); refine o_ r_ (bz_ r_ r_ ?_); refine E_ r_ ?_; refine T_ ?_; refine ap_ r_ w_ ?_; refine as_ ?_; refine ay_ ?_; refine al_ ?_
      refine am_ (jc_hp1 5 (n := 7) rfl 0 k_ rfl (fun cs1 hcs1 => ?_))
      obtain ⟨u10, u11, u12, u13, u14, u15, u16, rfl⟩ := len7 hcs1
      refine df_ (i := 0) rfl k_ k_ k_ b_ (by (repeat (first | refine pani_then ?_ | refine pani_block ?_)); exact pani_body) (dl_ rfl rfl rfl b_) ?_
      refine df_ (i := 1) rfl k_ k_ k_ b_ (by (repeat (first | refine pani_then ?_ | refine pani_block ?_)); exact pani_body) (hok_loadN 0 rfl rfl rfl mem0 rfl rfl) ?_
      refine df_ (i := 2) rfl k_ k_ k_ b_ (by (repeat (first | refine pani_then ?_ | refine pani_block ?_)); exact pani_body) (dl_ rfl rfl rfl b_) ?_
      refine df_ (i := 3) rfl k_ k_ k_ b_ (by (repeat (first | refine pani_then ?_ | refine pani_block ?_)); exact pani_body) (dm_ 0 rfl rfl rfl mem0 rfl) ?_
      refine hp_exact 0 rfl mem0 (dh_ (i := 4) r_ k_ (bk_ 2 r_ r_ r_ r_ r_ r_ ⟨?_, ?_⟩))
      exact keep1 1 rfl
      exact hp_tail (di_ (i := 5) rfl k_ b_ (by decide) (be_ rfl (di_ (i := 6) rfl k_ b_ (by decide) (be_ rfl (ht_done k_ (al_ (ar_ (jq_retRow2 rfl rfl rfl rfl rfl rfl 0 rfl (fun K h => by rw [e] at h; exact h) sub_end))))))))
end Go.Proofs.YtlniadfidfmckaaDoor
end

section
namespace Go.Proofs.YtlniadfidfmckaaDoor
open Go.Vc
attribute [local irreducible] JL JC JQ OpWp Con ConN Pan ConE OpPan HP HT HOk hasW idxW isA isNum isNm numAt txtAt lineAt opAt lx lpx sx sxp
set_option maxHeartbeats 4000000

abbrev Brow (n : Int) : List C := [.val (.int .u8 n)]
end Go.Proofs.YtlniadfidfmckaaDoor
end

section
namespace Go.Proofs.YtlniadfidfmckaaDoor
open Go.Vc
set_option maxHeartbeats 4000000

theorem scanGo_tok {s : ByteArray} {k : Nat} {line : Int} {out : List Tok} {t : Int × Int × ByteArray} {n : Nat} (hk : k < s.size) (h1 : ¬ byteAt s k = 10) (h2 : ¬ (byteAt s k = 32 ∨ byteAt s k = 9)) (hn : nextT (s.extract k s.size) = (t, n)) (h0 : ¬ n = 0) :
    scanGo s k line out = scanGo s (k + n) line (out ++ [⟨t.1, t.2.1, line, t.2.2⟩]) := by
  rw [scanGo, dif_pos hk, if_neg h1, if_neg h2, hn]; exact dif_neg h0
theorem scanGo_sp {s : ByteArray} {k : Nat} {line : Int} {out : List Tok} (hk : k < s.size) (h1 : ¬ byteAt s k = 10) (h2 : byteAt s k = 32 ∨ byteAt s k = 9) : scanGo s k line out = scanGo s (k + 1) line out := by
  rw [scanGo, dif_pos hk, if_neg h1, if_pos h2]
theorem scanGo_end {s : ByteArray} {k : Nat} {line : Int} {out : List Tok} (hk : ¬ k < s.size) : scanGo s k line out = (out, 0, 0) := by rw [scanGo, dif_neg hk]
def exT : ByteArray := ⟨#[97, 32, 45, 32, 98, 32, 45, 32, 99]⟩
def exL : List Tok := [⟨1, 0, 1, ⟨#[97]⟩⟩, ⟨3, 0, 1, ⟨#[45]⟩⟩, ⟨1, 0, 1, ⟨#[98]⟩⟩, ⟨3, 0, 1, ⟨#[45]⟩⟩, ⟨1, 0, 1, ⟨#[99]⟩⟩]
theorem ex1 : nextT (exT.extract 0 exT.size) = ((1, 0, ⟨#[97]⟩), 1) := by decide +kernel
theorem ex2 : nextT (exT.extract 2 exT.size) = ((3, 0, ⟨#[45]⟩), 1) := by decide +kernel
theorem ex3 : nextT (exT.extract 4 exT.size) = ((1, 0, ⟨#[98]⟩), 1) := by decide +kernel
theorem ex4 : nextT (exT.extract 6 exT.size) = ((3, 0, ⟨#[45]⟩), 1) := by decide +kernel
theorem ex5 : nextT (exT.extract 8 exT.size) = ((1, 0, ⟨#[99]⟩), 1) := by decide +kernel
theorem ex_scan : scan exT = (exL, 0, 0) := by
  unfold scan
  rw [if_neg (by decide +kernel), scanGo_tok (by decide) (by decide) (by decide) ex1 (by decide), scanGo_sp (by decide) (by decide) (by decide), scanGo_tok (by decide) (by decide) (by decide) ex2 (by decide), scanGo_sp (by decide) (by decide) (by decide), scanGo_tok (by decide) (by decide) (by decide) ex3 (by decide), scanGo_sp (by decide) (by decide) (by decide), scanGo_tok (by decide) (by decide) (by decide) ex4 (by decide), scanGo_sp (by decide) (by decide) (by decide), scanGo_tok (by decide) (by decide) (by decide) ex5 (by decide), scanGo_end (by decide)]
  rfl
theorem ex_expr : exprL exL = (some (.bn 2 (.bn 2 (.nm ⟨#[97]⟩) (.nm ⟨#[98]⟩)) (.nm ⟨#[99]⟩)), 5, 0) := by kernel_rfl
attribute [local irreducible] JL JC JQ OpWp Con ConN Pan ConE OpPan HP HT HOk hasW idxW isA isNum isNm numAt txtAt lineAt opAt lx lpx sx sxp scan exprL
theorem awake_c : Con Tryd.prog 5 [] [] (fun K => K (Bl true) []) := by
  have hS := rScan_c exT
  rw [ex_scan] at hS
  have hE := Expr_c exL (by decide)
  rw [ex_expr] at hE
  refine con_intro Tryd.func5 rfl rfl (Nat.le_of_ble_eq_true rfl) (fun c hc => R_ (E_ r_ (T_ (R_ (o_ r_ (bm_ r_ (hS) (M_ r_ (X_ r_ (X_ r_ (X_ r_ (E_ r_ (E_ r_ (E_ r_ (T_ (R_ (M_ r_ ?_))))))))))))))))
  refine o_ r_ (bm_ r_ (hE) (M_ r_ (X_ r_ (X_ r_ (X_ r_ (o_ r_ (bl_ r_ r_ (fun bl => S_ 0 r_ (E_ r_ (E_ r_ (T_ (R_ (M_ r_ (o_ r_ (bn_ r_ r_ (M_ r_ (ah_ r_ r_ b_ (bd_ r_ (ah_ r_ r_ b_ (bn_ r_ r_ ?_))))))))))))))))))))
  refine o_ r_ (bp_ r_ x_ r_ (M_ r_ (ah_ r_ r_ b_ (bd_ r_ (ah_ r_ r_ b_ (bn_ r_ r_ (o_ r_ (bp_ r_ x_ r_ (M_ r_ (ah_ r_ r_ b_ (bf_ r_ r_ r_ b_ (ah_ r_ r_ b_ (bg_ 0 r_ r_ r_ r_ (ah_ r_ r_ b_ (bn_ r_ r_ (o_ r_ (bp_ r_ x_ r_ (M_ r_ (ah_ r_ r_ b_ (bf_ r_ r_ r_ b_ (ah_ r_ r_ b_ (bg_ 0 r_ r_ r_ r_ (ah_ r_ r_ b_ (br_ r_ (fun hlen => ah_ r_ r_ b_ (bn_ r_ r_ (o_ r_ (bp_ r_ x_ r_ ?_))))))))))))))))))))))))))))
  refine M_ r_ (ah_ r_ r_ b_ (bf_ r_ r_ r_ b_ (ah_ r_ r_ b_ (bg_ 0 r_ r_ r_ r_ (ah_ r_ r_ b_ (ow_indexAddr r_ r_ g_ r_ r_ b_ (ah_ r_ r_ b_ (cf_ r_ r_ r_ b_ r_ b_ (ah_ r_ r_ b_ (cb_ r_ r_ (ah_ r_ r_ b_ (bn_ r_ r_ (o_ r_ (bp_ r_ x_ r_ (M_ r_ (ah_ r_ r_ b_ (bf_ r_ r_ r_ b_ (ah_ r_ r_ b_ (bg_ 0 r_ r_ r_ r_ (ah_ r_ r_ b_ (ow_indexAddr r_ r_ g_ r_ r_ b_ (ah_ r_ r_ b_ (cf_ r_ r_ r_ b_ r_ b_ ?_)))))))))))))))))))))))
  refine ah_ r_ r_ b_ (cb_ r_ r_ (ah_ r_ r_ b_ (cs_ r_ r_ (o_ r_ (bp_ r_ x_ r_ (E_ r_ (T_ (ar_ (jq_ret1 rfl rfl [] rfl (fun K h => by simpa using h))))))))))
end Go.Proofs.YtlniadfidfmckaaDoor
end

section
namespace Go.Vc
open Go.RowKit

theorem store_free {P : Program} {w : World} {g o : Nat} {t : TypeId} {fz : Nat × Nat} {cur : Array Value} {v : Value} (hg : w.heap[g]? = some (.cells cur t fz)) (hfz : ∀ k, k < cur.size → ¬ (fz.1 ≤ k ∧ k < fz.2)) (ho : o < cur.size) (h1 : v.oneCell' = true) :
    (store (⟨g, o, none⟩ : Addr) v).run P w = .ok () (w.setRow g (cur.setIfInBounds o v)) := by
  have hcell : w.cell? ⟨g, o, none⟩ = some cur[o] := by simp [World.cell?, hg, ho]
  have hfro : w.frozen? ⟨g, o, none⟩ = false := by
    have := hfz o ho
    obtain ⟨lo, hi⟩ := fz
    simp only [World.frozen?, hg, Bool.and_eq_false_iff, decide_eq_false_iff_not]
    simp only at this
    omega
  rw [run_store P w _ v _ h1, hcell]
  simp [hfro, setCell_eq_setRow w g o cur t fz v hg]
section
variable {P : Program} [Gl P] {nt : Nat} {c : Cx P nt} {env : Env} {H Hr : List Ch} {K : S → List Ch → Prop}
variable {d : Option Tmp} {ty t t' u : TypeId} {pos : String} {af : Array Edge} {g : Option (Nat × Bool)} {x y : Operand}
theorem ow_strBytesB [TI P t] [SL P t'] (ht : TI.u P t = .string) (he : TI.u P (SL.e P t') = .int .u8) {s : ByteArray} (hs : s.size ≤ 9223372036854775807) (hx : env.ev x = some (Str s))
    (hK : ∀ v, c.Fresh v → K (.cell (.val v)) (.ownB v (SL.e P t') (bytesI s) :: H)) : OpWp c ⟨d, .convert t t' x, ty, pos, af, g⟩ env H K := by
  intro a w h next Q hn
  have hrun := run_bytes_of_string (P := P) w t t' (SL.e P t') s (by rw [TI.hu (P := P) (t := t), ht]) SL.hs (by rw [TI.hu (P := P) (t := SL.e P t'), he])
  have hge := grownCap_ge w s.size 0 (SL.e P t')
  have hcm : grownCap w s.size 0 (SL.e P t') ≤ maxLen := grownCap_le_maxLen w s.size 0 (SL.e P t') (by unfold maxLen; omega)
  generalize grownCap w s.size 0 (SL.e P t') = cap at hrun hge hcm
  have hbz : (bytesRow s cap).size = cap := by
    unfold bytesRow
    simp only [Array.size_append, Array.size_map, Array.size_replicate]
    have : s.data.size = s.size := rfl
    omega
  generalize hww : w.drew.alloc (.cells (bytesRow s cap) (SL.e P t') ((bytesRow s cap).size, (bytesRow s cap).size + 1)) = w' at hrun
  have hsz : w'.heap.size = w.heap.size + 1 := by rw [← hww]; simp
  have hold : ∀ k, k < w.heap.size → w'.heap[k]? = w.heap[k]? := fun k hk => by rw [← hww]; exact (MapKept.heap_alloc w.drew _).2 k hk
  have hnew : w'.heap[w.heap.size]? = some (.cells (bytesRow s cap) (SL.e P t') ((bytesRow s cap).size, (bytesRow s cap).size + 1)) := by rw [← hww]; exact (MapKept.heap_alloc w.drew _).1
  have hg : Grow (hb []) w w' := ⟨by rw [← hww]; rfl, by rw [← hww]; rfl, by rw [← hww]; rfl, by omega, fun k hk _ => hold k hk⟩
  have h' : StW c ([] ++ H) w := h.heap
  have hlen : (bytesI s).length = s.size := bytesI_len s
  obtain ⟨s1, s2⟩ := StW.step (H1' := [.ownB (.slice (some ⟨w.heap.size, 0, none⟩) s.size cap) (SL.e P t') (bytesI s)]) h' hg (by simp [hb, Ch.bs, Value.ownBlock]) (by simp [hb, Ch.bs, Value.ownBlock]) (by
    intro ch hch
    simp only [List.mem_singleton] at hch
    subst hch
    refine ⟨w.heap.size, cap, bytesRow s cap, _, by rw [hlen], hnew, fun k hk => by simp only; omega, by rw [hlen]; exact hge, hcm, hbz, ?_⟩
    unfold bytesRow
    rw [Array.toList_append, List.take_left' (by rw [hlen]; simp)]
    simp [bytesI])
  unfold Oper.wp
  have hex : (execOp a.eval ⟨d, .convert t t' x, ty, pos, af, g⟩).run P w = .ok (.value (.slice (some ⟨w.heap.size, 0, none⟩) s.size cap)) w' := by
    simp only [execOp, ev_val h hx, Sem.run_bind, hrun, Result.andThen_ok, Sem.run_pure]
  rw [hex]
  exact hn _ _ _ _ (hK _ (fun b hb => by simp only [Value.ownBlock, Option.some.injEq] at hb; have := h.heap.size; omega)) s1 ⟨rfl, rfl⟩ s2
theorem bytes_ok {a : Act} {w : World} {v : Value} {e : TypeId} {L : List Int} {j : Nat} (h : St c env H a w) (hp : pick [j] H = some ([.ownB v e L], Hr)) : BytesOk w e v L := h.heap.ok (.ownB v e L) ((pick_perm hp).mem_iff.2 (by simp))
theorem ow_storeB [TI P t] {v : Value} {e : TypeId} {i : Nat} {L : List Int} {n : Int} (j : Nat) (hx : env.ev x = some (.cell (.inn v i))) (hy : env.ev y = some (In .u8 n)) (hp : pick [j] H = some ([.ownB v e L], Hr)) (hlt : i < L.length)
    (hz : (TI.i P t).size = 1) (hK : K .void (.ownB v e (L.set i n) :: Hr)) : OpWp c ⟨d, .store t x y, ty, pos, af, g⟩ env H K := by
  intro a w h next Q hn
  have hperm := pick_perm hp
  have h' : StW c (.ownB v e L :: Hr) w := h.heap.perm hperm
  have hav : c.av (.ownB v e L :: Hr) = c.av H := av_perm c hperm
  obtain ⟨b, n', cap, hv, hxe⟩ := ev_ok h hx
  subst hv
  obtain ⟨b', cap', cur, fz, hve, hh, hfz, g3, g4, g5, g6⟩ := bytes_ok h hp
  simp only [Value.slice.injEq, Option.some.injEq, Addr.mk.injEq] at hve
  obtain ⟨⟨rfl, _⟩, rfl, rfl⟩ := hve
  have hyv := ev_val h hy
  have hst := store_free (P := P) (v := .int .u8 n) hh hfz (show i < cur.size by omega) rfl
  have hrun : (execOp a.eval ⟨d, .store t x y, ty, pos, af, g⟩).run P w = .ok .skip (w.setRow b (cur.setIfInBounds i (.int .u8 n))) := by
    have hsz : ¬ (Value.int IntKind.u8 n).cells.size ≠ (TI.i P t).size := by rw [hz]; simp [Value.cells]
    have hadd : (⟨b, i, none⟩ : Addr).add 0 = ⟨b, i, none⟩ := by unfold Addr.add; split <;> simp_all
    simp only [execOp, hxe, hyv, Instr.storeAt, Instr.sureAddr, storeVar, Sem.run_bind, Sem.run_pure, Result.andThen_ok, run_sizeOf, if_neg hsz]
    simp [Value.cells, storeCells, hadd, hst]
  have hg : Grow (hb [.ownB (.slice (some ⟨b, 0, none⟩) L.length cap) e L]) w (w.setRow b (cur.setIfInBounds i (.int .u8 n))) := setRow_grow w b _
  obtain ⟨s1, s2⟩ := StW.step (H1 := [.ownB (.slice (some ⟨b, 0, none⟩) L.length cap) e L]) (H1' := [.ownB (.slice (some ⟨b, 0, none⟩) L.length cap) e (L.set i n)]) h' hg (fun b hb => .inl hb) (by simp [hb, Ch.bs, Value.ownBlock]) (by
    intro ch hch
    simp only [List.mem_singleton] at hch
    subst hch
    refine ⟨b, cap, _, fz, by rw [List.length_set], setRow_heap w b _ _ e _ hh, by simpa using hfz, by rw [List.length_set]; exact g3, g4, by simpa using g5, ?_⟩
    rw [List.length_set, Array.toList_setIfInBounds, List.take_set, g6, List.map_set])
  unfold Oper.wp
  rw [hrun]
  exact hn .void _ undef _ hK s1 trivial (fun s v hs => s2 s v (by rw [List.singleton_append, hav]; exact hs))
/-- Such bytes, only read from here on. -/
theorem st_freezeBy {a : Act} {w : World} {i j : Nat} {v : Value} {e : TypeId} {L : List Int} (h : St c env H a w) (hi : env.lookup i = some (.cell (.val v))) (hp : pick [j] H = some ([.ownB v e L], Hr)) (hX : c.Fresh v) :
    St c ((i, .cell (.list (L.map Brow))) :: env) Hr a w := by
  have h' : StW c ([.ownB v e L] ++ Hr) w := h.heap.perm (pick_perm hp)
  have hav : c.av ([.ownB v e L] ++ Hr) = c.av H := av_perm c (pick_perm hp)
  obtain ⟨d1, d2⟩ := h'.drop
  obtain ⟨b, cap, cur, fz, rfl, hh, hfz, g3, g4, g5, g6⟩ := bytes_ok h hp
  have hnd := h'.nodup
  rw [List.singleton_append, hb_cons, List.nodup_append] at hnd
  have hgn : b ∉ hb Hr := fun hx => hnd.2.2 b (by simp [Ch.bs, Value.ownBlock]) b hx rfl
  have hgA : ¬ c.av Hr b := by
    intro hx
    rcases hx with hx | hx
    · have := hX b rfl; have := c.bnd b hx; omega
    · exact hgn hx
  have hrows : ∀ (w : World) (A : Nat → Prop) (L : List Int), RdRows w A 1 (L.map Brow) (L.map (Value.int .u8)) := by
    intro w A L
    induction L with
    | nil => rfl
    | cons n L ih => exact ⟨[.int .u8 n], L.map (Value.int .u8), rfl, rfl, ⟨_, _, rfl, ⟨rfl, rfl⟩, rfl⟩, ih⟩
  refine ⟨h.size, h.defers, fun t s hl => ?_, d1⟩
  rcases lookup_cons hl with ⟨rfl, rfl⟩ | ⟨_, hl⟩
  · have : a.tmps.getD t undef = .slice (some ⟨b, 0, none⟩) L.length cap := (h.slots t _ hi).1
    rw [this]
    refine ⟨some ⟨b, 0, none⟩, cap, by rw [List.length_map], by rw [List.length_map]; exact g3, g4, .inr ⟨b, 0, L.map (Value.int .u8), 1, rfl, hgA, ?_, Nat.one_pos, hrows _ _ L⟩⟩
    intro q u hq
    rw [← g6] at hq
    have hq2 : q < L.length := by
      rcases Nat.lt_or_ge q L.length with h | h
      · exact h
      · rw [List.getElem?_eq_none (by rw [List.length_take]; omega)] at hq; cases hq
    rw [List.getElem?_take_of_lt hq2] at hq
    simp only [World.cell?, hh, Nat.zero_add]
    rw [← Array.getElem?_toList]
    exact hq
  · exact d2 _ _ (by rw [hav]; exact h.slots t s hl)
theorem jc_freezeBy {Q : Exit → Act → World → Prop} {code : Code} (i j : Nat) {v : Value} {e : TypeId} {L : List Int} (hi : env.lookup i = some (.cell (.val v))) (hp : pick [j] H = some ([.ownB v e L], Hr)) (hX : c.Fresh v)
    (h : JC c code Q ((i, .cell (.list (L.map Brow))) :: env) Hr) : JC c code Q env H := fun a w hs => h a w (st_freezeBy hs hi hp hX)
theorem hok_prefix {Sw : World → Prop} [SL P t] {rows : List (List C)} {m : Int} (hx : env.ev x = some (.cell (.list rows))) (hy : env.ev y = some (In .i64 m)) (h0 : 0 ≤ m) (hle : m.toNat ≤ rows.length) :
    HOk c Sw env H ⟨d, .slice t x none (some y) none, ty, pos, af, none⟩ (.cell (.list (rows.take m.toNat))) :=
  fun a w h _ => by
    obtain ⟨ad, cap, he, h1, h2, hb⟩ := ev_ok h hx
    refine ⟨.slice ad m.toNat cap, fun w' _ => ?_, ?_⟩
    · have hb : 0 ≤ m ∧ m ≤ (cap : Int) := ⟨h0, by omega⟩
      simp [execOp, he, ev_val h hy, Instr.sliceAt, Instr.slice, Instr.sliceBounds, Instr.sliceBound, asIntOf, run_elem t, run_sizeOf, hb]
      intro _
      cases ad <;> simp [Addr.add]
    · have hlen : (rows.take m.toNat).length = m.toNat := by simp; omega
      refine ⟨ad, cap, by rw [hlen], by omega, h2, ?_⟩
      rcases hb with hb | ⟨b, off, vs, k, rfl, hA, hc, hk, hr⟩
      · exact .inl (by omega)
      · exact .inr ⟨b, off, vs.take (m.toNat * k), k, rfl, hA, cells_take hc _, hk, rdRows_take m.toNat hr hle⟩
end
end Go.Vc
end

section
namespace Go.Proofs.YtlniadfidfmckaaDoor
open Go.Vc
set_option maxHeartbeats 4000000

def WD : List ByteArray := [⟨#[114, 101, 115, 111, 117, 114, 99, 101]⟩, ⟨#[115, 104, 97, 114, 101, 100]⟩, ⟨#[116, 97, 115, 107]⟩, ⟨#[112, 101, 114, 105, 111, 100]⟩, ⟨#[100, 101, 97, 100, 108, 105, 110, 101]⟩, ⟨#[112, 114, 105, 111, 114, 105, 116, 121]⟩, ⟨#[106, 105, 116, 116, 101, 114]⟩, ⟨#[105, 110, 112, 117, 116]⟩, ⟨#[118, 97, 114]⟩, ⟨#[97, 114, 114, 97, 121]⟩, ⟨#[109, 111, 100, 101]⟩, ⟨#[110, 101, 118, 101, 114]⟩, ⟨#[98, 111, 100, 121]⟩, ⟨#[101, 110, 100]⟩, ⟨#[105, 102]⟩, ⟨#[108, 97, 98, 101, 108]⟩, ⟨#[101, 108, 115, 101]⟩, ⟨#[119, 104, 105, 108, 101]⟩, ⟨#[109, 97, 120]⟩, ⟨#[108, 111, 99, 107]⟩, ⟨#[123]⟩, ⟨#[125]⟩, ⟨#[97]⟩, ⟨#[98]⟩, ⟨#[114]⟩, ⟨#[49]⟩, ⟨#[50]⟩, ⟨#[61]⟩, ⟨#[40]⟩, ⟨#[41]⟩, ⟨#[91]⟩, ⟨#[93]⟩, ⟨#[45]⟩, ⟨#[60]⟩, ⟨#[43]⟩, ⟨#[42]⟩, ⟨#[61, 61]⟩, ⟨#[10]⟩]
theorem WD_len : WD.length = 38 := rfl
theorem WD_size : ∀ s ∈ WD, s.size ≤ 8 := by decide +kernel
def WD0 : ByteArray := ⟨#[116, 97, 115, 107, 32, 116, 32, 112, 101, 114, 105, 111, 100, 32, 57, 32, 100, 101, 97, 100, 108, 105, 110, 101, 32, 57, 32, 112, 114, 105, 111, 114, 105, 116, 121, 32, 49, 32, 106, 105, 116, 116, 101, 114, 32, 48, 32, 98, 111, 100, 121, 10]⟩
/-- A text that can be scanned, whatever can be scanned is put behind it. -/
def PW (s : ByteArray) : Prop := ∀ (r : ByteArray) (L : List (Int × Int × ByteArray)), PX r L → ∃ L', PX (s ++ r) L'
/-- A word: with a space behind it. -/
def WW (s : ByteArray) : Bool := decide (s = ⟨#[10]⟩) || (decide (0 < s.size) && decide (byteAt s 0 ≠ 10) && decide (byteAt s 0 ≠ 32) && decide (byteAt s 0 ≠ 9) && decide ((nextT s).2 = s.size))
theorem WD_pw0 : ∀ s ∈ WD, WW s = true := by decide +kernel
theorem PW.nil : PW ⟨#[]⟩ := fun r L h => ⟨L, by rw [emp_app _ _ rfl]; exact h⟩
theorem blanks_n : blanks (⟨#[10]⟩ : ByteArray) := by
  intro c hc
  have : c = 10 := by simpa [bytesI] using hc
  exact .inr (.inr this)
theorem px_w {s r : ByteArray} {L : List (Int × Int × ByteArray)} (hs : WW s = true) (h : PX r L) : ∃ L', PX (s ++ ((⟨#[32]⟩ : ByteArray) ++ r)) L' := by
  unfold WW at hs
  simp only [Bool.or_eq_true, decide_eq_true_eq, Bool.and_eq_true] at hs
  rcases hs with rfl | ⟨⟨⟨⟨h0, h1⟩, h2⟩, h3⟩, h4⟩
  · exact ⟨L, px_blank blanks_n (px_sp h)⟩
  · exact ⟨(nextT s).1 :: L, px_tok h0 (by unfold isW; omega) (by rw [next_blank _ _ h0 (led_sp r), ← h4]) (px_sp h)⟩
theorem WD_pw : ∀ s ∈ WD, WW s = true := WD_pw0
theorem PW.add {s w : ByteArray} (hs : PW s) (hw : WW w = true) : PW (s ++ w ++ ⟨#[32]⟩) := by
  intro r L h
  obtain ⟨L1, h1⟩ := px_w hw h
  obtain ⟨L2, h2⟩ := hs _ _ h1
  exact ⟨L2, by rw [ByteArray.append_assoc, ByteArray.append_assoc]; exact h2⟩
theorem PW.app {s t : ByteArray} (hs : PW s) (ht : PW t) : PW (s ++ t) := by
  intro r L h
  obtain ⟨L1, h1⟩ := ht _ _ h
  obtain ⟨L2, h2⟩ := hs _ _ h1
  exact ⟨L2, by rw [ByteArray.append_assoc]; exact h2⟩
theorem PW.px {s : ByteArray} (h : PW s) : ∃ L, PX s L := by
  obtain ⟨L, h⟩ := h _ _ (px_nil (x := ⟨#[]⟩) rfl)
  refine ⟨L, ?_⟩
  rw [show s ++ (⟨#[]⟩ : ByteArray) = s from bytesI_inj (by rw [bytesI_app]; exact List.append_nil _)] at h
  exact h
theorem WD0_pw : PW WD0 := by
  have key : WD0 = ([⟨#[116, 97, 115, 107]⟩, ⟨#[116]⟩, ⟨#[112, 101, 114, 105, 111, 100]⟩, ⟨#[57]⟩, ⟨#[100, 101, 97, 100, 108, 105, 110, 101]⟩, ⟨#[57]⟩, ⟨#[112, 114, 105, 111, 114, 105, 116, 121]⟩, ⟨#[49]⟩, ⟨#[106, 105, 116, 116, 101, 114]⟩, ⟨#[48]⟩] : List ByteArray).foldl (fun s w => s ++ w ++ ⟨#[32]⟩) ⟨#[]⟩ ++ ⟨#[98, 111, 100, 121, 10]⟩ := by decide
  have fold : ∀ (l : List ByteArray) (s : ByteArray), PW s → (∀ w ∈ l, WW w = true) → PW (l.foldl (fun s w => s ++ w ++ ⟨#[32]⟩) s) := by
    intro l
    induction l with
    | nil => exact fun s h _ => h
    | cons w l ih => exact fun s h hl => ih _ (h.add (hl w (by simp))) (fun v hv => hl v (by simp [hv]))
  rw [key]
  refine (fold _ _ PW.nil (by decide +kernel)).app ?_
  intro r L h
  refine ⟨(1, 0, ⟨#[98, 111, 100, 121]⟩) :: L, ?_⟩
  rw [show (⟨#[98, 111, 100, 121, 10]⟩ : ByteArray) = (⟨#[98, 111, 100, 121]⟩ : ByteArray) ++ (⟨#[10]⟩ : ByteArray) by decide, ByteArray.append_assoc]
  exact px_name (by decide +kernel) (ends_sg (by decide) _) (px_blank blanks_n h)
attribute [local irreducible] PW WW
attribute [local irreducible] JL JC JQ OpWp Con ConN Pan ConE OpPan HP HT HOk HQ
theorem words_c (l : List Int) (hl : ∀ n ∈ l, 0 ≤ n ∧ n ≤ 255) : Con Tryd.prog 11 [.cell (.list (l.map Brow))] [] (fun K => ∀ s : ByteArray, (s.size ≤ 1000 ∧ PW s) → K (Str s) []) := by
  have eL : (l.map Brow).length = l.length := List.length_map _
  have eP : (WD.map Wrow).length = 38 := by rw [List.length_map, WD_len]
  have eP2 := WD_len
  have hsz := WD_size
  have hpw := WD_pw
  refine con_intro Tryd.func11 rfl rfl (Nat.le_of_ble_eq_true rfl) (fun c hc => R_ (E_ r_ (T_ (R_ (o_ r_ (bq_ r_ r_ b_ r_ r_ b_ (E_ r_ (T_ (am_ (jc_reset [(0, .cell (.list (l.map Brow))), (3, .cell (.list (WD.map Wrow)))] [] ?_ ⟨[], [], rfl⟩ ?_))))))))))
  · (repeat (first | exact True.intro | refine ⟨rfl, ?_⟩))
  generalize WD = Q at eP eP2 hsz hpw ⊢
  refine an_ (E_ r_ (T_ (am_ (R_ (E_ r_ (T_ (au_ (jc_loopS (ι := Nat × ByteArray) [] (fun i => i.1 ≤ l.length ∧ i.1 ≤ 60 ∧ i.2.size ≤ 60 + 9 * i.1 ∧ PW i.2) (fun i => [(0, .cell (.list (l.map Brow))), (3, .cell (.list (Q.map Wrow))), (4, Str i.2), (5, In .i64 (i.1 : Int))]) (fun _ => []) (fun i => l.length - i.1) (0, WD0) ⟨Nat.zero_le _, Nat.zero_le _, by decide, WD0_pw⟩ ?_ ?_ ?_))))))))
  · exact sub_end
  · (repeat (first | exact True.intro | refine ⟨rfl, ?_⟩))
  rintro ⟨k, s⟩ ⟨hk, hk60, hs, hps⟩
  dsimp only at hk hk60 hs hps ⊢
  refine jc_reset [(0, .cell (.list (l.map Brow))), (3, .cell (.list (Q.map Wrow))), (4, Str s), (5, In .i64 (k : Int))] [] ?_ ⟨[], [], rfl⟩ ?_
  · (repeat (first | exact True.intro | refine ⟨rfl, ?_⟩))
  by_cases h1 : k < l.length
  · by_cases h2 : k < 60
    · have hb := hl l[k] (List.getElem_mem h1)
      have hm0 : 0 ≤ l[k] % ((Q.map Wrow).length : Int) := by rw [eP]; omega
      have hm1 : l[k] % ((Q.map Wrow).length : Int) < 38 := by rw [eP]; omega
      have hi : (l[k] % ((Q.map Wrow).length : Int)).toNat < Q.length := by omega
      have hs1 := hsz Q[(l[k] % ((Q.map Wrow).length : Int)).toNat] (List.getElem_mem hi)
      have hq1 := hpw Q[(l[k] % ((Q.map Wrow).length : Int)).toNat] (List.getElem_mem hi)
      have hlt : (k : Int) < ((l.map Brow).length : Int) := by omega
      have h0s : (⟨#[]⟩ : ByteArray).size = 0 := rfl
      have h1s : (⟨#[32]⟩ : ByteArray).size = 1 := rfl
      have hz0 : ((⟨#[]⟩ : ByteArray) ++ Q[(l[k] % ((Q.map Wrow).length : Int)).toNat]).size = (⟨#[]⟩ : ByteArray).size + (Q[(l[k] % ((Q.map Wrow).length : Int)).toNat]).size := ByteArray.size_append
      have hz1 : (s ++ Q[(l[k] % ((Q.map Wrow).length : Int)).toNat]).size = s.size + (Q[(l[k] % ((Q.map Wrow).length : Int)).toNat]).size := ByteArray.size_append
      by_cases h3 : k = 0
      · have h3' : (k : Int) = 0 := by omega
        by_cases h4 : l[k] % 3 = 0
        · refine am_ (R_ (M_ r_ (M_ r_ (o_ r_ (br_ r_ (fun hlen => o_ r_ (bw_ r_ r_ (M_ r_ (ah_ r_ u_ b_ (bd_ r_ (ah_ r_ u_ b_ (bw_ r_ r_ (o_ r_ (bp_ r_ u_ r_ (T_ (aq_ r_ t_ (as_ (al_ (B_ (am_ ?_))))))))))))))))))))
          refine R_ (M_ r_ (o_ r_ (bn_ r_ r_ (M_ r_ (ah_ r_ u_ b_ (bd_ r_ (ah_ r_ u_ b_ (bd_ r_ (ah_ r_ u_ b_ (cc_ r_ r_ g_ r_ r_ b_ (ah_ r_ u_ b_ (cb_ r_ r_ (ah_ r_ u_ b_ (ow_remU8 r_ r_ g_ g_ (ah_ r_ u_ b_ (bn_ r_ r_ (o_ r_ (bp_ r_ u_ r_ (T_ (aq_ r_ u_ (an_ (E_ r_ (T_ ?_)))))))))))))))))))))))
          refine an_ (M_ r_ (M_ r_ (M_ r_ (M_ r_ (o_ r_ (cc_ r_ r_ g_ r_ r_ b_ (o_ r_ (cb_ r_ r_ (o_ r_ (ow_convI64 r_ r_ r_ g_ (M_ r_ (o_ r_ (br_ r_ (fun hlen => o_ r_ (ow_rem64 r_ r_ g_ g_ (o_ r_ (cv_ r_ r_ g_ g_ r_ r_ b_ (o_ r_ (cb_ r_ r_ (o_ r_ (ow_strcat r_ r_ g_ (o_ r_ (ow_strcat r_ r_ g_ (E_ r_ ?_))))))))))))))))))))))))
          refine ak_ (ay_ (al_ (an_ (M_ r_ (o_ r_ (bj_ r_ r_ g_ (E_ r_ (ak_ (jq_againS (i := (k, s)) ((k + 1, ⟨#[]⟩ ++ Q[(l[k] % ((Q.map Wrow).length : Int)).toNat] ++ ⟨#[32]⟩) : Nat × ByteArray) ⟨by dsimp only; omega, by dsimp only; omega, ?_, (PW.nil.add hq1)⟩ (by dsimp only; omega) ?_ ?_)))))))))
          · dsimp only
            rw [ByteArray.size_append, ByteArray.size_append, show ByteArray.size ⟨#[32]⟩ = 1 from rfl]
            omega
          · exact sub_end
          · (repeat (first | exact True.intro | refine ⟨rfl, ?_⟩))
        · refine am_ (R_ (M_ r_ (M_ r_ (o_ r_ (br_ r_ (fun hlen => o_ r_ (bw_ r_ r_ (M_ r_ (ah_ r_ u_ b_ (bd_ r_ (ah_ r_ u_ b_ (bw_ r_ r_ (o_ r_ (bp_ r_ u_ r_ (T_ (aq_ r_ t_ (as_ (al_ (B_ (am_ ?_))))))))))))))))))))
          refine R_ (M_ r_ (o_ r_ (bn_ r_ r_ (M_ r_ (ah_ r_ u_ b_ (bd_ r_ (ah_ r_ u_ b_ (bd_ r_ (ah_ r_ u_ b_ (cc_ r_ r_ g_ r_ r_ b_ (ah_ r_ u_ b_ (cb_ r_ r_ (ah_ r_ u_ b_ (ow_remU8 r_ r_ g_ g_ (ah_ r_ u_ b_ (bn_ r_ r_ (o_ r_ (bp_ r_ u_ r_ (T_ (ap_ r_ w_ (as_ (al_ (an_ ?_)))))))))))))))))))))))
          refine M_ r_ (M_ r_ (M_ r_ (M_ r_ (o_ r_ (cc_ r_ r_ g_ r_ r_ b_ (o_ r_ (cb_ r_ r_ (o_ r_ (ow_convI64 r_ r_ r_ g_ (M_ r_ (o_ r_ (br_ r_ (fun hlen => o_ r_ (ow_rem64 r_ r_ g_ g_ (o_ r_ (cv_ r_ r_ g_ g_ r_ r_ b_ (o_ r_ (cb_ r_ r_ (o_ r_ (ow_strcat r_ r_ g_ (o_ r_ (ow_strcat r_ r_ g_ (E_ r_ (ak_ ?_))))))))))))))))))))))))
          refine ay_ (al_ (an_ (M_ r_ (o_ r_ (bj_ r_ r_ g_ (E_ r_ (ak_ (jq_againS (i := (k, s)) ((k + 1, s ++ Q[(l[k] % ((Q.map Wrow).length : Int)).toNat] ++ ⟨#[32]⟩) : Nat × ByteArray) ⟨by dsimp only; omega, by dsimp only; omega, ?_, (hps.add hq1)⟩ (by dsimp only; omega) ?_ ?_))))))))
          · dsimp only
            rw [ByteArray.size_append, ByteArray.size_append, show ByteArray.size ⟨#[32]⟩ = 1 from rfl]
            omega
          · exact sub_end
          · (repeat (first | exact True.intro | refine ⟨rfl, ?_⟩))
      · have h3' : ¬ (k : Int) = 0 := by omega
        refine am_ (R_ (M_ r_ (M_ r_ (o_ r_ (br_ r_ (fun hlen => o_ r_ (bw_ r_ r_ (M_ r_ (ah_ r_ u_ b_ (bd_ r_ (ah_ r_ u_ b_ (bw_ r_ r_ (o_ r_ (bp_ r_ u_ r_ (T_ (aq_ r_ t_ (as_ (al_ (B_ (am_ ?_))))))))))))))))))))
        refine R_ (M_ r_ (o_ r_ (bn_ r_ r_ (M_ r_ (ai_ r_ w_ b_ (ai_ r_ w_ b_ (ai_ r_ w_ b_ (ai_ r_ w_ b_ (ai_ r_ w_ b_ (ai_ r_ w_ b_ (o_ r_ (bv_ r_ w_ r_ (T_ (ap_ r_ r_ (as_ (al_ (an_ ?_)))))))))))))))))
        refine M_ r_ (M_ r_ (M_ r_ (M_ r_ (o_ r_ (cc_ r_ r_ g_ r_ r_ b_ (o_ r_ (cb_ r_ r_ (o_ r_ (ow_convI64 r_ r_ r_ g_ (M_ r_ (o_ r_ (br_ r_ (fun hlen => o_ r_ (ow_rem64 r_ r_ g_ g_ (o_ r_ (cv_ r_ r_ g_ g_ r_ r_ b_ (o_ r_ (cb_ r_ r_ (o_ r_ (ow_strcat r_ r_ g_ (o_ r_ (ow_strcat r_ r_ g_ (E_ r_ (ak_ ?_))))))))))))))))))))))))
        refine ay_ (al_ (an_ (M_ r_ (o_ r_ (bj_ r_ r_ g_ (E_ r_ (ak_ (jq_againS (i := (k, s)) ((k + 1, s ++ Q[(l[k] % ((Q.map Wrow).length : Int)).toNat] ++ ⟨#[32]⟩) : Nat × ByteArray) ⟨by dsimp only; omega, by dsimp only; omega, ?_, (hps.add hq1)⟩ (by dsimp only; omega) ?_ ?_))))))))
        · dsimp only
          rw [ByteArray.size_append, ByteArray.size_append, show ByteArray.size ⟨#[32]⟩ = 1 from rfl]
          omega
        · exact sub_end
        · (repeat (first | exact True.intro | refine ⟨rfl, ?_⟩))
    · have hlt : (k : Int) < ((l.map Brow).length : Int) := by omega
      have h2' : ¬ (k : Int) < 60 := by omega
      refine am_ (R_ (M_ r_ (M_ r_ (o_ r_ (br_ r_ (fun hlen => o_ r_ (bw_ r_ r_ (M_ r_ (ah_ r_ u_ b_ (bd_ r_ (ah_ r_ u_ b_ (bw_ r_ r_ (o_ r_ (bp_ r_ u_ r_ (T_ (ap_ r_ w_ (av_ (ax_ (ax_ (ba_ ?_))))))))))))))))))))
      refine al_ (R_ (M_ r_ (E_ r_ (T_ (ar_ (jq_ret1 rfl rfl [] rfl (fun K h => h s ⟨by omega, hps⟩)))))))
  · have hlt : ¬ (k : Int) < ((l.map Brow).length : Int) := by omega
    refine am_ (R_ (M_ r_ (M_ r_ (o_ r_ (br_ r_ (fun hlen => o_ r_ (bw_ r_ r_ (M_ r_ (ai_ r_ w_ b_ (ai_ r_ w_ b_ (o_ r_ (bv_ r_ w_ r_ (T_ (ap_ r_ r_ (av_ (ax_ (ax_ (ba_ ?_))))))))))))))))))
    refine al_ (R_ (M_ r_ (E_ r_ (T_ (ar_ (jq_ret1 rfl rfl [] rfl (fun K h => h s ⟨by omega, hps⟩)))))))
end Go.Proofs.YtlniadfidfmckaaDoor
end
