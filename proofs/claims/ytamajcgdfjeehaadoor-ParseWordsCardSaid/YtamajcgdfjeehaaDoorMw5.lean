/- What is proved: ParseWords of the package timeboundlaw03 returns true for every list of bytes and either truth value, and its arguments read as before. The card ties the listed tables (the keywords, the signs, the operators of the lines of the grammar and of comparisons) to the text of the program. -/
import Derived.Test.YtamajcgdfjeehaaDoorMr4
import Derived.KernelRfl
import Derived.Test.YtamajcgdfjeehaaDoorCards
import Derived.Test.YtamajcgdfjeehaaDoorTie
import Derived.SliceStrings
import Derived.WalkKit
import Derived.ProofKit
import Derived.OpenShut
import Derived.LaidMore
import Derived.Stop.Joined
import Derived.Stop.LaidErr
import Derived.Deep.DeepHandedRow
import Derived.Lib.LaidTab
import Derived.Lib.SmallJoins
import Derived.Carry
import Derived.Deep.DeepWitnessRowRef
section
namespace Go.Proofs.YtamajcgdfjeehaaDoor
open Go.Vc
set_option maxHeartbeats 4000000

attribute [local irreducible] JL JC JQ OpWp Con ConN Pan ConE OpPan HP HT HOk hasW idxW isA isNum isNm numAt txtAt lineAt opAt lx lpx sx sxp exG startA stmtG stmtsL blkG wdG nmG nuG nbG lpG dcG stG taskG tasksL pgA pgB
section
variable {l : List Tok} (hl : l.length ≤ 1000000)
include hl
theorem pprog_p (hN : NmOk l) {b : Nat} : ConE Tryd.prog 46 [Ptr b] [Pz b l 0] (finR l b PgS (progG l)) := by
  have eL : (l.map Tok.row).length = l.length := List.length_map _
  refine con_introE Tryd.func46 rfl rfl (Nat.le_of_ble_eq_true rfl) (fun c hc => ?_)
  generalize hfin : finR l b PgS (progG l) = fin0
  have e := hfin.symm
  clear hfin
  rw [progG_eq] at e
  refine R_ (o_ r_ (bl_ r_ r_ (fun bl => T_ (R_ (o_ r_ (bl_ r_ r_ (fun bl => T_ (B_ ?_))))))))
  rename_i bR
  revert bl
  intro bT
  refine jc_ownNil 9 1 g_ ?_
  refine jc_loopS (ι := List ByteArray × Nat × Nat × Value) [] (fun i => i.2.1 ≤ l.length ∧ l.length - i.2.1 ≤ i.2.2.1 ∧ i.1.length ≤ i.2.1 ∧ fin0 = finR l b PgS ((lpG l Kresource (nmG l) i.2.2.1 i.2.1 i.1).bind fun x b => pgA l x b))
    (fun i => [(0, Ptr b), (2, Ptr bR), (3, Ptr bT)]) (fun i => [Pz b l i.2.1, .blk bR 40 Zp, .blk bT 40 [.val i.2.2.2, .val (.slice none 0 0), .val (.slice none 0 0)], .own i.2.2.2 9 1 (i.1.map Wrow)]) (fun i => l.length - i.2.1) ([], 0, l.length + 1, .slice none 0 0) ⟨Nat.zero_le _, by dsimp only; omega, Nat.zero_le _, e⟩ ?_ ?_ ?_
  · exact bc_ 3 r_ (bc_ 2 r_ (bc_ 1 r_ (bc_ 0 r_ sub_end)))
  · (repeat (first | exact True.intro | refine ⟨rfl, ?_⟩))
  clear e
  rintro ⟨l0, c, n0, v0⟩ ⟨i2, hn, hacc, e⟩
  dsimp only at i2 hn hacc e ⊢
  refine jc_reset [(0, Ptr b), (2, Ptr bR), (3, Ptr bT)] [Pz b l c, .blk bR 40 Zp, .blk bT 40 [.val v0, .val (.slice none 0 0), .val (.slice none 0 0)], .own v0 9 1 (l0.map Wrow)] ?_ ⟨[0, 0, 0, 0], [], rfl⟩ ?_
  · (repeat (first | exact True.intro | refine ⟨rfl, ?_⟩))
  cases h : isA l c Kresource with
  | true =>
    have hlt := isA_lt h
    rw [lpG_go h hn] at e
    refine am_ (R_ (M_ r_ (o_ r_ (bi_ [0] r_ r_ (has_y hl i2 h) (T_ (aq_ r_ r_ (as_ (al_ (au_ (jc_hpV 6 (n := 8) rfl 2 [v0, .slice none 0 0, .slice none 0 0] k_ rfl rfl (df_ (i := 0) rfl k_ k_ k_ b_ (by (repeat (first | refine pani_then ?_ | refine pani_block ?_)); exact pani_body) (dl_ rfl rfl rfl b_) ?_)))))))))))
    refine df_ (i := 1) rfl k_ k_ k_ b_ (by (repeat (first | refine pani_then ?_ | refine pani_block ?_)); exact pani_body) (dm_ 2 rfl rfl rfl mem0 rfl) ?_
    refine df_ (i := 2) rfl k_ k_ k_ b_ (by (repeat (first | refine pani_then ?_ | refine pani_block ?_)); exact pani_body) (dk_ rfl) ?_
    refine hp_bindE (i := 3) rfl k_ (nb rfl) [0] rfl rfl (pname_p (a := c + 1) hl g_) e (fun v hv => by (repeat (first | refine pq_then ?_ | refine pq_block ?_)); exact pq_fin hv) ?_
    clear e
    intro s c20 k20 g20 e
    refine ⟨?_, ?_⟩
    exact keep1 2 rfl
    refine dg_ (i := 4) r_ k_ b_ (bq_ r_ r_ b_ r_ r_ b_ ⟨?_, ?_⟩)
    exact keep1 2 rfl
    refine dg_ (i := 5) rfl k_ b_ (ow_apR 3 (s : ByteArray) (f := Wrow) rfl rfl rfl rfl rfl rfl rfl (fun _ => rfl) g_ b_ (fun v2 hv2 => ⟨?_, ?_⟩))
    exact keep1 3 rfl
    refine df_ (i := 6) rfl k_ k_ k_ b_ (by (repeat (first | refine pani_then ?_ | refine pani_block ?_)); exact pani_body) (dl_ rfl rfl rfl b_) ?_
    refine hp_tail (dj_ (i := 7) rfl k_ (by decide) (ca_ 3 rfl rfl rfl rfl b_ (ht_done k_ (ay_ (jq_againS (i := (l0, c, n0, v0)) ((l0 ++ [s], c20, n0 - 1, v2) : List ByteArray × Nat × Nat × Value) ⟨g20.2, by dsimp only; omega, by dsimp only; simp only [List.length_append, List.length_singleton]; omega, e⟩ (by dsimp only; omega) ?_ ?_)))))
    · exact bc_ 2 r_ (bc_ 2 r_ (bc_ 0 r_ (bc_ 0 r_ sub_end)))
    · (repeat (first | exact True.intro | refine ⟨rfl, ?_⟩))
  | false =>
    rw [lpG_stop h, bind_okE] at e
    refine am_ (R_ (M_ r_ (o_ r_ (bi_ [0] r_ r_ (has_n hl i2 h) (T_ (ap_ r_ r_ (av_ (ax_ (ax_ (ba_ (al_ (B_ ?_))))))))))))
    rw [pgA] at e
    refine jc_ownNil 110 3 g_ ?_
    refine jc_loopS (ι := List Shd × Nat × Nat × Value) [] (fun i => i.2.1 ≤ l.length ∧ l.length - i.2.1 ≤ i.2.2.1 ∧ i.1.length ≤ i.2.1 ∧ fin0 = finR l b PgS ((lpG l Kshared (shG l) i.2.2.1 i.2.1 i.1).bind fun x b => pgB l l0 x b))
      (fun i => [(0, Ptr b), (2, Ptr bR), (3, Ptr bT)]) (fun i => [Pz b l i.2.1, .blk bR 40 Zp, .blk bT 40 [.val v0, .val i.2.2.2, .val (.slice none 0 0)], .own i.2.2.2 110 3 (i.1.map ShRow), .own v0 9 1 (l0.map Wrow)]) (fun i => l.length - i.2.1) ([], c, l.length + 1, .slice none 0 0) ⟨i2, by dsimp only; omega, Nat.zero_le _, e⟩ ?_ ?_ ?_
    · exact bc_ 1 r_ (bc_ 1 r_ (bc_ 1 r_ (bc_ 0 r_ (bc_ 0 r_ sub_end))))
    · (repeat (first | exact True.intro | refine ⟨rfl, ?_⟩))
    clear e
    rintro ⟨l1, c1, n1, v1⟩ ⟨j2, hn1, hacc1, e⟩
    dsimp only at j2 hn1 hacc1 e ⊢
    refine jc_reset [(0, Ptr b), (2, Ptr bR), (3, Ptr bT)] [Pz b l c1, .blk bR 40 Zp, .blk bT 40 [.val v0, .val v1, .val (.slice none 0 0)], .own v1 110 3 (l1.map ShRow), .own v0 9 1 (l0.map Wrow)] ?_ ⟨[0, 0, 0, 0, 0], [], rfl⟩ ?_
    · (repeat (first | exact True.intro | refine ⟨rfl, ?_⟩))
    cases h : isA l c1 Kshared with
    | true =>
      have hlt := isA_lt h
      rw [lpG_go h hn1] at e
      simp only [shG, R.bind_assoc, bind_okE] at e
      refine am_ (R_ (M_ r_ (o_ r_ (bi_ [0] r_ r_ (has_y hl j2 h) (T_ (aq_ r_ r_ (as_ (al_ (au_ (jc_hpV 12 (n := 14) rfl 2 [v0, v1, .slice none 0 0] k_ rfl rfl (df_ (i := 0) rfl k_ k_ k_ b_ (by (repeat (first | refine pani_then ?_ | refine pani_block ?_)); exact pani_body) (dl_ rfl rfl rfl b_) ?_)))))))))))
      refine df_ (i := 1) rfl k_ k_ k_ b_ (by (repeat (first | refine pani_then ?_ | refine pani_block ?_)); exact pani_body) (dm_ 2 rfl rfl rfl mem0 rfl) ?_
      refine df_ (i := 2) rfl k_ k_ k_ b_ (by (repeat (first | refine pani_then ?_ | refine pani_block ?_)); exact pani_body) (dk_ rfl) ?_
      refine df_ (i := 4) rfl k_ k_ k_ b_ (by (repeat (first | refine pani_then ?_ | refine pani_block ?_)); exact pani_body) (dk_ rfl) ?_
      refine df_ (i := 7) rfl k_ k_ k_ b_ (by (repeat (first | refine pani_then ?_ | refine pani_block ?_)); exact pani_body) (dk_ rfl) ?_
      refine hp_bindE (i := 3) rfl k_ (nb rfl) [0] rfl rfl (pname_p (a := c1 + 1) hl g_) e (fun v hv => by (repeat (first | refine pq_then ?_ | refine pq_block ?_)); exact pq_fin hv) ?_
      clear e
      intro s c20 k20 g20 e
      refine ⟨?_, ?_⟩
      exact keep1 2 rfl
      refine hp_bindE (i := 5) rfl k_ (nb rfl) [0] rfl rfl (pnum_p (a := c20) hl g_) e (fun v hv => by (repeat (first | refine pq_then ?_ | refine pq_block ?_)); exact pq_fin hv) ?_
      clear e
      intro n c21 k21 g21 e
      refine ⟨?_, ?_⟩
      exact keep1 2 rfl
      refine df_ (i := 6) rfl k_ k_ k_ b_ (by (repeat (first | refine pani_then ?_ | refine pani_block ?_)); exact pani_body) (hok_build rfl rfl rfl rfl rfl) ?_
      refine hp_bindE (i := 8) rfl k_ (nb rfl) [0] rfl rfl (pname_p (a := c21) hl g_) e (fun v hv => by (repeat (first | refine pq_then ?_ | refine pq_block ?_)); exact pq_fin hv) ?_
      clear e
      intro r c22 k22 g22 e
      refine ⟨?_, ?_⟩
      exact keep1 2 rfl
      refine df_ (i := 9) rfl k_ k_ k_ b_ (by (repeat (first | refine pani_then ?_ | refine pani_block ?_)); exact pani_body) (hok_build rfl rfl rfl rfl rfl) ?_
      refine dg_ (i := 10) r_ k_ b_ (bq_ r_ r_ b_ r_ r_ b_ ⟨?_, ?_⟩)
      exact keep1 2 rfl
      refine dg_ (i := 11) rfl k_ b_ (ow_apR 3 ((s, n, r) : Shd) (f := ShRow) rfl rfl rfl rfl rfl rfl rfl (fun _ => rfl) g_ b_ (fun v2 hv2 => ⟨?_, ?_⟩))
      exact keep1 3 rfl
      refine df_ (i := 12) rfl k_ k_ k_ b_ (by (repeat (first | refine pani_then ?_ | refine pani_block ?_)); exact pani_body) (dl_ rfl rfl rfl b_) ?_
      refine hp_tail (dj_ (i := 13) rfl k_ (by decide) (ca_ 3 rfl rfl rfl rfl b_ (ht_done k_ (ay_ (jq_againS (i := (l1, c1, n1, v1)) ((l1 ++ [(s, n, r)], c22, n1 - 1, v2) : List Shd × Nat × Nat × Value) ⟨g22.2, by dsimp only; omega, by dsimp only; simp only [List.length_append, List.length_singleton]; omega, e⟩ (by dsimp only; omega) ?_ ?_)))))
      · exact bc_ 2 r_ (bc_ 2 r_ (bc_ 0 r_ (bc_ 0 r_ (bc_ 0 r_ sub_end))))
      · (repeat (first | exact True.intro | refine ⟨rfl, ?_⟩))
    | false =>
      rw [lpG_stop h, bind_okE] at e
      refine am_ (R_ (M_ r_ (o_ r_ (bi_ [0] r_ r_ (has_n hl j2 h) (T_ (ap_ r_ r_ (av_ (ax_ (ax_ (ba_ (al_ (B_ ?_))))))))))))
      rw [pgB] at e
      refine jc_ownNil 50 11 g_ ?_
      refine jc_loopS (ι := List Tk × Nat × Nat × Value) [] (fun i => i.2.1 ≤ l.length ∧ l.length - i.2.1 ≤ i.2.2.1 ∧ i.1.length ≤ i.2.1 ∧ fin0 = finR l b PgS ((tasksL l i.2.2.1 i.2.1 i.1).bind fun x b => .ok ⟨l0, l1, x⟩ b))
        (fun i => [(0, Ptr b), (2, Ptr bR), (3, Ptr bT)]) (fun i => [Pz b l i.2.1, .blk bR 40 Zp, .blk bT 40 [.val v0, .val v1, .val i.2.2.2], .own i.2.2.2 50 11 (i.1.map Tk.row), .own v1 110 3 (l1.map ShRow), .own v0 9 1 (l0.map Wrow)]) (fun i => l.length - i.2.1) ([], c1, l.length + 1, .slice none 0 0) ⟨j2, by dsimp only; omega, Nat.zero_le _, e⟩ ?_ ?_ ?_
      · exact bc_ 1 r_ (bc_ 1 r_ (bc_ 1 r_ (bc_ 0 r_ (bc_ 0 r_ (bc_ 0 r_ sub_end)))))
      · (repeat (first | exact True.intro | refine ⟨rfl, ?_⟩))
      clear e
      rintro ⟨l2, c2, n2, v2⟩ ⟨k2, hn2, hacc2, e⟩
      dsimp only at k2 hn2 hacc2 e ⊢
      refine jc_reset [(0, Ptr b), (2, Ptr bR), (3, Ptr bT)] [Pz b l c2, .blk bR 40 Zp, .blk bT 40 [.val v0, .val v1, .val v2], .own v2 50 11 (l2.map Tk.row), .own v1 110 3 (l1.map ShRow), .own v0 9 1 (l0.map Wrow)] ?_ ⟨[0, 0, 0, 0, 0, 0], [], rfl⟩ ?_
      · (repeat (first | exact True.intro | refine ⟨rfl, ?_⟩))
      by_cases h : c2 < l.length
      · rw [tasksL_go h hn2] at e
        refine am_ (am_ (ao_ r_ r_ k_ k_ (yM_ r_ (yN_ r_ (yF_ r_ (yL_ 0 r_ (yM_ r_ (yN_ r_ (yF_ r_ (yL_ 0 r_ (aa_ (fun c => br_ r_ (fun hlen => p_)) (aa_ (fun c => bw_ r_ r_ p_) (ae_ (al_ (aq_ r_ t_ ?_)))))))))))))))
        refine as_ (al_ (au_ (R_ (M_ r_ (jl_bindE [0] rfl rfl (pword_p hl k2 Ktask) e (fun v hv => by (repeat (first | refine pq_then ?_ | refine pq_block ?_)); exact pq_fin hv) (nb rfl) ?_)))))
        clear e
        intro u c20 q20 g20 e
        refine T_ (jc_hpV 6 (n := 8) rfl 2 [v0, v1, v2] k_ rfl rfl (df_ (i := 0) rfl k_ k_ k_ b_ (by (repeat (first | refine pani_then ?_ | refine pani_block ?_)); exact pani_body) (dl_ rfl rfl rfl b_) ?_))
        refine df_ (i := 1) rfl k_ k_ k_ b_ (by (repeat (first | refine pani_then ?_ | refine pani_block ?_)); exact pani_body) (dm_ 2 rfl rfl rfl mem0 rfl) ?_
        refine df_ (i := 2) rfl k_ k_ k_ b_ (by (repeat (first | refine pani_then ?_ | refine pani_block ?_)); exact pani_body) (dk_ rfl) ?_
        refine hp_bindE (i := 3) rfl k_ (nb rfl) [0] rfl rfl (ptask_p hl hN (a := c20) g_) e (fun v hv => by (repeat (first | refine pq_then ?_ | refine pq_block ?_)); exact pq_fin hv) ?_
        clear e
        intro t c21 q21 g21 e
        refine ⟨?_, ?_⟩
        exact keep1 2 rfl
        refine dg_ (i := 4) r_ k_ b_ (bq_ r_ r_ b_ r_ r_ b_ ⟨?_, ?_⟩)
        exact keep1 2 rfl
        refine dg_ (i := 5) rfl k_ b_ (ow_apR 3 (t : Tk) (f := Tk.row) rfl rfl rfl rfl rfl rfl rfl (fun _ => rfl) g_ b_ (fun v3 hv3 => ⟨?_, ?_⟩))
        exact keep1 3 rfl
        refine df_ (i := 6) rfl k_ k_ k_ b_ (by (repeat (first | refine pani_then ?_ | refine pani_block ?_)); exact pani_body) (dl_ rfl rfl rfl b_) ?_
        refine hp_tail (dj_ (i := 7) rfl k_ (by decide) (ca_ 3 rfl rfl rfl rfl b_ (ht_done k_ (ay_ (jq_againS (i := (l2, c2, n2, v2)) ((l2 ++ [t], c21, n2 - 1, v3) : List Tk × Nat × Nat × Value) ⟨g21.2, by dsimp only; omega, by dsimp only; simp only [List.length_append, List.length_singleton]; omega, e⟩ (by dsimp only; omega) ?_ ?_)))))
        · exact bc_ 2 r_ (bc_ 2 r_ (bc_ 0 r_ (bc_ 0 r_ (bc_ 0 r_ (bc_ 0 r_ sub_end)))))
        · (repeat (first | exact True.intro | refine ⟨rfl, ?_⟩))
      · rw [tasksL_stop h, bind_okE] at e
        refine am_ (am_ (ao_ r_ r_ k_ k_ (yM_ r_ (yN_ r_ (yF_ r_ (yL_ 0 r_ (yM_ r_ (yN_ r_ (yF_ r_ (yL_ 0 r_ (aa_ (fun c => br_ r_ (fun hlen => p_)) (aa_ (fun c => bw_ r_ r_ p_) (ae_ (al_ (ap_ r_ v_ ?_)))))))))))))))
        refine av_ ?_; refine ax_ ?_; refine ax_ ?_; refine ba_ ?_; refine al_ ?_; refine R_ ?_; refine A_ 2 r_ ?_; refine S_ 1 r_ ?_; refine T_ ?_; refine ar_ ?_; refine jq_freezeBi 5 0 0 rfl rfl rfl (by rw [hc]; simp [hb, Ch.bs]) ?_; refine jq_freezeBi 4 0 1 rfl rfl rfl (by rw [hc]; simp [hb, Ch.bs]) ?_; refine jq_freezeBi 3 0 2 rfl rfl rfl (by rw [hc]; simp [hb, Ch.bs]) ?_; refine jq_fin e ?_; refine jq_retRowS rfl rfl rfl rfl 0 rfl (fun K h => h) ?_; refine bc_ 1 r_ ?_; exact sub_end
theorem program1_ok (hN : NmOk l) {b bp bo : Nat} {p : Pg} {c : Nat} (h : progG l = .ok p c) : Con Tryd.prog 45 [Ptr bp, Ptr bo] (Tin l b bp bo) (fun K => K (.tup []) [.blk bp 70 [.val (.pointer (some ⟨b, 0, none⟩))], .blk bo 40 p.row, Pz b l c]) := by
  have con := pprog_p hl hN (b := b)
  rw [h] at con
  have con := finR_con con
  refine con_intro Tryd.func45 rfl rfl (Nat.le_of_ble_eq_true rfl) (fun c hc => an_ (L_ 0 r_ (o_ r_ (bi_ [2] r_ r_ (con) (S_ 2 r_ (ak_ (jq_ret0 (.inr rfl) rfl [2, 0, 0] rfl (fun K h => h))))))))
theorem program1_er (hN : NmOk l) {b bp bo : Nat} {code : Int} {q : Nat} (h : progG l = .er code q) : Pan Tryd.prog 45 [Ptr bp, Ptr bo] (Tin l b bp bo) (stopV l code q) := by
  have con := pprog_p hl hN (b := b)
  rw [h] at con
  have con := finR_pan con
  refine pan_intro Tryd.func45 rfl rfl (Nat.le_of_ble_eq_true rfl) (fun c hc => an_ (L_ 0 r_ ?_))
  exact jl_pan (op_pan [2] rfl rfl (con)) (by (repeat (first | refine pq_then ?_ | refine pq_block ?_)); exact pq_fin (by first | rfl | assumption))
end
end Go.Proofs.YtamajcgdfjeehaaDoor
end

section
namespace Go.Proofs.YtamajcgdfjeehaaDoor
open Go.Vc
set_option maxHeartbeats 4000000
attribute [local irreducible] JL JC JQ OpWp Con ConN Pan ConE OpPan HP HT HOk hasW idxW isA isNum isNm numAt txtAt lineAt opAt lx lpx sx sxp exG startA stmtG stmtsL blkG wdG nmG nuG nbG lpG dcG stG taskG tasksL progG scan

theorem Program_c (s : ByteArray) : Con Tryd.prog 26 [Str s] [] (fun K => K (.tup [.row (PRow (parseF s).1), In .i64 (parseF s).2.1, In .i64 (parseF s).2.2]) []) := by
  have hl := scan_len s
  have hN := scan_nm s
  refine con_intro Tryd.func26 rfl rfl (Nat.le_of_ble_eq_true rfl) (fun c hc => ?_)
  by_cases he : (scan s).2.2 = 0
  · have he2 : ¬ ¬ (scan s).2.2 = 0 := fun h => h he
    cases hp : progG (scan s).1 with
    | ok p c =>
      have e : parseF s = (some p, 0, 0) := by unfold parseF; rw [if_pos he, hp]
      have con := fun b bp bo => try_ret (program1_ok (b := b) (bp := bp) (bo := bo) hl hN hp) ⟨_, _, _, rfl⟩
      refine R_ (o_ r_ (bl_ r_ r_ (fun bl => E_ r_ (E_ r_ (T_ (R_ (M_ r_ (o_ r_ (bm_ r_ (Scan_c s) (M_ r_ (X_ r_ (X_ r_ (X_ r_ (E_ r_ (E_ r_ (E_ r_ (T_ ?_)))))))))))))))))
      refine am_ (R_ (M_ r_ (o_ r_ (bx_ r_ r_ (T_ (ap_ r_ w_ (as_ (al_ (R_ (M_ r_ (o_ r_ (bu_ r_ r_ r_ r_ r_ (o_ r_ (ci_ r_ (fun bx => o_ r_ (bl_ r_ r_ (fun bl => W_ 0 r_ (T_ (R_ ?_)))))))))))))))))))
      refine o_ r_ (bl_ r_ r_ (fun bl => T_ (am_ (R_ (o_ r_ (ow_makeFunc r_ (o_ r_ (bi_ [1, 0, 0] r_ r_ (con _ _ _) (M_ r_ (X_ r_ (X_ r_ (o_ r_ (bl_ r_ r_ (fun bl => S_ 0 r_ (E_ r_ (T_ (R_ (M_ r_ (T_ ?_)))))))))))))))))))
      exact ap_ r_ r_ (as_ (al_ (R_ (A_ 2 r_ (S_ 4 r_ (E_ r_ (E_ r_ (T_ (ar_ (jq_retRow2 rfl rfl rfl rfl rfl rfl 0 rfl (fun K h => by rw [e] at h; exact h) sub_end))))))))))
    | er code q =>
      have e : parseF s = (none, lineAt (scan s).1 q, code) := by unfold parseF; rw [if_pos he, hp]
      have con := fun b bp bo => try_pan (program1_er (b := b) (bp := bp) (bo := bo) hl hN hp)
      refine R_ (o_ r_ (bl_ r_ r_ (fun bl => E_ r_ (E_ r_ (T_ (R_ (M_ r_ (o_ r_ (bm_ r_ (Scan_c s) (M_ r_ (X_ r_ (X_ r_ (X_ r_ (E_ r_ (E_ r_ (E_ r_ (T_ ?_)))))))))))))))))
      refine am_ (R_ (M_ r_ (o_ r_ (bx_ r_ r_ (T_ (ap_ r_ w_ (as_ (al_ (R_ (M_ r_ (o_ r_ (bu_ r_ r_ r_ r_ r_ (o_ r_ (ci_ r_ (fun bx => o_ r_ (bl_ r_ r_ (fun bl => W_ 0 r_ (T_ (R_ ?_)))))))))))))))))))
      refine o_ r_ (bl_ r_ r_ (fun bl => T_ (am_ (R_ (o_ r_ (ow_makeFunc r_ (o_ r_ (bi_ [1, 0, 0] r_ r_ (con _ _ _) (M_ r_ (X_ r_ (X_ r_ (o_ r_ (bl_ r_ r_ (fun bl => S_ 0 r_ (E_ r_ (T_ (R_ (M_ r_ (T_ ?_)))))))))))))))))))
      refine aq_ r_ r_ (am_ (jc_hp1 7 (n := 8) rfl 0 k_ rfl (fun cs1 hcs1 => ?_)))
      obtain ⟨u10, u11, rfl⟩ := len2 hcs1
      refine df_ (i := 0) rfl k_ k_ k_ b_ (by (repeat (first | refine pani_then ?_ | refine pani_block ?_)); exact pani_body) (hok_build rfl rfl rfl rfl rfl) ?_
      refine df_ (i := 1) rfl k_ k_ k_ b_ (by (repeat (first | refine pani_then ?_ | refine pani_block ?_)); exact pani_body) (dl_ rfl rfl rfl b_) ?_
      refine df_ (i := 2) rfl k_ k_ k_ b_ (by (repeat (first | refine pani_then ?_ | refine pani_block ?_)); exact pani_body) (dm_ 0 rfl rfl rfl mem0 rfl) ?_
      refine df_ (i := 3) rfl k_ k_ k_ b_ (by (repeat (first | refine pani_then ?_ | refine pani_block ?_)); exact pani_body) (dl_ rfl rfl rfl b_) ?_
      refine df_ (i := 4) rfl k_ k_ k_ b_ (by (repeat (first | refine pani_then ?_ | refine pani_block ?_)); exact pani_body) (dm_ 0 rfl rfl rfl mem0 rfl) ?_
      refine hp_exact 0 rfl mem0 (dh_ (i := 5) r_ k_ (bk_ 1 r_ r_ r_ r_ r_ r_ ⟨?_, ?_⟩))
      exact keep1 1 rfl
      refine dg_ (i := 6) r_ k_ b_ (be_ r_ ⟨?_, ?_⟩)
      exact keep1 1 rfl
      exact hp_tail (di_ (i := 7) rfl k_ b_ (by decide) (be_ rfl (ht_done k_ (al_ (ar_ (aw_ (jq_retRow2 rfl rfl rfl rfl rfl rfl 0 rfl (fun K h => by rw [e] at h; exact h) sub_end)))))))
  · have e : parseF s = (none, (scan s).2.1, (scan s).2.2) := by unfold parseF; rw [if_neg he]
    refine R_ (o_ r_ (bl_ r_ r_ (fun bl => E_ r_ (E_ r_ (T_ (R_ (M_ r_ (o_ r_ (bm_ r_ (Scan_c s) (M_ r_ (X_ r_ (X_ r_ (X_ r_ (E_ r_ (E_ r_ (E_ r_ (T_ ?_)))))))))))))))))
    refine am_ (R_ (M_ r_ (o_ r_ (bx_ r_ r_ (T_ (aq_ r_ u_ (R_ (o_ r_ (bu_ r_ r_ r_ r_ r_ (M_ r_ (M_ r_ (S_ 0 r_ (E_ r_ (E_ r_ (T_ (ar_ (aw_ ?_)))))))))))))))))
    exact jq_retRow2 rfl rfl rfl rfl rfl rfl 0 rfl (fun K h => by rw [e] at h; exact h) sub_end
end Go.Proofs.YtamajcgdfjeehaaDoor
end

section
namespace Go.Proofs.YtamajcgdfjeehaaDoor
open Go.Vc
attribute [local irreducible] JL JC JQ OpWp Con ConN Pan ConE OpPan HP HT HOk hasW idxW isA isNum isNm numAt txtAt lineAt opAt lx lpx sx sxp
set_option maxHeartbeats 4000000

/-! Tokens out of bytes -/
abbrev Brow (n : Int) : List C := [.val (.int .u8 n)]
def sgW : List ByteArray := [⟨#[43]⟩, ⟨#[45]⟩, ⟨#[42]⟩, ⟨#[47]⟩, ⟨#[37]⟩, ⟨#[38]⟩, ⟨#[124]⟩, ⟨#[94]⟩, ⟨#[60, 60]⟩, ⟨#[62, 62]⟩, ⟨#[60]⟩, ⟨#[60, 61]⟩, ⟨#[61, 61]⟩, ⟨#[33, 61]⟩, ⟨#[40]⟩, ⟨#[41]⟩, ⟨#[91]⟩, ⟨#[93]⟩]
def sgN : List ByteArray := [⟨#[97]⟩, ⟨#[98]⟩, ⟨#[101, 110, 100]⟩]
theorem sgW_len : sgW.length = 18 := rfl
theorem sgN_len : sgN.length = 3 := rfl
abbrev m40 (n : Int) : Int := n % 40
abbrev m3 (n : Int) : Int := n % 40 % 3
def sgTok (n : Int) : Tok := if n % 40 < 18 then ⟨3, 0, 0, sgW.getD (n % 40).toNat ⟨#[]⟩⟩ else if n % 40 < 28 then ⟨2, n % 40, 0, ⟨#[]⟩⟩ else ⟨1, 0, 0, sgN.getD (n % 40 % 3).toNat ⟨#[]⟩⟩
def signsT (l : List Int) : List Tok := (l.take 60).map sgTok
theorem signs_len (l : List Int) : (signsT l).length ≤ 60 := by simp [signsT]; omega
theorem signsL_c (l : List Int) (hl : ∀ n ∈ l, 0 ≤ n ∧ n ≤ 255) : Con Tryd.prog 11 [.cell (.list (l.map Brow))] [] (fun K => K (.cell (.list ((signsT l).map Tok.row))) []) := by
  have eL : (l.map Brow).length = l.length := List.length_map _
  refine con_intro Tryd.func11 rfl rfl (Nat.le_of_ble_eq_true rfl) (fun c hc => R_ (E_ r_ (T_ (R_ (o_ r_ (bq_ r_ r_ b_ r_ r_ b_ (E_ r_ (T_ (R_ (E_ r_ (T_ (am_ (R_ (E_ r_ (T_ (au_ ?_))))))))))))))))
  refine jc_ownNil 76 4 g_ (jc_loopS (ι := Nat × Value) [] (fun i => i.1 ≤ l.length ∧ i.1 ≤ 60) (fun i => [(0, .cell (.list (l.map Brow))), (3, .cell (.list (sgW.map Wrow))), (4, .cell (.val i.2)), (5, In .i64 (i.1 : Int))]) (fun i => [.own i.2 76 4 (((l.take i.1).map sgTok).map Tok.row)]) (fun i => l.length - i.1) (0, .slice none 0 0) ⟨Nat.zero_le _, Nat.zero_le _⟩ ?_ ?_ ?_)
  · exact bc_ 0 r_ sub_end
  · (repeat (first | exact True.intro | refine ⟨rfl, ?_⟩))
  · rintro ⟨k, v⟩ ⟨hk, hk60⟩
    dsimp only at hk hk60 ⊢
    refine jc_reset [(0, .cell (.list (l.map Brow))), (3, .cell (.list (sgW.map Wrow))), (4, .cell (.val v)), (5, In .i64 (k : Int))] [.own v 76 4 (((l.take k).map sgTok).map Tok.row)] ?_ ⟨[0], [], rfl⟩ ?_
    · (repeat (first | exact True.intro | refine ⟨rfl, ?_⟩))
    have eT : (((l.take k).map sgTok).map Tok.row).length = k := by simp; omega
    have eT2 : ((l.take k).map sgTok).length = k := by simp; omega
    by_cases hlt : k < l.length ∧ k < 60
    · obtain ⟨h1, h2⟩ := hlt
      have hn := hl _ (List.getElem_mem h1)
      have eW : (sgW.map Wrow).length = 18 := rfl
      have eW2 := sgW_len
      have h3 : (k : Int) < 60 := by omega
      have e : (l.take (k + 1)).map sgTok = (l.take k).map sgTok ++ [sgTok l[k]] := by rw [List.take_succ_eq_append_getElem h1, List.map_append]; rfl
      have e2 : ∀ x, sgTok l[k] = x → (((l.take (k + 1)).map sgTok).map Tok.row) = (((l.take k).map sgTok) ++ [x]).map Tok.row := fun x hx => by rw [e, hx]
      by_cases hc : l[k] % 40 < 18
      · have hi : (m40 l[k]).toNat < sgW.length := by rw [sgW_len]; show (l[k] % 40).toNat < 18; omega
        have et : sgTok l[k] = ⟨3, 0, 0, sgW[(m40 l[k]).toNat]⟩ := by
          unfold sgTok
          rw [if_pos hc, List.getD_eq_getElem?_getD, List.getElem?_eq_getElem hi]
          rfl
        refine am_ (R_ (M_ r_ (M_ r_ (o_ r_ (br_ r_ (fun hlen => o_ r_ (bw_ r_ r_ (M_ r_ (ah_ r_ t_ b_ (bd_ r_ (ah_ r_ t_ b_ (bw_ r_ r_ (o_ r_ (bp_ r_ t_ r_ (T_ (aq_ r_ u_ (as_ (al_ (B_ (R_ ?_))))))))))))))))))))
        refine M_ r_ (M_ r_ (o_ r_ (cc_ r_ r_ g_ r_ r_ b_ (o_ r_ (cb_ r_ r_ (o_ r_ (ow_convI64 r_ r_ r_ g_ (o_ r_ (ow_rem64 r_ r_ g_ g_ (E_ r_ (T_ (au_ (R_ (M_ r_ (M_ r_ (o_ r_ (br_ r_ (fun hlen => o_ r_ (bw_ r_ r_ (E_ r_ (T_ ?_)))))))))))))))))))))
        refine aq_ r_ u_ (an_ (M_ r_ (M_ r_ (M_ r_ (o_ r_ (cv_ r_ r_ g_ g_ r_ r_ b_ (o_ r_ (cb_ r_ r_ (o_ r_ (bu_ r_ r_ r_ r_ r_ (o_ r_ (bq_ r_ r_ b_ r_ r_ b_ ?_))))))))))))
        refine o_ r_ (ow_append1 0 ((⟨3, 0, 0, sgW[(m40 l[k]).toNat]⟩ : Tok)) rfl rfl rfl rfl rfl rfl rfl (fun _ => rfl) (by show (_ + _) * 40 ≤ _; first | omega | (simp only [List.length_append]; omega)) (by first | omega | (simp only [List.length_append]; omega)) (fun v1 hv1 => E_ r_ (ak_ (ay_ (ay_ (al_ (an_ (M_ r_ (o_ r_ (bj_ r_ r_ g_ (E_ r_ (ak_ ?_))))))))))))
        refine jq_againS (i := (k, v)) ((k + 1, v1) : Nat × Value) ⟨h1, h2⟩ (by dsimp only; omega) ?_ ?_
        · dsimp only
          rw [e2 _ et]
          exact bc_ 0 r_ sub_end
        · (repeat (first | exact True.intro | refine ⟨rfl, ?_⟩))
      · by_cases hc2 : l[k] % 40 < 28
        · have et : sgTok l[k] = ⟨2, m40 l[k], 0, ⟨#[]⟩⟩ := by
            unfold sgTok
            rw [if_neg hc, if_pos hc2]
          refine am_ (R_ (M_ r_ (M_ r_ (o_ r_ (br_ r_ (fun hlen => o_ r_ (bw_ r_ r_ (M_ r_ (ah_ r_ t_ b_ (bd_ r_ (ah_ r_ t_ b_ (bw_ r_ r_ (o_ r_ (bp_ r_ t_ r_ (T_ (aq_ r_ u_ (as_ (al_ (B_ (R_ ?_))))))))))))))))))))
          refine M_ r_ (M_ r_ (o_ r_ (cc_ r_ r_ g_ r_ r_ b_ (o_ r_ (cb_ r_ r_ (o_ r_ (ow_convI64 r_ r_ r_ g_ (o_ r_ (ow_rem64 r_ r_ g_ g_ (E_ r_ (T_ (au_ (R_ (M_ r_ (M_ r_ (o_ r_ (br_ r_ (fun hlen => o_ r_ (bw_ r_ r_ (E_ r_ (T_ ?_)))))))))))))))))))))
          refine ap_ r_ w_ (R_ (M_ r_ (o_ r_ (bw_ r_ r_ (E_ r_ (T_ (aq_ r_ u_ (an_ (M_ r_ (M_ r_ (o_ r_ (bu_ r_ r_ r_ r_ r_ (o_ r_ (bq_ r_ r_ b_ r_ r_ b_ (o_ r_ (ow_append1 0 ((⟨2, m40 l[k], 0, ⟨#[]⟩⟩ : Tok)) rfl rfl rfl rfl rfl rfl rfl (fun _ => rfl) (by show (_ + _) * 40 ≤ _; first | omega | (simp only [List.length_append]; omega)) (by first | omega | (simp only [List.length_append]; omega)) (fun v1 hv1 => ?_)))))))))))))))))
          refine E_ r_ (ak_ (ay_ (ay_ (al_ (an_ (M_ r_ (o_ r_ (bj_ r_ r_ g_ (E_ r_ (ak_ (jq_againS (i := (k, v)) ((k + 1, v1) : Nat × Value) ⟨h1, h2⟩ (by dsimp only; omega) ?_ ?_)))))))))))
          · dsimp only
            rw [e2 _ et]
            exact bc_ 0 r_ sub_end
          · (repeat (first | exact True.intro | refine ⟨rfl, ?_⟩))
        · have eN : (sgN.map Wrow).length = 3 := rfl
          have eN2 := sgN_len
          have hi : (m3 l[k]).toNat < sgN.length := by rw [sgN_len]; show (l[k] % 40 % 3).toNat < 3; omega
          have et : sgTok l[k] = ⟨1, 0, 0, sgN[(m3 l[k]).toNat]⟩ := by
            unfold sgTok
            rw [if_neg hc, if_neg hc2, List.getD_eq_getElem?_getD, List.getElem?_eq_getElem hi]
            rfl
          refine am_ (R_ (M_ r_ (M_ r_ (o_ r_ (br_ r_ (fun hlen => o_ r_ (bw_ r_ r_ (M_ r_ (ah_ r_ t_ b_ (bd_ r_ (ah_ r_ t_ b_ (bw_ r_ r_ (o_ r_ (bp_ r_ t_ r_ (T_ (aq_ r_ u_ (as_ (al_ (B_ (R_ ?_))))))))))))))))))))
          refine M_ r_ (M_ r_ (o_ r_ (cc_ r_ r_ g_ r_ r_ b_ (o_ r_ (cb_ r_ r_ (o_ r_ (ow_convI64 r_ r_ r_ g_ (o_ r_ (ow_rem64 r_ r_ g_ g_ (E_ r_ (T_ (au_ (R_ (M_ r_ (M_ r_ (o_ r_ (br_ r_ (fun hlen => o_ r_ (bw_ r_ r_ (E_ r_ (T_ ?_)))))))))))))))))))))
          refine ap_ r_ w_ (R_ (M_ r_ (o_ r_ (bw_ r_ r_ (E_ r_ (T_ (ap_ r_ w_ (an_ (M_ r_ (o_ r_ (bq_ r_ r_ b_ r_ r_ b_ (M_ r_ (o_ r_ (ow_rem64 r_ r_ g_ g_ (o_ r_ (cv_ (f := Wrow) (l := sgN) r_ r_ g_ hi r_ r_ b_ (o_ r_ (cb_ r_ r_ (o_ r_ (bu_ r_ r_ r_ r_ r_ (o_ r_ (bq_ r_ r_ b_ r_ r_ b_ ?_))))))))))))))))))))))
          refine o_ r_ (ow_append1 0 ((⟨1, 0, 0, sgN[(m3 l[k]).toNat]⟩ : Tok)) rfl rfl rfl rfl rfl rfl rfl (fun _ => rfl) (by show (_ + _) * 40 ≤ _; first | omega | (simp only [List.length_append]; omega)) (by first | omega | (simp only [List.length_append]; omega)) (fun v1 hv1 => E_ r_ (ak_ (ay_ (ay_ (al_ (an_ (M_ r_ (o_ r_ (bj_ r_ r_ g_ (E_ r_ (ak_ ?_))))))))))))
          refine jq_againS (i := (k, v)) ((k + 1, v1) : Nat × Value) ⟨h1, h2⟩ (by dsimp only; omega) ?_ ?_
          · dsimp only
            rw [e2 _ et]
            exact bc_ 0 r_ sub_end
          · (repeat (first | exact True.intro | refine ⟨rfl, ?_⟩))
    · have e : (l.take k).map sgTok = signsT l := by
        unfold signsT
        by_cases h : k < l.length
        · rw [show k = 60 by omega]
        · rw [List.take_of_length_le (by omega), List.take_of_length_le (by omega)]
      have hstop : ¬ ((k : Int) < l.length ∧ (k : Int) < 60) := by omega
      by_cases h : k < l.length
      · refine am_ (R_ (M_ r_ (M_ r_ (o_ r_ (br_ r_ (fun hlen => o_ r_ (bw_ r_ r_ (M_ r_ (ah_ r_ t_ b_ (bd_ r_ (ah_ r_ t_ b_ (bw_ r_ r_ (o_ r_ (bp_ r_ t_ r_ (T_ (ap_ r_ v_ (av_ (ax_ (ax_ (ba_ ?_))))))))))))))))))))
        refine al_ (R_ (M_ r_ (E_ r_ (T_ (ar_ (jq_freeze 2 0 rfl rfl (by rw [hc]; simp [hb]) ?_))))))
        rw [e]
        refine jq_ret1 rfl rfl [] rfl (fun K h => h)
      · refine am_ (R_ (M_ r_ (M_ r_ (o_ r_ (br_ r_ (fun hlen => o_ r_ (bw_ r_ r_ (M_ r_ (ai_ r_ v_ b_ (ai_ r_ v_ b_ (o_ r_ (bv_ r_ v_ r_ (T_ (ap_ r_ r_ (av_ (ax_ (ax_ (ba_ ?_))))))))))))))))))
        refine al_ (R_ (M_ r_ (E_ r_ (T_ (ar_ (jq_freeze 2 0 rfl rfl (by rw [hc]; simp [hb]) ?_))))))
        rw [e]
        refine jq_ret1 rfl rfl [] rfl (fun K h => h)
/-! Expressions compared -/
theorem SameAll_c (A : List T) (hS : ∀ (i : Nat) (h : i < A.length), Con Tryd.prog 13 [.row A[i].row', .row A[i].row'] [] (fun K => K (Bl true) [])) : Con Tryd.prog 30 [.cell (.list (A.map T.row)), .cell (.list (A.map T.row))] [] (fun K => K (Bl true) []) := by
  have eL : (A.map T.row).length = A.length := List.length_map _
  refine con_intro Tryd.func30 rfl rfl (Nat.le_of_ble_eq_true rfl) (fun c hc => ?_)
  have hne : ¬ ¬ ((A.map T.row).length : Int) = ((A.map T.row).length : Int) := fun h => h rfl
  refine R_ (E_ r_ (T_ (am_ (R_ (M_ r_ (o_ r_ (br_ r_ (fun hlen => M_ r_ (o_ r_ (br_ r_ (fun hlen => o_ r_ (bx_ r_ r_ (T_ (ap_ r_ w_ (as_ (al_ (am_ (R_ ?_))))))))))))))))))
  refine E_ r_ (T_ (au_ (jc_loopS [] (fun k : Nat => k ≤ A.length) (fun k => [(0, .cell (.list (A.map T.row))), (1, .cell (.list (A.map T.row))), (5, In .i64 (k : Int))]) (fun _ => []) (fun k => A.length - k) 0 (Nat.zero_le _) ?_ ?_ ?_)))
  · exact sub_end
  · (repeat (first | exact True.intro | refine ⟨rfl, ?_⟩))
  · intro k hk
    refine jc_reset [(0, .cell (.list (A.map T.row))), (1, .cell (.list (A.map T.row))), (5, In .i64 (k : Int))] [] ?_ ⟨[], [], rfl⟩ ?_
    · (repeat (first | exact True.intro | refine ⟨rfl, ?_⟩))
    by_cases hlt : k < A.length
    · have hC := hS k hlt
      refine am_ (R_ (M_ r_ (M_ r_ (o_ r_ (br_ r_ (fun hlen => o_ r_ (bw_ r_ r_ (T_ (aq_ r_ t_ (as_ (al_ (B_ (am_ (ao_ r_ r_ k_ k_ (yM_ r_ (yM_ r_ (aa_ (fun c => cc_ r_ r_ g_ (T.row_eq _) r_ b_ p_) ?_)))))))))))))))))
      refine aa_ (fun c => cr_ r_ r_ r_ p_) (yM_ r_ (yM_ r_ (aa_ (fun c => cc_ r_ r_ g_ (T.row_eq _) r_ b_ p_) (aa_ (fun c => cr_ r_ r_ r_ p_) (aa_ (fun c => bm_ r_ (hC) p_) (aa_ (fun c => cd_ r_ p_) (ae_ (al_ (ap_ r_ r_ (as_ (ay_ (al_ (an_ (M_ r_ (o_ r_ (bj_ r_ r_ g_ ?_))))))))))))))))
      refine E_ r_ (ak_ (jq_againS (k + 1) g_ g_ ?_ ?_))
      · exact sub_end
      · (repeat (first | exact True.intro | refine ⟨rfl, ?_⟩))
    · refine am_ (R_ (M_ r_ (M_ r_ (o_ r_ (br_ r_ (fun hlen => o_ r_ (bw_ r_ r_ (T_ (ap_ r_ v_ (av_ (ax_ (ax_ (ba_ (al_ (R_ (E_ r_ (T_ ?_)))))))))))))))))
      refine ar_ (jq_ret1 rfl rfl [] rfl (fun K h => h))
theorem SameG_c (k n o : Int) (s : ByteArray) (A : List T) (hA : Con Tryd.prog 30 [.cell (.list (A.map T.row)), .cell (.list (A.map T.row))] [] (fun K => K (Bl true) [])) :
    Con Tryd.prog 13 [.row [.val (.int .i64 k), .val (.int .i64 n), .val (.string s), .val (.int .i64 o), .list (A.map T.row)], .row [.val (.int .i64 k), .val (.int .i64 n), .val (.string s), .val (.int .i64 o), .list (A.map T.row)]] [] (fun K => K (Bl true) []) := by
  have h1 : ¬ ¬ k = k := fun h => h rfl
  have h2 : ¬ ¬ n = n := fun h => h rfl
  have h3 : ¬ ¬ s = s := fun h => h rfl
  have h4 : ¬ ¬ o = o := fun h => h rfl
  refine con_intro Tryd.func13 rfl rfl (Nat.le_of_ble_eq_true rfl) (fun c hc => R_ (o_ r_ (ci_ r_ (fun bx => o_ r_ (ci_ r_ (fun bx => E_ r_ (T_ (am_ (R_ (F_ r_ (L_ 1 r_ (F_ r_ (L_ 0 r_ (o_ r_ (bx_ r_ r_ (M_ r_ (ah_ r_ v_ b_ (bf_ r_ r_ r_ b_ (ah_ r_ v_ b_ (bg_ 1 r_ r_ r_ r_ ?_))))))))))))))))))))
  refine ah_ r_ v_ b_ (bf_ r_ r_ r_ b_ (ah_ r_ v_ b_ (bg_ 0 r_ r_ r_ r_ (ah_ r_ v_ b_ (bx_ r_ r_ (o_ r_ (bv_ r_ w_ r_ (M_ r_ (ah_ r_ v_ b_ (bf_ r_ r_ r_ b_ (ah_ r_ v_ b_ (bg_ 1 r_ r_ r_ r_ (ah_ r_ v_ b_ (bf_ r_ r_ r_ b_ (ah_ r_ v_ b_ (bg_ 0 r_ r_ r_ r_ (ah_ r_ v_ b_ (ct_ r_ r_ (o_ r_ (bv_ r_ w_ r_ (M_ r_ (ah_ r_ v_ b_ (bf_ r_ r_ r_ b_ (ah_ r_ v_ b_ (bg_ 1 r_ r_ r_ r_ ?_)))))))))))))))))))))))))
  refine ah_ r_ v_ b_ (bf_ r_ r_ r_ b_ (ah_ r_ v_ b_ (bg_ 0 r_ r_ r_ r_ (ah_ r_ v_ b_ (bx_ r_ r_ (o_ r_ (bv_ r_ w_ r_ (T_ (ap_ r_ w_ (as_ (al_ (R_ (F_ r_ (L_ 1 r_ (F_ r_ (L_ 0 r_ (o_ r_ (bm_ r_ (hA) (E_ r_ (T_ ?_))))))))))))))))))))
  refine ar_ (jq_ret1 rfl rfl [] rfl (fun K h => h))
theorem SameT_c : ∀ t : T, Con Tryd.prog 13 [.row t.row', .row t.row'] [] (fun K => K (Bl true) [])
  | .nu n => SameG_c 1 n 0 ⟨#[]⟩ [] (SameAll_c [] (fun i h => absurd h (by simp)))
  | .nm s => SameG_c 2 0 0 s [] (SameAll_c [] (fun i h => absurd h (by simp)))
  | .ix s t => SameG_c 3 0 0 s [t] (SameAll_c [t] (fun i h => by
      obtain rfl : i = 0 := by simpa using h
      exact SameT_c t))
  | .bn o a b => SameG_c 4 0 o ⟨#[]⟩ [a, b] (SameAll_c [a, b] (fun i h => by
      rcases (show i = 0 ∨ i = 1 by simp at h; omega) with rfl | rfl
      · exact SameT_c a
      · exact SameT_c b))
theorem SameE_c (r : Option T) : Con Tryd.prog 13 [.row (ERow r), .row (ERow r)] [] (fun K => K (Bl true) []) := by
  cases r with
  | some t => exact SameT_c t
  | none =>
    have hz : ∀ w A v, SOk w A (.row Z5) v → SOk w A (.row [.val (.int .i64 0), .val (.int .i64 0), .val (.string ⟨#[]⟩), .val (.int .i64 0), .list (([] : List T).map T.row)]) v := by
      refine SLe.row ?_
      (repeat (first | exact RowLe.nil | refine RowLe.cons (CLe.refl _) ?_ | refine RowLe.cons CLe.nil ?_))
    refine con_le (fun w A vs h => ?_) (SameG_c 0 0 0 ⟨#[]⟩ [] (SameAll_c [] (fun i h => absurd h (by simp))))
    obtain ⟨v, r, rfl, h1, v2, r2, rfl, h2, h3⟩ := h
    exact ⟨v, _, rfl, hz _ _ _ h1, v2, _, rfl, hz _ _ _ h2, h3⟩
end Go.Proofs.YtamajcgdfjeehaaDoor
end

section
namespace Go.Proofs.YtamajcgdfjeehaaDoor
open Go.Vc
attribute [local irreducible] JL JC JQ OpWp Con ConN Pan ConE OpPan HP HT HOk HQ hasW idxW isA isNum isNm numAt txtAt lineAt opAt lx lpx sx sxp
set_option maxHeartbeats 4000000

/-! The reference's programs compared -/
theorem SameL_c (A : List T) : Con Tryd.prog 30 [.cell (.list (A.map T.row)), .cell (.list (A.map T.row))] [] (fun K => K (Bl true) []) := SameAll_c A fun _ _ => SameT_c _
def SameSs (A : List Sm) : Prop := Con Tryd.prog 104 [.cell (.list (A.map Sm.row)), .cell (.list (A.map Sm.row))] [] (fun K => K (Bl true) [])
theorem SameSs.con {A : List Sm} (h : SameSs A) : Con Tryd.prog 104 [.cell (.list (A.map Sm.row)), .cell (.list (A.map Sm.row))] [] (fun K => K (Bl true) []) := h
theorem SameSs_step (A : List Sm) (hS : ∀ s ∈ A, SameSs s.thn ∧ SameSs s.els) : SameSs A := by
  unfold SameSs
  have eL : (A.map Sm.row).length = A.length := List.length_map _
  refine con_intro Tryd.func104 rfl rfl (Nat.le_of_ble_eq_true rfl) (fun c hc => ?_)
  have hne : ¬ ¬ ((A.map Sm.row).length : Int) = ((A.map Sm.row).length : Int) := fun h => h rfl
  refine R_ (E_ r_ (T_ (am_ (R_ (M_ r_ (o_ r_ (br_ r_ (fun hlen => M_ r_ (o_ r_ (br_ r_ (fun hlen => o_ r_ (bx_ r_ r_ (T_ (ap_ r_ w_ (as_ (al_ (am_ (R_ ?_))))))))))))))))))
  refine E_ r_ (T_ (au_ (jc_loopS [] (fun k : Nat => k ≤ A.length) (fun k => [(0, .cell (.list (A.map Sm.row))), (1, .cell (.list (A.map Sm.row))), (5, In .i64 (k : Int))]) (fun _ => []) (fun k => A.length - k) 0 (Nat.zero_le _) ?_ ?_ ?_)))
  · exact sub_end
  · (repeat (first | exact True.intro | refine ⟨rfl, ?_⟩))
  intro k hk
  refine jc_reset [(0, .cell (.list (A.map Sm.row))), (1, .cell (.list (A.map Sm.row))), (5, In .i64 (k : Int))] [] ?_ ⟨[], [], rfl⟩ ?_
  · (repeat (first | exact True.intro | refine ⟨rfl, ?_⟩))
  by_cases hlt : k < A.length
  · have hi : (A.map Sm.row)[k]? = some A[k].row' := by simp [hlt, Sm.row_eq]
    have hS1 := hS A[k] (List.getElem_mem hlt)
    have elt : k < (A.map Sm.row).length := by rw [eL]; exact hlt
    refine am_ (R_ (M_ r_ (M_ r_ (o_ r_ (br_ r_ (fun hlen => o_ r_ (bw_ r_ r_ (T_ (aq_ r_ t_ (as_ (al_ (B_ (am_ ?_)))))))))))))
    generalize A[k] = s at hi hS1
    obtain ⟨c1, c2⟩ := hS1
    have c1 := c1.con
    have c2 := c2.con
    have cI := SameL_c s.index
    have cV := SameL_c s.value
    have h1 : ¬ ¬ s.kind = s.kind := fun h => h rfl
    have h2 : ¬ ¬ s.name = s.name := fun h => h rfl
    have h3 : ¬ ¬ s.max = s.max := fun h => h rfl
    have h4 : ¬ ¬ s.label = s.label := fun h => h rfl
    refine jc_hq2 (n := 12) rfl 0 1 k k k_ rfl rfl hi hi (Nat.zero_lt_succ _) (Nat.zero_lt_succ _) (fun v1 v2 p1 p2 vs1 vs2 l1 l2 x1 x2 => ?_)
    obtain ⟨a0, a1, a2, a3, a4, a5, a6, a7, rfl⟩ := len8 l1
    obtain ⟨b0, b1, b2, b3, b4, b5, b6, b7, rfl⟩ := len8 l2
    refine hq_take (i := 0) rfl k_ k_ k_ (nb rfl) (by (repeat (first | refine pani_then ?_ | refine pani_block ?_)); exact pani_body) (dk_ rfl) ?_
    refine hq_take (i := 1) rfl k_ k_ k_ (nb rfl) (by (repeat (first | refine pani_then ?_ | refine pani_block ?_)); exact pani_body) (dk_ rfl) ?_
    refine hq_take (i := 2) rfl k_ k_ k_ (nb rfl) (by (repeat (first | refine pani_then ?_ | refine pani_block ?_)); exact pani_body) (hok_index rfl rfl g_ (Int.toNat_natCast k) elt x1 rfl) ?_
    refine hq_take (i := 3) rfl k_ k_ k_ (nb rfl) (by (repeat (first | refine pani_then ?_ | refine pani_block ?_)); exact pani_body) (hok_loadF rfl rfl (List.Mem.tail _ (List.Mem.head _)) rfl) ?_
    refine hq_take (i := 4) rfl k_ k_ k_ (nb rfl) (by (repeat (first | refine pani_then ?_ | refine pani_block ?_)); exact pani_body) (dk_ rfl) ?_
    refine hq_take (i := 5) rfl k_ k_ k_ (nb rfl) (by (repeat (first | refine pani_then ?_ | refine pani_block ?_)); exact pani_body) (dk_ rfl) ?_
    refine hq_take (i := 6) rfl k_ k_ k_ (nb rfl) (by (repeat (first | refine pani_then ?_ | refine pani_block ?_)); exact pani_body) (hok_index rfl rfl g_ (Int.toNat_natCast k) elt x2 rfl) ?_
    refine hq_take (i := 7) rfl k_ k_ k_ (nb rfl) (by (repeat (first | refine pani_then ?_ | refine pani_block ?_)); exact pani_body) (hok_loadF rfl rfl (List.Mem.tail _ (List.Mem.tail _ (List.Mem.tail _ (List.Mem.tail _ (List.Mem.head _))))) rfl) ?_
    refine hq_alloc2 (i := 8) (j := 9) rfl rfl k_ k_ k_ (nb rfl) (nb rfl) rfl rfl rfl rfl rfl rfl (fun bx by_ => hq_op (i := 10) rfl k_ k_ (bk_ 1 rfl rfl rfl rfl rfl rfl (hq_op (i := 11) rfl k_ k_ (bk_ 1 rfl rfl rfl rfl rfl rfl (hq_blk 0 (row := s.row') (vs := [b0, b1, b2, b3, b4, b5, b6, b7]) rfl (List.Mem.tail _ (List.Mem.tail _ (List.Mem.tail _ (List.Mem.tail _ (List.Mem.tail _ (List.Mem.head _)))))) ?_)))))
    refine hq_blk 1 (row := s.row') (vs := [a0, a1, a2, a3, a4, a5, a6, a7]) rfl (List.Mem.tail _ (List.Mem.tail _ (List.Mem.head _))) (hq_slot 0 (s := .cell (.list (A.map Sm.row))) rfl (List.Mem.head _) (hq_slot 1 (s := .cell (.list (A.map Sm.row))) rfl (List.Mem.tail _ (List.Mem.tail _ (List.Mem.tail _ (List.Mem.head _)))) (hq_done k_ (al_ (R_ (F_ r_ (L_ 0 r_ (F_ r_ (L_ 1 r_ (o_ r_ (bx_ r_ r_ (M_ r_ ?_))))))))))))
    refine ah_ r_ w_ b_ (bf_ r_ r_ r_ b_ (ah_ r_ w_ b_ (bg_ 0 r_ r_ r_ r_ (ah_ r_ w_ b_ (bf_ r_ r_ r_ b_ (ah_ r_ w_ b_ (bg_ 1 r_ r_ r_ r_ (ah_ r_ w_ b_ (ct_ r_ r_ (o_ r_ (bv_ r_ w_ r_ (M_ r_ (ah_ r_ w_ b_ (bf_ r_ r_ r_ b_ (ah_ r_ w_ b_ (bg_ 0 r_ r_ r_ r_ (ah_ r_ w_ b_ (bf_ r_ r_ r_ b_ (ah_ r_ w_ b_ (bg_ 1 r_ r_ r_ r_ (ah_ r_ w_ b_ (bx_ r_ r_ (o_ r_ (bv_ r_ w_ r_ (M_ r_ ?_)))))))))))))))))))))))))
    refine ah_ r_ w_ b_ (bf_ r_ r_ r_ b_ (ah_ r_ w_ b_ (bg_ 0 r_ r_ r_ r_ (ah_ r_ w_ b_ (bf_ r_ r_ r_ b_ (ah_ r_ w_ b_ (bg_ 1 r_ r_ r_ r_ (ah_ r_ w_ b_ (bx_ r_ r_ (o_ r_ (bv_ r_ w_ r_ (M_ r_ (ah_ r_ w_ b_ (bf_ r_ r_ r_ b_ (ah_ r_ w_ b_ (bg_ 0 r_ r_ r_ r_ (ah_ r_ w_ b_ (bf_ r_ r_ r_ b_ (ah_ r_ w_ b_ (bg_ 1 r_ r_ r_ r_ (ah_ r_ w_ b_ (bm_ r_ (cI) (ah_ r_ w_ b_ (cd_ r_ (o_ r_ (bv_ r_ w_ r_ (M_ r_ ?_)))))))))))))))))))))))))))
    refine ah_ r_ r_ b_ (bf_ r_ r_ r_ b_ (ah_ r_ r_ b_ (bg_ 0 r_ r_ r_ r_ (ah_ r_ r_ b_ (bf_ r_ r_ r_ b_ (ah_ r_ r_ b_ (bg_ 1 r_ r_ r_ r_ (ah_ r_ r_ b_ (bm_ r_ (cV) (ah_ r_ r_ b_ (cd_ r_ (o_ r_ (bv_ r_ r_ r_ (M_ r_ (ah_ r_ r_ b_ (bf_ r_ r_ r_ b_ (ah_ r_ r_ b_ (bg_ 0 r_ r_ r_ r_ (ah_ r_ r_ b_ (bf_ r_ r_ r_ b_ (ah_ r_ r_ b_ (bg_ 1 r_ r_ r_ r_ (ah_ r_ r_ b_ (bm_ r_ (c1) (ah_ r_ r_ b_ (cd_ r_ ?_))))))))))))))))))))))))))
    refine o_ r_ (bv_ r_ r_ r_ (M_ r_ (ah_ r_ r_ b_ (bf_ r_ r_ r_ b_ (ah_ r_ r_ b_ (bg_ 0 r_ r_ r_ r_ (ah_ r_ r_ b_ (bf_ r_ r_ r_ b_ (ah_ r_ r_ b_ (bg_ 1 r_ r_ r_ r_ (ah_ r_ r_ b_ (bm_ r_ (c2) (ah_ r_ r_ b_ (cd_ r_ (o_ r_ (bv_ r_ r_ r_ (T_ (ap_ r_ r_ (as_ (ay_ (al_ (an_ (M_ r_ ?_)))))))))))))))))))))))
    refine o_ r_ (bj_ r_ r_ g_ (E_ r_ (ak_ (jq_againS (k + 1) g_ g_ ?_ ?_))))
    · exact sub_end
    · (repeat (first | exact True.intro | refine ⟨rfl, ?_⟩))
  · refine am_ (R_ (M_ r_ (M_ r_ (o_ r_ (br_ r_ (fun hlen => o_ r_ (bw_ r_ r_ (T_ (ap_ r_ v_ (av_ (ax_ (ax_ (ba_ (al_ (R_ (E_ r_ (T_ ?_)))))))))))))))))
    refine ar_ (jq_ret1 rfl rfl [] rfl (fun K h => h))
theorem SameStmts_all : ∀ (n : Nat) (A : List Sm), SizeOf.sizeOf A ≤ n → SameSs A
  | 0, A, h => by cases A <;> simp at h
  | n + 1, A, h => SameSs_step A fun s hs => by
    have h1 := List.sizeOf_lt_of_mem hs
    have h2 : SizeOf.sizeOf s.thn < SizeOf.sizeOf s ∧ SizeOf.sizeOf s.els < SizeOf.sizeOf s := by
      cases s
      simp only [Sm.thn, Sm.els, Sm.mk.sizeOf_spec]
      omega
    exact ⟨SameStmts_all n _ g_, SameStmts_all n _ g_⟩
theorem SameStmts_c (A : List Sm) : Con Tryd.prog 104 [.cell (.list (A.map Sm.row)), .cell (.list (A.map Sm.row))] [] (fun K => K (Bl true) []) := (SameStmts_all _ A (Nat.le_refl _)).con
theorem fsok_cons {P : Program} {n : Nat} {cs : Array Value} {f : Field} {fs : List Field} {v : Value} (h1 : ∀ w, (part f.type cs f.offset).run P w = .ok v w) (h2 : EqSelf P n f.type v) (h : FsOk P n cs fs) : FsOk P n cs (f :: fs) := ⟨⟨v, h1, h2⟩, h⟩
theorem fsok_nil {P : Program} {n : Nat} {cs : Array Value} : FsOk P n cs [] := trivial
theorem eqInput (x : Inp) (n : Nat) : EqSelf Tryd.prog (n + 2) 120 (.agg ([.string (x.1), .int .i64 (x.2.1), .int .i64 (x.2.2)] : List Value).toArray) := eqself_ti rfl (by kernel_rfl) (fsok_cons (part_leaf rfl rfl) (eqself_str rfl _ _) (fsok_cons (part_leaf rfl rfl) (eqself_int rfl _ _) (fsok_cons (part_leaf rfl rfl) (eqself_int rfl _ _) (fsok_nil))))
theorem eqArray (x : Arr) (n : Nat) : EqSelf Tryd.prog (n + 2) 108 (.agg ([.string (x.1), .int .i64 (x.2)] : List Value).toArray) := eqself_ti rfl (by kernel_rfl) (fsok_cons (part_leaf rfl rfl) (eqself_str rfl _ _) (fsok_cons (part_leaf rfl rfl) (eqself_int rfl _ _) (fsok_nil)))
theorem eqMode (x : Md) (n : Nat) : EqSelf Tryd.prog (n + 2) 122 (.agg ([.string (x.1), .string (x.2.1), .int .i64 (x.2.2.1), .int .i64 (x.2.2.2)] : List Value).toArray) := eqself_ti rfl (by kernel_rfl) (fsok_cons (part_leaf rfl rfl) (eqself_str rfl _ _) (fsok_cons (part_leaf rfl rfl) (eqself_str rfl _ _) (fsok_cons (part_leaf rfl rfl) (eqself_int rfl _ _) (fsok_cons (part_leaf rfl rfl) (eqself_int rfl _ _) (fsok_nil)))))
theorem eqClaim (x : Clm) (n : Nat) : EqSelf Tryd.prog (n + 2) 124 (.agg ([.int .i64 (x.1), .int .i64 (x.2)] : List Value).toArray) := eqself_ti rfl (by kernel_rfl) (fsok_cons (part_leaf rfl rfl) (eqself_int rfl _ _) (fsok_cons (part_leaf rfl rfl) (eqself_int rfl _ _) (fsok_nil)))
theorem eqShared (x : Shd) : EqSelf Tryd.prog 10000 110 (.agg ([.string (x.1), .int .i64 (x.2.1), .string (x.2.2)] : List Value).toArray) := eqself_ti rfl (by kernel_rfl) (fsok_cons (part_agg (vs := [.string x.1, .int .i64 x.2.1]) rfl rfl) (eqArray (x.1, x.2.1) _) (fsok_cons (part_leaf rfl rfl) (eqself_str rfl _ _) fsok_nil))
theorem SameTk_c (t : Tk) : Con Tryd.prog 72 [.row t.row, .row t.row] [] (fun K => K (Bl true) []) := by
  have eLinputs : (t.inputs.map InRow).length = t.inputs.length := List.length_map _
  have hminputs : ∀ k, k < t.inputs.length → (k : Int) < (t.inputs.map InRow).length := fun k h => by omega
  have hninputs : ¬ ¬ ((t.inputs.map InRow).length : Int) = ((t.inputs.map InRow).length : Int) := fun h => h rfl
  have eLvars : (t.vars.map Wrow).length = t.vars.length := List.length_map _
  have hmvars : ∀ k, k < t.vars.length → (k : Int) < (t.vars.map Wrow).length := fun k h => by omega
  have hnvars : ¬ ¬ ((t.vars.map Wrow).length : Int) = ((t.vars.map Wrow).length : Int) := fun h => h rfl
  have eLarrays : (t.arrays.map ArRow).length = t.arrays.length := List.length_map _
  have hmarrays : ∀ k, k < t.arrays.length → (k : Int) < (t.arrays.map ArRow).length := fun k h => by omega
  have hnarrays : ¬ ¬ ((t.arrays.map ArRow).length : Int) = ((t.arrays.map ArRow).length : Int) := fun h => h rfl
  have eLmodes : (t.modes.map MdRow).length = t.modes.length := List.length_map _
  have hmmodes : ∀ k, k < t.modes.length → (k : Int) < (t.modes.map MdRow).length := fun k h => by omega
  have hnmodes : ¬ ¬ ((t.modes.map MdRow).length : Int) = ((t.modes.map MdRow).length : Int) := fun h => h rfl
  have eLclaims : (t.claims.map ClRow).length = t.claims.length := List.length_map _
  have hmclaims : ∀ k, k < t.claims.length → (k : Int) < (t.claims.map ClRow).length := fun k h => by omega
  have hnclaims : ¬ ¬ ((t.claims.map ClRow).length : Int) = ((t.claims.map ClRow).length : Int) := fun h => h rfl
  have hnname : ¬ ¬ t.name = t.name := fun h => h rfl
  have hnperiod : ¬ ¬ t.period = t.period := fun h => h rfl
  have hndeadline : ¬ ¬ t.deadline = t.deadline := fun h => h rfl
  have hnpriority : ¬ ¬ t.priority = t.priority := fun h => h rfl
  have hnjitter : ¬ ¬ t.jitter = t.jitter := fun h => h rfl
  have cS := SameStmts_c t.body
  refine con_intro Tryd.func72 rfl rfl (Nat.le_of_ble_eq_true rfl) (fun c hc => R_ (o_ r_ (ci_ r_ (fun bx => o_ r_ (ci_ r_ (fun bx => E_ r_ (T_ (am_ (am_ ?_)))))))))
  rename_i b2
  revert bx
  intro b3
  refine an_ (F_ r_ (L_ 1 r_ (F_ r_ (L_ 0 r_ (o_ r_ (ct_ r_ r_ (M_ r_ (ah_ r_ w_ b_ (bf_ r_ r_ r_ b_ (ah_ r_ w_ b_ (bg_ 1 r_ r_ r_ r_ (ah_ r_ w_ b_ (bf_ r_ r_ r_ b_ (ah_ r_ w_ b_ (bg_ 0 r_ r_ r_ r_ (ah_ r_ w_ b_ (bx_ r_ r_ (o_ r_ (bv_ r_ w_ r_ (M_ r_ (ah_ r_ w_ b_ (bf_ r_ r_ r_ b_ (ah_ r_ w_ b_ (bg_ 1 r_ r_ r_ r_ ?_))))))))))))))))))))))))
  refine ah_ r_ w_ b_ (bf_ r_ r_ r_ b_ (ah_ r_ w_ b_ (bg_ 0 r_ r_ r_ r_ (ah_ r_ w_ b_ (bx_ r_ r_ (o_ r_ (bv_ r_ w_ r_ (M_ r_ (ah_ r_ w_ b_ (bf_ r_ r_ r_ b_ (ah_ r_ w_ b_ (bg_ 1 r_ r_ r_ r_ (ah_ r_ w_ b_ (bf_ r_ r_ r_ b_ (ah_ r_ w_ b_ (bg_ 0 r_ r_ r_ r_ (ah_ r_ w_ b_ (bx_ r_ r_ (o_ r_ (bv_ r_ w_ r_ (M_ r_ (ah_ r_ w_ b_ (bf_ r_ r_ r_ b_ (ah_ r_ w_ b_ (bg_ 1 r_ r_ r_ r_ ?_)))))))))))))))))))))))))
  refine ah_ r_ w_ b_ (bf_ r_ r_ r_ b_ (ah_ r_ w_ b_ (bg_ 0 r_ r_ r_ r_ (ah_ r_ w_ b_ (bx_ r_ r_ (o_ r_ (bv_ r_ w_ r_ (M_ r_ (ah_ r_ w_ b_ (bf_ r_ r_ r_ b_ (ah_ r_ w_ b_ (bg_ 1 r_ r_ r_ r_ (ah_ r_ w_ b_ (br_ r_ (fun hlen => ah_ r_ w_ b_ (bf_ r_ r_ r_ b_ (ah_ r_ w_ b_ (bg_ 0 r_ r_ r_ r_ (ah_ r_ w_ b_ (br_ r_ (fun hlen => ah_ r_ w_ b_ (bx_ r_ r_ (o_ r_ (bv_ r_ w_ r_ (M_ r_ ?_)))))))))))))))))))))))))
  refine ah_ r_ w_ b_ (bf_ r_ r_ r_ b_ (ah_ r_ w_ b_ (bg_ 1 r_ r_ r_ r_ (ah_ r_ w_ b_ (br_ r_ (fun hlen => ah_ r_ w_ b_ (bf_ r_ r_ r_ b_ (ah_ r_ w_ b_ (bg_ 0 r_ r_ r_ r_ (ah_ r_ w_ b_ (br_ r_ (fun hlen => ah_ r_ w_ b_ (bx_ r_ r_ (o_ r_ (bv_ r_ w_ r_ (M_ r_ (ah_ r_ w_ b_ (bf_ r_ r_ r_ b_ (ah_ r_ w_ b_ (bg_ 1 r_ r_ r_ r_ (ah_ r_ w_ b_ (br_ r_ (fun hlen => ah_ r_ w_ b_ (bf_ r_ r_ r_ b_ ?_))))))))))))))))))))))))
  refine ah_ r_ w_ b_ (bg_ 0 r_ r_ r_ r_ (ah_ r_ w_ b_ (br_ r_ (fun hlen => ah_ r_ w_ b_ (bx_ r_ r_ (o_ r_ (bv_ r_ w_ r_ (M_ r_ (ah_ r_ w_ b_ (bf_ r_ r_ r_ b_ (ah_ r_ w_ b_ (bg_ 1 r_ r_ r_ r_ (ah_ r_ w_ b_ (br_ r_ (fun hlen => ah_ r_ w_ b_ (bf_ r_ r_ r_ b_ (ah_ r_ w_ b_ (bg_ 0 r_ r_ r_ r_ (ah_ r_ w_ b_ (br_ r_ (fun hlen => ah_ r_ w_ b_ (bx_ r_ r_ (o_ r_ (bv_ r_ w_ r_ (M_ r_ ?_)))))))))))))))))))))))))
  refine ah_ r_ w_ b_ (bf_ r_ r_ r_ b_ (ah_ r_ w_ b_ (bg_ 1 r_ r_ r_ r_ (ah_ r_ w_ b_ (br_ r_ (fun hlen => ah_ r_ w_ b_ (bf_ r_ r_ r_ b_ (ah_ r_ w_ b_ (bg_ 0 r_ r_ r_ r_ (ah_ r_ w_ b_ (br_ r_ (fun hlen => ah_ r_ w_ b_ (bx_ r_ r_ (o_ r_ (bv_ r_ w_ r_ (T_ (ap_ r_ w_ (as_ (al_ (am_ (R_ (E_ r_ (T_ ?_)))))))))))))))))))))))
  refine au_ (jc_loopS [] (fun k : Nat => k ≤ t.inputs.length) (fun k => [(2, Ptr b2), (3, Ptr b3), (5, In .i64 (k : Int))]) (fun _ => [.blk b3 50 t.row, .blk b2 50 t.row]) (fun k => t.inputs.length - k) 0 (Nat.zero_le _) ?_ ?_ ?_)
  · exact bc_ 0 r_ (bc_ 0 r_ sub_end)
  · (repeat (first | exact True.intro | refine ⟨rfl, ?_⟩))
  intro k hk
  refine jc_reset [(2, Ptr b2), (3, Ptr b3), (5, In .i64 (k : Int))] [.blk b3 50 t.row, .blk b2 50 t.row] ?_ ⟨[0, 0], [], rfl⟩ ?_
  · (repeat (first | exact True.intro | refine ⟨rfl, ?_⟩))
  by_cases hlt : k < t.inputs.length
  · have hm := hminputs k hlt
    refine am_ (R_ (M_ r_ (F_ r_ (L_ 1 r_ (o_ r_ (br_ r_ (fun hlen => o_ r_ (bw_ r_ r_ (T_ (aq_ r_ u_ (as_ (al_ (B_ (am_ (ao_ r_ r_ k_ k_ (yF_ r_ (yL_ 1 r_ ?_)))))))))))))))))
    refine yM_ r_ (aa_ (fun c => cc_ r_ r_ g_ r_ r_ b_ p_) (aa_ (fun c => cr_ r_ r_ r_ p_) (yF_ r_ (yL_ 0 r_ (yM_ r_ (aa_ (fun c => cc_ r_ r_ g_ r_ r_ b_ p_) (aa_ (fun c => cr_ r_ r_ r_ p_) (aa_ (fun c => ow_neqSelf (vs := [.string (t.inputs[k].1), .int .i64 (t.inputs[k].2.1), .int .i64 (t.inputs[k].2.2)]) k_ (eqInput _ _) r_ r_ p_) (ae_ (al_ (ap_ r_ r_ (as_ (ay_ (al_ (an_ ?_)))))))))))))))
    refine M_ r_ (o_ r_ (bj_ r_ r_ g_ (E_ r_ (ak_ (jq_againS (k + 1) g_ g_ ?_ ?_)))))
    · exact bc_ 0 r_ (bc_ 0 r_ sub_end)
    · (repeat (first | exact True.intro | refine ⟨rfl, ?_⟩))
  · clear hk
    refine am_ (R_ (M_ r_ (F_ r_ (L_ 1 r_ (o_ r_ (br_ r_ (fun hlen => o_ r_ (bw_ r_ r_ (T_ (ap_ r_ v_ (av_ (ax_ (ax_ (ba_ (al_ (am_ (R_ ?_)))))))))))))))))
    refine E_ r_ (T_ (au_ (jc_loopS [] (fun k : Nat => k ≤ t.vars.length) (fun k => [(2, Ptr b2), (3, Ptr b3), (6, In .i64 (k : Int))]) (fun _ => [.blk b3 50 t.row, .blk b2 50 t.row]) (fun k => t.vars.length - k) 0 (Nat.zero_le _) ?_ ?_ ?_)))
    · exact bc_ 0 r_ (bc_ 0 r_ sub_end)
    · (repeat (first | exact True.intro | refine ⟨rfl, ?_⟩))
    intro k hk
    refine jc_reset [(2, Ptr b2), (3, Ptr b3), (6, In .i64 (k : Int))] [.blk b3 50 t.row, .blk b2 50 t.row] ?_ ⟨[0, 0], [], rfl⟩ ?_
    · (repeat (first | exact True.intro | refine ⟨rfl, ?_⟩))
    by_cases hlt : k < t.vars.length
    · have hm := hmvars k hlt
      have he : ¬ ¬ t.vars[k] = t.vars[k] := fun h => h rfl
      refine am_ (R_ (M_ r_ (F_ r_ (L_ 1 r_ (o_ r_ (br_ r_ (fun hlen => o_ r_ (bw_ r_ r_ (T_ (aq_ r_ u_ (as_ (al_ (B_ (am_ (ao_ r_ r_ k_ k_ (yF_ r_ (yL_ 1 r_ ?_)))))))))))))))))
      refine yM_ r_ (aa_ (fun c => cc_ r_ r_ g_ r_ r_ b_ p_) (aa_ (fun c => cb_ r_ r_ p_) (yF_ r_ (yL_ 0 r_ (yM_ r_ (aa_ (fun c => cc_ r_ r_ g_ r_ r_ b_ p_) (aa_ (fun c => cb_ r_ r_ p_) (aa_ (fun c => ct_ r_ r_ p_) (ae_ (al_ (ap_ r_ w_ (as_ (ay_ (al_ (an_ ?_)))))))))))))))
      refine M_ r_ (o_ r_ (bj_ r_ r_ g_ (E_ r_ (ak_ (jq_againS (k + 1) g_ g_ ?_ ?_)))))
      · exact bc_ 0 r_ (bc_ 0 r_ sub_end)
      · (repeat (first | exact True.intro | refine ⟨rfl, ?_⟩))
    · clear hk
      refine am_ (R_ (M_ r_ (F_ r_ (L_ 1 r_ (o_ r_ (br_ r_ (fun hlen => o_ r_ (bw_ r_ r_ (T_ (ap_ r_ v_ (av_ (ax_ (ax_ (ba_ (al_ (am_ (R_ ?_)))))))))))))))))
      refine E_ r_ (T_ (au_ (jc_loopS [] (fun k : Nat => k ≤ t.arrays.length) (fun k => [(2, Ptr b2), (3, Ptr b3), (7, In .i64 (k : Int))]) (fun _ => [.blk b3 50 t.row, .blk b2 50 t.row]) (fun k => t.arrays.length - k) 0 (Nat.zero_le _) ?_ ?_ ?_)))
      · exact bc_ 0 r_ (bc_ 0 r_ sub_end)
      · (repeat (first | exact True.intro | refine ⟨rfl, ?_⟩))
      intro k hk
      refine jc_reset [(2, Ptr b2), (3, Ptr b3), (7, In .i64 (k : Int))] [.blk b3 50 t.row, .blk b2 50 t.row] ?_ ⟨[0, 0], [], rfl⟩ ?_
      · (repeat (first | exact True.intro | refine ⟨rfl, ?_⟩))
      by_cases hlt : k < t.arrays.length
      · have hm := hmarrays k hlt
        refine am_ (R_ (M_ r_ (F_ r_ (L_ 1 r_ (o_ r_ (br_ r_ (fun hlen => o_ r_ (bw_ r_ r_ (T_ (aq_ r_ u_ (as_ (al_ (B_ (am_ (ao_ r_ r_ k_ k_ (yF_ r_ (yL_ 1 r_ ?_)))))))))))))))))
        refine yM_ r_ (aa_ (fun c => cc_ r_ r_ g_ r_ r_ b_ p_) (aa_ (fun c => cr_ r_ r_ r_ p_) (yF_ r_ (yL_ 0 r_ (yM_ r_ (aa_ (fun c => cc_ r_ r_ g_ r_ r_ b_ p_) (aa_ (fun c => cr_ r_ r_ r_ p_) (aa_ (fun c => ow_neqSelf (vs := [.string (t.arrays[k].1), .int .i64 (t.arrays[k].2)]) k_ (eqArray _ _) r_ r_ p_) (ae_ (al_ (ap_ r_ r_ (as_ (ay_ (al_ (an_ ?_)))))))))))))))
        refine M_ r_ (o_ r_ (bj_ r_ r_ g_ (E_ r_ (ak_ (jq_againS (k + 1) g_ g_ ?_ ?_)))))
        · exact bc_ 0 r_ (bc_ 0 r_ sub_end)
        · (repeat (first | exact True.intro | refine ⟨rfl, ?_⟩))
      · clear hk
        refine am_ (R_ (M_ r_ (F_ r_ (L_ 1 r_ (o_ r_ (br_ r_ (fun hlen => o_ r_ (bw_ r_ r_ (T_ (ap_ r_ v_ (av_ (ax_ (ax_ (ba_ (al_ (am_ (R_ ?_)))))))))))))))))
        refine E_ r_ (T_ (au_ (jc_loopS [] (fun k : Nat => k ≤ t.modes.length) (fun k => [(2, Ptr b2), (3, Ptr b3), (8, In .i64 (k : Int))]) (fun _ => [.blk b3 50 t.row, .blk b2 50 t.row]) (fun k => t.modes.length - k) 0 (Nat.zero_le _) ?_ ?_ ?_)))
        · exact bc_ 0 r_ (bc_ 0 r_ sub_end)
        · (repeat (first | exact True.intro | refine ⟨rfl, ?_⟩))
        intro k hk
        refine jc_reset [(2, Ptr b2), (3, Ptr b3), (8, In .i64 (k : Int))] [.blk b3 50 t.row, .blk b2 50 t.row] ?_ ⟨[0, 0], [], rfl⟩ ?_
        · (repeat (first | exact True.intro | refine ⟨rfl, ?_⟩))
        by_cases hlt : k < t.modes.length
        · have hm := hmmodes k hlt
          refine am_ (R_ (M_ r_ (F_ r_ (L_ 1 r_ (o_ r_ (br_ r_ (fun hlen => o_ r_ (bw_ r_ r_ (T_ (aq_ r_ u_ (as_ (al_ (B_ (am_ (ao_ r_ r_ k_ k_ (yF_ r_ (yL_ 1 r_ ?_)))))))))))))))))
          refine yM_ r_ (aa_ (fun c => cc_ r_ r_ g_ r_ r_ b_ p_) (aa_ (fun c => cr_ r_ r_ r_ p_) (yF_ r_ (yL_ 0 r_ (yM_ r_ (aa_ (fun c => cc_ r_ r_ g_ r_ r_ b_ p_) (aa_ (fun c => cr_ r_ r_ r_ p_) (aa_ (fun c => ow_neqSelf (vs := [.string (t.modes[k].1), .string (t.modes[k].2.1), .int .i64 (t.modes[k].2.2.1), .int .i64 (t.modes[k].2.2.2)]) k_ (eqMode _ _) r_ r_ p_) (ae_ (al_ (ap_ r_ r_ (as_ (ay_ (al_ (an_ ?_)))))))))))))))
          refine M_ r_ (o_ r_ (bj_ r_ r_ g_ (E_ r_ (ak_ (jq_againS (k + 1) g_ g_ ?_ ?_)))))
          · exact bc_ 0 r_ (bc_ 0 r_ sub_end)
          · (repeat (first | exact True.intro | refine ⟨rfl, ?_⟩))
        · clear hk
          refine am_ (R_ (M_ r_ (F_ r_ (L_ 1 r_ (o_ r_ (br_ r_ (fun hlen => o_ r_ (bw_ r_ r_ (T_ (ap_ r_ v_ (av_ (ax_ (ax_ (ba_ (al_ (am_ (R_ ?_)))))))))))))))))
          refine E_ r_ (T_ (au_ (jc_loopS [] (fun k : Nat => k ≤ t.claims.length) (fun k => [(2, Ptr b2), (3, Ptr b3), (9, In .i64 (k : Int))]) (fun _ => [.blk b3 50 t.row, .blk b2 50 t.row]) (fun k => t.claims.length - k) 0 (Nat.zero_le _) ?_ ?_ ?_)))
          · exact bc_ 0 r_ (bc_ 0 r_ sub_end)
          · (repeat (first | exact True.intro | refine ⟨rfl, ?_⟩))
          intro k hk
          refine jc_reset [(2, Ptr b2), (3, Ptr b3), (9, In .i64 (k : Int))] [.blk b3 50 t.row, .blk b2 50 t.row] ?_ ⟨[0, 0], [], rfl⟩ ?_
          · (repeat (first | exact True.intro | refine ⟨rfl, ?_⟩))
          by_cases hlt : k < t.claims.length
          · have hm := hmclaims k hlt
            refine am_ (R_ (M_ r_ (F_ r_ (L_ 1 r_ (o_ r_ (br_ r_ (fun hlen => o_ r_ (bw_ r_ r_ (T_ (aq_ r_ u_ (as_ (al_ (B_ (am_ (ao_ r_ r_ k_ k_ (yF_ r_ (yL_ 1 r_ ?_)))))))))))))))))
            refine yM_ r_ (aa_ (fun c => cc_ r_ r_ g_ r_ r_ b_ p_) (aa_ (fun c => cr_ r_ r_ r_ p_) (yF_ r_ (yL_ 0 r_ (yM_ r_ (aa_ (fun c => cc_ r_ r_ g_ r_ r_ b_ p_) (aa_ (fun c => cr_ r_ r_ r_ p_) (aa_ (fun c => ow_neqSelf (vs := [.int .i64 (t.claims[k].1), .int .i64 (t.claims[k].2)]) k_ (eqClaim _ _) r_ r_ p_) (ae_ (al_ (ap_ r_ r_ (as_ (ay_ (al_ (an_ ?_)))))))))))))))
            refine M_ r_ (o_ r_ (bj_ r_ r_ g_ (E_ r_ (ak_ (jq_againS (k + 1) g_ g_ ?_ ?_)))))
            · exact bc_ 0 r_ (bc_ 0 r_ sub_end)
            · (repeat (first | exact True.intro | refine ⟨rfl, ?_⟩))
          · clear hk
            refine am_ (R_ (M_ r_ (F_ r_ (L_ 1 r_ (o_ r_ (br_ r_ (fun hlen => o_ r_ (bw_ r_ r_ (T_ (ap_ r_ v_ (av_ (ax_ (ax_ (ba_ (al_ (R_ (F_ r_ ?_)))))))))))))))))
            refine L_ 1 r_ (F_ r_ (L_ 0 r_ (o_ r_ (bm_ r_ (cS) (E_ r_ (T_ (ar_ (jq_ret1 rfl rfl [] rfl (fun K h => h)))))))))
theorem SamePg_c (p : Pg) : Con Tryd.prog 43 [.row p.row, .row p.row] [] (fun K => K (Bl true) []) := by
  have eLres : (p.res.map Wrow).length = p.res.length := List.length_map _
  have hmres : ∀ k, k < p.res.length → (k : Int) < (p.res.map Wrow).length := fun k h => by omega
  have hnres : ¬ ¬ ((p.res.map Wrow).length : Int) = ((p.res.map Wrow).length : Int) := fun h => h rfl
  have eLshared : (p.shared.map ShRow).length = p.shared.length := List.length_map _
  have hmshared : ∀ k, k < p.shared.length → (k : Int) < (p.shared.map ShRow).length := fun k h => by omega
  have hnshared : ¬ ¬ ((p.shared.map ShRow).length : Int) = ((p.shared.map ShRow).length : Int) := fun h => h rfl
  have eLtasks : (p.tasks.map Tk.row).length = p.tasks.length := List.length_map _
  have hmtasks : ∀ k, k < p.tasks.length → (k : Int) < (p.tasks.map Tk.row).length := fun k h => by omega
  have hntasks : ¬ ¬ ((p.tasks.map Tk.row).length : Int) = ((p.tasks.map Tk.row).length : Int) := fun h => h rfl
  refine con_intro Tryd.func43 rfl rfl (Nat.le_of_ble_eq_true rfl) (fun c hc => R_ (o_ r_ (ci_ r_ (fun bx => o_ r_ (ci_ r_ (fun bx => E_ r_ (T_ (am_ (am_ ?_)))))))))
  rename_i b2
  revert bx
  intro b3
  refine an_ (F_ r_ (L_ 1 r_ (o_ r_ (br_ r_ (fun hlen => F_ r_ (L_ 0 r_ (o_ r_ (br_ r_ (fun hlen => o_ r_ (bx_ r_ r_ (M_ r_ (ah_ r_ w_ b_ (bf_ r_ r_ r_ b_ (ah_ r_ w_ b_ (bg_ 1 r_ r_ r_ r_ (ah_ r_ w_ b_ (br_ r_ (fun hlen => ah_ r_ w_ b_ (bf_ r_ r_ r_ b_ (ah_ r_ w_ b_ (bg_ 0 r_ r_ r_ r_ (ah_ r_ w_ b_ (br_ r_ (fun hlen => ah_ r_ w_ b_ (bx_ r_ r_ ?_)))))))))))))))))))))))))
  refine o_ r_ (bv_ r_ w_ r_ (M_ r_ (ah_ r_ w_ b_ (bf_ r_ r_ r_ b_ (ah_ r_ w_ b_ (bg_ 1 r_ r_ r_ r_ (ah_ r_ w_ b_ (br_ r_ (fun hlen => ah_ r_ w_ b_ (bf_ r_ r_ r_ b_ (ah_ r_ w_ b_ (bg_ 0 r_ r_ r_ r_ (ah_ r_ w_ b_ (br_ r_ (fun hlen => ah_ r_ w_ b_ (bx_ r_ r_ (o_ r_ (bv_ r_ w_ r_ (T_ (ap_ r_ w_ (as_ (al_ (am_ (R_ ?_))))))))))))))))))))))))
  refine E_ r_ (T_ (au_ (jc_loopS [] (fun k : Nat => k ≤ p.res.length) (fun k => [(2, Ptr b2), (3, Ptr b3), (5, In .i64 (k : Int))]) (fun _ => [.blk b3 40 p.row, .blk b2 40 p.row]) (fun k => p.res.length - k) 0 (Nat.zero_le _) ?_ ?_ ?_)))
  · exact bc_ 0 r_ (bc_ 0 r_ sub_end)
  · (repeat (first | exact True.intro | refine ⟨rfl, ?_⟩))
  intro k hk
  refine jc_reset [(2, Ptr b2), (3, Ptr b3), (5, In .i64 (k : Int))] [.blk b3 40 p.row, .blk b2 40 p.row] ?_ ⟨[0, 0], [], rfl⟩ ?_
  · (repeat (first | exact True.intro | refine ⟨rfl, ?_⟩))
  by_cases hlt : k < p.res.length
  · have hm := hmres k hlt
    have he : ¬ ¬ p.res[k] = p.res[k] := fun h => h rfl
    refine am_ (R_ (M_ r_ (F_ r_ (L_ 1 r_ (o_ r_ (br_ r_ (fun hlen => o_ r_ (bw_ r_ r_ (T_ (aq_ r_ u_ (as_ (al_ (B_ (am_ (ao_ r_ r_ k_ k_ (yF_ r_ (yL_ 1 r_ ?_)))))))))))))))))
    refine yM_ r_ (aa_ (fun c => cc_ r_ r_ g_ r_ r_ b_ p_) (aa_ (fun c => cb_ r_ r_ p_) (yF_ r_ (yL_ 0 r_ (yM_ r_ (aa_ (fun c => cc_ r_ r_ g_ r_ r_ b_ p_) (aa_ (fun c => cb_ r_ r_ p_) (aa_ (fun c => ct_ r_ r_ p_) (ae_ (al_ (ap_ r_ w_ (as_ (ay_ (al_ (an_ ?_)))))))))))))))
    refine M_ r_ (o_ r_ (bj_ r_ r_ g_ (E_ r_ (ak_ (jq_againS (k + 1) g_ g_ ?_ ?_)))))
    · exact bc_ 0 r_ (bc_ 0 r_ sub_end)
    · (repeat (first | exact True.intro | refine ⟨rfl, ?_⟩))
  · clear hk
    refine am_ (R_ (M_ r_ (F_ r_ (L_ 1 r_ (o_ r_ (br_ r_ (fun hlen => o_ r_ (bw_ r_ r_ (T_ (ap_ r_ v_ (av_ (ax_ (ax_ (ba_ (al_ (am_ (R_ ?_)))))))))))))))))
    refine E_ r_ (T_ (au_ (jc_loopS [] (fun k : Nat => k ≤ p.shared.length) (fun k => [(2, Ptr b2), (3, Ptr b3), (6, In .i64 (k : Int))]) (fun _ => [.blk b3 40 p.row, .blk b2 40 p.row]) (fun k => p.shared.length - k) 0 (Nat.zero_le _) ?_ ?_ ?_)))
    · exact bc_ 0 r_ (bc_ 0 r_ sub_end)
    · (repeat (first | exact True.intro | refine ⟨rfl, ?_⟩))
    intro k hk
    refine jc_reset [(2, Ptr b2), (3, Ptr b3), (6, In .i64 (k : Int))] [.blk b3 40 p.row, .blk b2 40 p.row] ?_ ⟨[0, 0], [], rfl⟩ ?_
    · (repeat (first | exact True.intro | refine ⟨rfl, ?_⟩))
    by_cases hlt : k < p.shared.length
    · have hm := hmshared k hlt
      refine am_ (R_ (M_ r_ (F_ r_ (L_ 1 r_ (o_ r_ (br_ r_ (fun hlen => o_ r_ (bw_ r_ r_ (T_ (aq_ r_ u_ (as_ (al_ (B_ (am_ (ao_ r_ r_ k_ k_ (yF_ r_ (yL_ 1 r_ ?_)))))))))))))))))
      refine yM_ r_ (aa_ (fun c => cc_ r_ r_ g_ r_ r_ b_ p_) (aa_ (fun c => cr_ r_ r_ r_ p_) (yF_ r_ (yL_ 0 r_ (yM_ r_ (aa_ (fun c => cc_ r_ r_ g_ r_ r_ b_ p_) (aa_ (fun c => cr_ r_ r_ r_ p_) (aa_ (fun c => ow_neqSelf (vs := [.string (p.shared[k].1), .int .i64 (p.shared[k].2.1), .string (p.shared[k].2.2)]) k_ (eqShared _) r_ r_ p_) (ae_ (al_ (ap_ r_ r_ (as_ (ay_ (al_ (an_ ?_)))))))))))))))
      refine M_ r_ (o_ r_ (bj_ r_ r_ g_ (E_ r_ (ak_ (jq_againS (k + 1) g_ g_ ?_ ?_)))))
      · exact bc_ 0 r_ (bc_ 0 r_ sub_end)
      · (repeat (first | exact True.intro | refine ⟨rfl, ?_⟩))
    · clear hk
      refine am_ (R_ (M_ r_ (F_ r_ (L_ 1 r_ (o_ r_ (br_ r_ (fun hlen => o_ r_ (bw_ r_ r_ (T_ (ap_ r_ v_ (av_ (ax_ (ax_ (ba_ (al_ (am_ (R_ ?_)))))))))))))))))
      refine E_ r_ (T_ (au_ (jc_loopS [] (fun k : Nat => k ≤ p.tasks.length) (fun k => [(2, Ptr b2), (3, Ptr b3), (7, In .i64 (k : Int))]) (fun _ => [.blk b3 40 p.row, .blk b2 40 p.row]) (fun k => p.tasks.length - k) 0 (Nat.zero_le _) ?_ ?_ ?_)))
      · exact bc_ 0 r_ (bc_ 0 r_ sub_end)
      · (repeat (first | exact True.intro | refine ⟨rfl, ?_⟩))
      intro k hk
      refine jc_reset [(2, Ptr b2), (3, Ptr b3), (7, In .i64 (k : Int))] [.blk b3 40 p.row, .blk b2 40 p.row] ?_ ⟨[0, 0], [], rfl⟩ ?_
      · (repeat (first | exact True.intro | refine ⟨rfl, ?_⟩))
      by_cases hlt : k < p.tasks.length
      · have hm := hmtasks k hlt
        have con := SameTk_c p.tasks[k]
        refine am_ (R_ (M_ r_ (F_ r_ (L_ 1 r_ (o_ r_ (br_ r_ (fun hlen => o_ r_ (bw_ r_ r_ (T_ (aq_ r_ u_ (as_ (al_ (B_ (am_ (ao_ r_ r_ k_ k_ (yF_ r_ (yL_ 1 r_ ?_)))))))))))))))))
        refine yM_ r_ (aa_ (fun c => cc_ r_ r_ g_ r_ r_ b_ p_) (aa_ (fun c => cr_ r_ r_ r_ p_) (yF_ r_ (yL_ 0 r_ (yM_ r_ (aa_ (fun c => cc_ r_ r_ g_ r_ r_ b_ p_) (aa_ (fun c => cr_ r_ r_ r_ p_) (aa_ (fun c => bm_ r_ (con) p_) (aa_ (fun c => cd_ r_ p_) (ae_ (al_ (ap_ r_ r_ (as_ (ay_ (al_ ?_)))))))))))))))
        refine an_ (M_ r_ (o_ r_ (bj_ r_ r_ g_ (E_ r_ (ak_ (jq_againS (k + 1) g_ g_ ?_ ?_))))))
        · exact bc_ 0 r_ (bc_ 0 r_ sub_end)
        · (repeat (first | exact True.intro | refine ⟨rfl, ?_⟩))
      · clear hk
        refine am_ (R_ (M_ r_ (F_ r_ (L_ 1 r_ (o_ r_ (br_ r_ (fun hlen => o_ r_ (bw_ r_ r_ (T_ (ap_ r_ v_ (av_ (ax_ (ax_ (ba_ (al_ (R_ (E_ r_ ?_)))))))))))))))))
        refine T_ (ar_ (jq_ret1 rfl rfl [] rfl (fun K h => h)))
end Go.Proofs.YtamajcgdfjeehaaDoor
end

section
namespace Go.Proofs.YtamajcgdfjeehaaDoor
open Go.Vc
set_option maxHeartbeats 4000000

/-! The sanity check -/
theorem scanGo_tok {s : ByteArray} {k : Nat} {line : Int} {out : List Tok} {t : Int × Int × ByteArray} {n : Nat} (hk : k < s.size) (h1 : ¬ byteAt s k = 10) (h2 : ¬ (byteAt s k = 32 ∨ byteAt s k = 9)) (hn : nextT (s.extract k s.size) = (t, n)) (h0 : ¬ n = 0) :
    scanGo s k line out = scanGo s (k + n) line (out ++ [⟨t.1, t.2.1, line, t.2.2⟩]) := by
  rw [scanGo, dif_pos hk, if_neg h1, if_neg h2, hn]; exact dif_neg h0
theorem scanGo_sp {s : ByteArray} {k : Nat} {line : Int} {out : List Tok} (hk : k < s.size) (h1 : ¬ byteAt s k = 10) (h2 : byteAt s k = 32 ∨ byteAt s k = 9) : scanGo s k line out = scanGo s (k + 1) line out := by
  rw [scanGo, dif_pos hk, if_neg h1, if_pos h2]
theorem scanGo_end {s : ByteArray} {k : Nat} {line : Int} {out : List Tok} (hk : ¬ k < s.size) : scanGo s k line out = (out, 0, 0) := by rw [scanGo, dif_neg hk]
def exT : ByteArray := ⟨#[97, 32, 45, 32, 98, 32, 45, 32, 99]⟩
def exL : List Tok := [⟨1, 0, 1, ⟨#[97]⟩⟩, ⟨3, 0, 1, ⟨#[45]⟩⟩, ⟨1, 0, 1, ⟨#[98]⟩⟩, ⟨3, 0, 1, ⟨#[45]⟩⟩, ⟨1, 0, 1, ⟨#[99]⟩⟩]
theorem ex1 : nextT (exT.extract 0 exT.size) = ((1, 0, ⟨#[97]⟩), 1) := by decide +kernel
theorem ex2 : nextT (exT.extract 2 exT.size) = ((3, 0, ⟨#[45]⟩), 1) := by decide +kernel
theorem ex3 : nextT (exT.extract 4 exT.size) = ((1, 0, ⟨#[98]⟩), 1) := by decide +kernel
theorem ex4 : nextT (exT.extract 6 exT.size) = ((3, 0, ⟨#[45]⟩), 1) := by decide +kernel
theorem ex5 : nextT (exT.extract 8 exT.size) = ((1, 0, ⟨#[99]⟩), 1) := by decide +kernel
theorem ex_scan : scan exT = (exL, 0, 0) := by
  unfold scan
  rw [if_neg (by decide +kernel), scanGo_tok (by decide) (by decide) (by decide) ex1 (by decide), scanGo_sp (by decide) (by decide) (by decide), scanGo_tok (by decide) (by decide) (by decide) ex2 (by decide), scanGo_sp (by decide) (by decide) (by decide), scanGo_tok (by decide) (by decide) (by decide) ex3 (by decide), scanGo_sp (by decide) (by decide) (by decide), scanGo_tok (by decide) (by decide) (by decide) ex4 (by decide), scanGo_sp (by decide) (by decide) (by decide), scanGo_tok (by decide) (by decide) (by decide) ex5 (by decide), scanGo_end (by decide)]
  rfl
theorem ex_expr : exprL exL = (some (.bn 2 (.bn 2 (.nm ⟨#[97]⟩) (.nm ⟨#[98]⟩)) (.nm ⟨#[99]⟩)), 5, 0) := by kernel_rfl
attribute [local irreducible] JL JC JQ OpWp Con ConN Pan ConE OpPan HP HT HOk hasW idxW isA isNum isNm numAt txtAt lineAt opAt lx lpx sx sxp scan exprL
theorem awake_c : Con Tryd.prog 9 [] [] (fun K => K (Bl true) []) := by
  have hS := rScan_c exT
  rw [ex_scan] at hS
  have hE := Expr_c exL (by decide)
  rw [ex_expr] at hE
  refine con_intro Tryd.func9 rfl rfl (Nat.le_of_ble_eq_true rfl) (fun c hc => R_ (E_ r_ (T_ (R_ (o_ r_ (bm_ r_ (hS) (M_ r_ (X_ r_ (X_ r_ (X_ r_ (E_ r_ (E_ r_ (E_ r_ (T_ (R_ (M_ r_ ?_))))))))))))))))
  refine o_ r_ (bm_ r_ (hE) (M_ r_ (X_ r_ (X_ r_ (X_ r_ (o_ r_ (bl_ r_ r_ (fun bl => S_ 0 r_ (E_ r_ (E_ r_ (T_ (R_ (M_ r_ (o_ r_ (bn_ r_ r_ (M_ r_ (ah_ r_ r_ b_ (bd_ r_ (ah_ r_ r_ b_ (bn_ r_ r_ ?_))))))))))))))))))))
  refine o_ r_ (bp_ r_ x_ r_ (M_ r_ (ah_ r_ r_ b_ (bd_ r_ (ah_ r_ r_ b_ (bn_ r_ r_ (o_ r_ (bp_ r_ x_ r_ (M_ r_ (ah_ r_ r_ b_ (bf_ r_ r_ r_ b_ (ah_ r_ r_ b_ (bg_ 0 r_ r_ r_ r_ (ah_ r_ r_ b_ (bn_ r_ r_ (o_ r_ (bp_ r_ x_ r_ (M_ r_ (ah_ r_ r_ b_ (bf_ r_ r_ r_ b_ (ah_ r_ r_ b_ (bg_ 0 r_ r_ r_ r_ (ah_ r_ r_ b_ (br_ r_ (fun hlen => ah_ r_ r_ b_ (bn_ r_ r_ (o_ r_ (bp_ r_ x_ r_ ?_))))))))))))))))))))))))))))
  refine M_ r_ (ah_ r_ r_ b_ (bf_ r_ r_ r_ b_ (ah_ r_ r_ b_ (bg_ 0 r_ r_ r_ r_ (ah_ r_ r_ b_ (ow_indexAddr r_ r_ g_ r_ r_ b_ (ah_ r_ r_ b_ (cf_ r_ r_ r_ b_ r_ b_ (ah_ r_ r_ b_ (cb_ r_ r_ (ah_ r_ r_ b_ (bn_ r_ r_ (o_ r_ (bp_ r_ x_ r_ (M_ r_ (ah_ r_ r_ b_ (bf_ r_ r_ r_ b_ (ah_ r_ r_ b_ (bg_ 0 r_ r_ r_ r_ (ah_ r_ r_ b_ (ow_indexAddr r_ r_ g_ r_ r_ b_ (ah_ r_ r_ b_ (cf_ r_ r_ r_ b_ r_ b_ ?_)))))))))))))))))))))))
  refine ah_ r_ r_ b_ (cb_ r_ r_ (ah_ r_ r_ b_ (cs_ r_ r_ (o_ r_ (bp_ r_ x_ r_ (E_ r_ (T_ (ar_ (jq_ret1 rfl rfl [] rfl (fun K h => by simpa using h))))))))))
theorem ParseExprs_c (l : List Int) (hl : ∀ n ∈ l, 0 ≤ n ∧ n ≤ 255) (raw : List Tok) : Con Tryd.prog 3 [.cell (.list (l.map Brow)), .cell (.list (raw.map Tok.row))] [] (fun K => K (Bl true) []) := by
  have eR : (raw.map Tok.row).length = raw.length := List.length_map _
  have h60 := signs_len l
  have hs := Expr_c (signsT l) (by omega)
  have hr := RXpr_c (signsT l) (by omega)
  refine con_intro Tryd.func3 rfl rfl (Nat.le_of_ble_eq_true rfl) (fun c hc => ?_)
  by_cases hn : raw.length > 60
  · have hn' : (raw.length : Int) > 60 := by omega
    refine R_ (E_ r_ (T_ (am_ (R_ (M_ r_ (o_ r_ (br_ r_ (fun hlen => o_ r_ (bz_ r_ r_ (T_ (aq_ r_ t_ (R_ (o_ r_ (bm_ r_ (awake_c) (E_ r_ (T_ (ar_ (aw_ ?_))))))))))))))))))
    refine jq_ret1 rfl rfl [] rfl (fun K h => h)
  · have hn' : ¬ (raw.length : Int) > 60 := by omega
    have gs := Expr_c raw (by omega)
    have gr := RXpr_c raw (by omega)
    have e1 := SameE_c (exprL (signsT l)).1
    have e2 := SameE_c (exprL raw).1
    generalize exprL (signsT l) = p at hs hr e1
    generalize exprL raw = q at gs gr e2
    obtain ⟨p1, p2, p3⟩ := p
    obtain ⟨q1, q2, q3⟩ := q
    have i1 : p3 = p3 := rfl
    have i2 : p2 = p2 := rfl
    have i3 : q3 = q3 := rfl
    have i4 : q2 = q2 := rfl
    cases p1 with
    | none =>
      cases q1 with
      | none =>
        refine R_ (E_ r_ (T_ (am_ (R_ (M_ r_ (o_ r_ (br_ r_ (fun hlen => o_ r_ (bz_ r_ r_ (T_ (ap_ r_ v_ (as_ (al_ (R_ (M_ r_ (o_ r_ (bm_ r_ (signsL_c l hl) (o_ r_ (bm_ r_ (hs) ?_)))))))))))))))))))
        refine M_ r_ (X_ r_ (X_ r_ (X_ r_ (o_ r_ (bl_ r_ r_ (fun bl => S_ 0 r_ (E_ r_ (E_ r_ (T_ (R_ (M_ r_ (o_ r_ (bm_ r_ (signsL_c l hl) (o_ r_ (bm_ r_ (hr) (M_ r_ (X_ r_ (X_ r_ ?_))))))))))))))))))
        refine X_ r_ (o_ r_ (bl_ r_ r_ (fun bl => S_ 0 r_ (E_ r_ (E_ r_ (T_ (R_ (M_ r_ (o_ r_ (bm_ r_ (gs) (M_ r_ (X_ r_ (X_ r_ (X_ r_ (o_ r_ (bl_ r_ r_ (fun bl => S_ 0 r_ (E_ r_ ?_))))))))))))))))))
        refine E_ r_ (T_ (R_ (M_ r_ (o_ r_ (bm_ r_ (gr) (M_ r_ (X_ r_ (X_ r_ (X_ r_ (o_ r_ (bl_ r_ r_ (fun bl => S_ 0 r_ (E_ r_ (E_ r_ (T_ (R_ (M_ r_ ?_)))))))))))))))))
        refine M_ r_ (o_ r_ (bn_ r_ r_ (M_ r_ (ah_ r_ x_ b_ (bd_ r_ (ah_ r_ x_ b_ (bd_ r_ (ah_ r_ x_ b_ (bn_ r_ r_ (o_ r_ (bp_ r_ x_ r_ (M_ r_ (ah_ r_ x_ b_ (bd_ r_ (ah_ r_ x_ b_ (bd_ r_ (ah_ r_ x_ b_ (bn_ r_ r_ (o_ r_ (bp_ r_ x_ r_ (M_ r_ (ah_ r_ x_ b_ (bd_ r_ (ah_ r_ x_ b_ (bd_ r_ (ah_ r_ x_ b_ (bn_ r_ r_ ?_)))))))))))))))))))))))))))
        refine o_ r_ (bp_ r_ x_ r_ (M_ r_ (ah_ r_ x_ b_ (bs_ 3 r_ r_ r_ r_ (ah_ r_ x_ b_ (bs_ 2 r_ r_ r_ r_ (ah_ r_ x_ b_ (bm_ r_ (e1) (o_ r_ (bp_ r_ x_ r_ (M_ r_ (ah_ r_ r_ b_ (bs_ 1 r_ r_ r_ r_ (ah_ r_ r_ b_ (bs_ 0 r_ r_ r_ r_ (ah_ r_ r_ b_ (bm_ r_ (e1) (o_ r_ (bp_ r_ r_ r_ (M_ r_ (ah_ r_ r_ b_ (bm_ r_ (awake_c) (o_ r_ (bp_ r_ r_ r_ (E_ r_ (T_ ?_))))))))))))))))))))))))))
        refine ar_ (jq_ret1 rfl rfl [] rfl (fun K h => h))
      | some u =>
        refine R_ (E_ r_ (T_ (am_ (R_ (M_ r_ (o_ r_ (br_ r_ (fun hlen => o_ r_ (bz_ r_ r_ (T_ (ap_ r_ v_ (as_ (al_ (R_ (M_ r_ (o_ r_ (bm_ r_ (signsL_c l hl) (o_ r_ (bm_ r_ (hs) ?_)))))))))))))))))))
        refine M_ r_ (X_ r_ (X_ r_ (X_ r_ (o_ r_ (bl_ r_ r_ (fun bl => S_ 0 r_ (E_ r_ (E_ r_ (T_ (R_ (M_ r_ (o_ r_ (bm_ r_ (signsL_c l hl) (o_ r_ (bm_ r_ (hr) (M_ r_ (X_ r_ (X_ r_ ?_))))))))))))))))))
        refine X_ r_ (o_ r_ (bl_ r_ r_ (fun bl => S_ 0 r_ (E_ r_ (E_ r_ (T_ (R_ (M_ r_ (o_ r_ (bm_ r_ (gs) (M_ r_ (X_ r_ (X_ r_ (X_ r_ (o_ r_ (bl_ r_ r_ (fun bl => S_ 0 r_ (E_ r_ ?_))))))))))))))))))
        refine E_ r_ (T_ (R_ (M_ r_ (o_ r_ (bm_ r_ (gr) (M_ r_ (X_ r_ (X_ r_ (X_ r_ (o_ r_ (bl_ r_ r_ (fun bl => S_ 0 r_ (E_ r_ (E_ r_ (T_ (R_ (M_ r_ ?_)))))))))))))))))
        refine M_ r_ (o_ r_ (bn_ r_ r_ (M_ r_ (ah_ r_ x_ b_ (bd_ r_ (ah_ r_ x_ b_ (bd_ r_ (ah_ r_ x_ b_ (bn_ r_ r_ (o_ r_ (bp_ r_ x_ r_ (M_ r_ (ah_ r_ x_ b_ (bd_ r_ (ah_ r_ x_ b_ (bd_ r_ (ah_ r_ x_ b_ (bn_ r_ r_ (o_ r_ (bp_ r_ x_ r_ (M_ r_ (ah_ r_ x_ b_ (bd_ r_ (ah_ r_ x_ b_ (bd_ r_ (ah_ r_ x_ b_ (bn_ r_ r_ ?_)))))))))))))))))))))))))))
        refine o_ r_ (bp_ r_ x_ r_ (M_ r_ (ah_ r_ x_ b_ (bs_ 3 r_ r_ r_ r_ (ah_ r_ x_ b_ (bs_ 2 r_ r_ r_ r_ (ah_ r_ x_ b_ (bm_ r_ (e1) (o_ r_ (bp_ r_ x_ r_ (M_ r_ (ah_ r_ r_ b_ (bs_ 1 r_ r_ r_ r_ (ah_ r_ r_ b_ (bs_ 0 r_ r_ r_ r_ (ah_ r_ r_ b_ (bm_ r_ (e2) (o_ r_ (bp_ r_ r_ r_ (M_ r_ (ah_ r_ r_ b_ (bm_ r_ (awake_c) (o_ r_ (bp_ r_ r_ r_ (E_ r_ (T_ ?_))))))))))))))))))))))))))
        refine ar_ (jq_ret1 rfl rfl [] rfl (fun K h => h))
    | some t =>
      cases q1 with
      | none =>
        refine R_ (E_ r_ (T_ (am_ (R_ (M_ r_ (o_ r_ (br_ r_ (fun hlen => o_ r_ (bz_ r_ r_ (T_ (ap_ r_ v_ (as_ (al_ (R_ (M_ r_ (o_ r_ (bm_ r_ (signsL_c l hl) (o_ r_ (bm_ r_ (hs) ?_)))))))))))))))))))
        refine M_ r_ (X_ r_ (X_ r_ (X_ r_ (o_ r_ (bl_ r_ r_ (fun bl => S_ 0 r_ (E_ r_ (E_ r_ (T_ (R_ (M_ r_ (o_ r_ (bm_ r_ (signsL_c l hl) (o_ r_ (bm_ r_ (hr) (M_ r_ (X_ r_ (X_ r_ ?_))))))))))))))))))
        refine X_ r_ (o_ r_ (bl_ r_ r_ (fun bl => S_ 0 r_ (E_ r_ (E_ r_ (T_ (R_ (M_ r_ (o_ r_ (bm_ r_ (gs) (M_ r_ (X_ r_ (X_ r_ (X_ r_ (o_ r_ (bl_ r_ r_ (fun bl => S_ 0 r_ (E_ r_ ?_))))))))))))))))))
        refine E_ r_ (T_ (R_ (M_ r_ (o_ r_ (bm_ r_ (gr) (M_ r_ (X_ r_ (X_ r_ (X_ r_ (o_ r_ (bl_ r_ r_ (fun bl => S_ 0 r_ (E_ r_ (E_ r_ (T_ (R_ (M_ r_ ?_)))))))))))))))))
        refine M_ r_ (o_ r_ (bn_ r_ r_ (M_ r_ (ah_ r_ x_ b_ (bd_ r_ (ah_ r_ x_ b_ (bd_ r_ (ah_ r_ x_ b_ (bn_ r_ r_ (o_ r_ (bp_ r_ x_ r_ (M_ r_ (ah_ r_ x_ b_ (bd_ r_ (ah_ r_ x_ b_ (bd_ r_ (ah_ r_ x_ b_ (bn_ r_ r_ (o_ r_ (bp_ r_ x_ r_ (M_ r_ (ah_ r_ x_ b_ (bd_ r_ (ah_ r_ x_ b_ (bd_ r_ (ah_ r_ x_ b_ (bn_ r_ r_ ?_)))))))))))))))))))))))))))
        refine o_ r_ (bp_ r_ x_ r_ (M_ r_ (ah_ r_ x_ b_ (bs_ 3 r_ r_ r_ r_ (ah_ r_ x_ b_ (bs_ 2 r_ r_ r_ r_ (ah_ r_ x_ b_ (bm_ r_ (e1) (o_ r_ (bp_ r_ x_ r_ (M_ r_ (ah_ r_ r_ b_ (bs_ 1 r_ r_ r_ r_ (ah_ r_ r_ b_ (bs_ 0 r_ r_ r_ r_ (ah_ r_ r_ b_ (bm_ r_ (e2) (o_ r_ (bp_ r_ r_ r_ (M_ r_ (ah_ r_ r_ b_ (bm_ r_ (awake_c) (o_ r_ (bp_ r_ r_ r_ (E_ r_ (T_ ?_))))))))))))))))))))))))))
        refine ar_ (jq_ret1 rfl rfl [] rfl (fun K h => h))
      | some u =>
        refine R_ (E_ r_ (T_ (am_ (R_ (M_ r_ (o_ r_ (br_ r_ (fun hlen => o_ r_ (bz_ r_ r_ (T_ (ap_ r_ v_ (as_ (al_ (R_ (M_ r_ (o_ r_ (bm_ r_ (signsL_c l hl) (o_ r_ (bm_ r_ (hs) ?_)))))))))))))))))))
        refine M_ r_ (X_ r_ (X_ r_ (X_ r_ (o_ r_ (bl_ r_ r_ (fun bl => S_ 0 r_ (E_ r_ (E_ r_ (T_ (R_ (M_ r_ (o_ r_ (bm_ r_ (signsL_c l hl) (o_ r_ (bm_ r_ (hr) (M_ r_ (X_ r_ (X_ r_ ?_))))))))))))))))))
        refine X_ r_ (o_ r_ (bl_ r_ r_ (fun bl => S_ 0 r_ (E_ r_ (E_ r_ (T_ (R_ (M_ r_ (o_ r_ (bm_ r_ (gs) (M_ r_ (X_ r_ (X_ r_ (X_ r_ (o_ r_ (bl_ r_ r_ (fun bl => S_ 0 r_ (E_ r_ ?_))))))))))))))))))
        refine E_ r_ (T_ (R_ (M_ r_ (o_ r_ (bm_ r_ (gr) (M_ r_ (X_ r_ (X_ r_ (X_ r_ (o_ r_ (bl_ r_ r_ (fun bl => S_ 0 r_ (E_ r_ (E_ r_ (T_ (R_ (M_ r_ ?_)))))))))))))))))
        refine M_ r_ (o_ r_ (bn_ r_ r_ (M_ r_ (ah_ r_ x_ b_ (bd_ r_ (ah_ r_ x_ b_ (bd_ r_ (ah_ r_ x_ b_ (bn_ r_ r_ (o_ r_ (bp_ r_ x_ r_ (M_ r_ (ah_ r_ x_ b_ (bd_ r_ (ah_ r_ x_ b_ (bd_ r_ (ah_ r_ x_ b_ (bn_ r_ r_ (o_ r_ (bp_ r_ x_ r_ (M_ r_ (ah_ r_ x_ b_ (bd_ r_ (ah_ r_ x_ b_ (bd_ r_ (ah_ r_ x_ b_ (bn_ r_ r_ ?_)))))))))))))))))))))))))))
        refine o_ r_ (bp_ r_ x_ r_ (M_ r_ (ah_ r_ x_ b_ (bs_ 3 r_ r_ r_ r_ (ah_ r_ x_ b_ (bs_ 2 r_ r_ r_ r_ (ah_ r_ x_ b_ (bm_ r_ (e1) (o_ r_ (bp_ r_ x_ r_ (M_ r_ (ah_ r_ r_ b_ (bs_ 1 r_ r_ r_ r_ (ah_ r_ r_ b_ (bs_ 0 r_ r_ r_ r_ (ah_ r_ r_ b_ (bm_ r_ (e2) (o_ r_ (bp_ r_ r_ r_ (M_ r_ (ah_ r_ r_ b_ (bm_ r_ (awake_c) (o_ r_ (bp_ r_ r_ r_ (E_ r_ (T_ ?_))))))))))))))))))))))))))
        refine ar_ (jq_ret1 rfl rfl [] rfl (fun K h => h))
end Go.Proofs.YtamajcgdfjeehaaDoor
end

section
namespace Go.Proofs.YtamajcgdfjeehaaDoor
open Go.Vc
set_option maxHeartbeats 4000000

/-! What any text means -/
theorem SamePgO_c (o : Option Pg) : Con Tryd.prog 43 [.row (PRow o), .row (PRow o)] [] (fun K => K (Bl true) []) := by
  cases o with
  | some p => exact SamePg_c p
  | none =>
    have hz : ∀ w A v, SOk w A (.row Zp) v → SOk w A (.row (Pg.mk [] [] []).row) v := by
      refine SLe.row ?_
      (repeat (first | exact RowLe.nil | refine RowLe.cons (CLe.refl _) ?_ | refine RowLe.cons CLe.nil ?_))
    refine con_le (fun w A vs h => ?_) (SamePg_c ⟨[], [], []⟩)
    obtain ⟨v, r, rfl, h1, v2, r2, rfl, h2, h3⟩ := h
    exact ⟨v, _, rfl, hz _ _ _ h1, v2, _, rfl, hz _ _ _ h2, h3⟩
attribute [local irreducible] JL JC JQ OpWp Con ConN Pan ConE OpPan HP HT HOk HQ scan parseF
theorem agreeP_c (s : ByteArray) : Con Tryd.prog 24 [Str s] [] (fun K => K (Bl true) []) := by
  have hP := Program_c s
  have hR := rProgram_c s
  have hS := SamePgO_c (parseF s).1
  generalize parseF s = p at hP hR hS
  obtain ⟨p1, p2, p3⟩ := p
  have i1 : p3 = p3 := rfl
  have i2 : p2 = p2 := rfl
  refine con_intro Tryd.func24 rfl rfl (Nat.le_of_ble_eq_true rfl) (fun c hc => ?_)
  cases p1 with
  | none =>
    refine R_ (E_ r_ (T_ (R_ (M_ r_ (o_ r_ (bm_ r_ (hP) (M_ r_ (X_ r_ (X_ r_ (X_ r_ (o_ r_ (bl_ r_ r_ (fun bl => S_ 0 r_ (E_ r_ (E_ r_ (T_ (R_ ?_)))))))))))))))))
    refine M_ r_ (o_ r_ (bm_ r_ (hR) (M_ r_ (X_ r_ (X_ r_ (X_ r_ (o_ r_ (bl_ r_ r_ (fun bl => S_ 0 r_ (E_ r_ (E_ r_ (T_ (R_ (M_ r_ (M_ r_ (o_ r_ (bn_ r_ r_ (M_ r_ ?_))))))))))))))))))
    refine ah_ r_ x_ b_ (bd_ r_ (ah_ r_ x_ b_ (bd_ r_ (ah_ r_ x_ b_ (bn_ r_ r_ (o_ r_ (bp_ r_ x_ r_ (M_ r_ (ah_ r_ x_ b_ (bs_ 1 r_ r_ r_ r_ (ah_ r_ x_ b_ (bs_ 0 r_ r_ r_ r_ (ah_ r_ x_ b_ (bm_ r_ (hS) (o_ r_ (bp_ r_ x_ r_ (E_ r_ (T_ (ar_ (jq_ret1 rfl rfl [] rfl (fun K h => h)))))))))))))))))))))
  | some u =>
    refine R_ (E_ r_ (T_ (R_ (M_ r_ (o_ r_ (bm_ r_ (hP) (M_ r_ (X_ r_ (X_ r_ (X_ r_ (o_ r_ (bl_ r_ r_ (fun bl => S_ 0 r_ (E_ r_ (E_ r_ (T_ (R_ ?_)))))))))))))))))
    refine M_ r_ (o_ r_ (bm_ r_ (hR) (M_ r_ (X_ r_ (X_ r_ (X_ r_ (o_ r_ (bl_ r_ r_ (fun bl => S_ 0 r_ (E_ r_ (E_ r_ (T_ (R_ (M_ r_ (M_ r_ (o_ r_ (bn_ r_ r_ (M_ r_ ?_))))))))))))))))))
    refine ah_ r_ x_ b_ (bd_ r_ (ah_ r_ x_ b_ (bd_ r_ (ah_ r_ x_ b_ (bn_ r_ r_ (o_ r_ (bp_ r_ x_ r_ (M_ r_ (ah_ r_ x_ b_ (bs_ 1 r_ r_ r_ r_ (ah_ r_ x_ b_ (bs_ 0 r_ r_ r_ r_ (ah_ r_ x_ b_ (bm_ r_ (hS) (o_ r_ (bp_ r_ x_ r_ (E_ r_ (T_ (ar_ (jq_ret1 rfl rfl [] rfl (fun K h => h)))))))))))))))))))))
theorem ParseRaw_c (s : ByteArray) : Con Tryd.prog 6 [Str s] [] (fun K => K (Bl true) []) := by
  have hA := agreeP_c s
  refine con_intro Tryd.func6 rfl rfl (Nat.le_of_ble_eq_true rfl) (fun c hc => ?_)
  by_cases hn : s.size > 10000
  · have hn' : (s.size : Int) > 10000 := by omega
    refine R_ (E_ r_ (T_ (R_ (M_ r_ (o_ r_ (co_ r_ r_ (o_ r_ (bz_ r_ r_ (M_ r_ (ai_ r_ u_ b_ (ai_ r_ u_ b_ (o_ r_ (bp_ r_ u_ r_ (M_ r_ (ah_ r_ r_ b_ (bm_ r_ (awake_c) (o_ r_ (bp_ r_ r_ r_ (E_ r_ (T_ ?_))))))))))))))))))))
    refine ar_ (jq_ret1 rfl rfl [] rfl (fun K h => h))
  · have hn' : ¬ (s.size : Int) > 10000 := by omega
    refine R_ (E_ r_ (T_ (R_ (M_ r_ (o_ r_ (co_ r_ r_ (o_ r_ (bz_ r_ r_ (M_ r_ (ah_ r_ w_ b_ (bd_ r_ (ah_ r_ w_ b_ (bm_ r_ (hA) (o_ r_ (bv_ r_ w_ r_ (M_ r_ (ah_ r_ r_ b_ (bm_ r_ (awake_c) (o_ r_ (bp_ r_ r_ r_ (E_ r_ (T_ ?_))))))))))))))))))))))
    refine ar_ (jq_ret1 rfl rfl [] rfl (fun K h => h))
end Go.Proofs.YtamajcgdfjeehaaDoor
end

section
namespace Go.Proofs.YtamajcgdfjeehaaDoor
open Go.Vc
set_option maxHeartbeats 4000000

/-! Texts of the language's words -/
def WD : List ByteArray := [⟨#[114, 101, 115, 111, 117, 114, 99, 101]⟩, ⟨#[115, 104, 97, 114, 101, 100]⟩, ⟨#[116, 97, 115, 107]⟩, ⟨#[112, 101, 114, 105, 111, 100]⟩, ⟨#[100, 101, 97, 100, 108, 105, 110, 101]⟩, ⟨#[112, 114, 105, 111, 114, 105, 116, 121]⟩, ⟨#[106, 105, 116, 116, 101, 114]⟩, ⟨#[105, 110, 112, 117, 116]⟩, ⟨#[118, 97, 114]⟩, ⟨#[97, 114, 114, 97, 121]⟩, ⟨#[109, 111, 100, 101]⟩, ⟨#[110, 101, 118, 101, 114]⟩, ⟨#[98, 111, 100, 121]⟩, ⟨#[101, 110, 100]⟩, ⟨#[105, 102]⟩, ⟨#[108, 97, 98, 101, 108]⟩, ⟨#[101, 108, 115, 101]⟩, ⟨#[119, 104, 105, 108, 101]⟩, ⟨#[109, 97, 120]⟩, ⟨#[108, 111, 99, 107]⟩, ⟨#[123]⟩, ⟨#[125]⟩, ⟨#[97]⟩, ⟨#[98]⟩, ⟨#[114]⟩, ⟨#[49]⟩, ⟨#[50]⟩, ⟨#[61]⟩, ⟨#[40]⟩, ⟨#[41]⟩, ⟨#[91]⟩, ⟨#[93]⟩, ⟨#[45]⟩, ⟨#[60]⟩, ⟨#[43]⟩, ⟨#[42]⟩, ⟨#[61, 61]⟩, ⟨#[10]⟩]
theorem WD_len : WD.length = 38 := rfl
theorem WD_size : ∀ s ∈ WD, s.size ≤ 8 := by decide +kernel
def WD0 : ByteArray := ⟨#[116, 97, 115, 107, 32, 116, 32, 112, 101, 114, 105, 111, 100, 32, 57, 32, 100, 101, 97, 100, 108, 105, 110, 101, 32, 57, 32, 112, 114, 105, 111, 114, 105, 116, 121, 32, 49, 32, 106, 105, 116, 116, 101, 114, 32, 48, 32, 98, 111, 100, 121, 10]⟩
attribute [local irreducible] JL JC JQ OpWp Con ConN Pan ConE OpPan HP HT HOk HQ
theorem words_c (l : List Int) (hl : ∀ n ∈ l, 0 ≤ n ∧ n ≤ 255) : Con Tryd.prog 25 [.cell (.list (l.map Brow))] [] (fun K => ∀ s : ByteArray, s.size ≤ 1000 → K (Str s) []) := by
  have eL : (l.map Brow).length = l.length := List.length_map _
  have eP : (WD.map Wrow).length = 38 := by rw [List.length_map, WD_len]
  have eP2 := WD_len
  have hsz := WD_size
  refine con_intro Tryd.func25 rfl rfl (Nat.le_of_ble_eq_true rfl) (fun c hc => R_ (E_ r_ (T_ (R_ (o_ r_ (bq_ r_ r_ b_ r_ r_ b_ (E_ r_ (T_ (am_ (jc_reset [(0, .cell (.list (l.map Brow))), (3, .cell (.list (WD.map Wrow)))] [] ?_ ⟨[], [], rfl⟩ ?_))))))))))
  · (repeat (first | exact True.intro | refine ⟨rfl, ?_⟩))
  generalize WD = Q at eP eP2 hsz ⊢
  refine an_ (E_ r_ (T_ (am_ (R_ (E_ r_ (T_ (au_ (jc_loopS (ι := Nat × ByteArray) [] (fun i => i.1 ≤ l.length ∧ i.1 ≤ 60 ∧ i.2.size ≤ 60 + 9 * i.1) (fun i => [(0, .cell (.list (l.map Brow))), (3, .cell (.list (Q.map Wrow))), (4, Str i.2), (5, In .i64 (i.1 : Int))]) (fun _ => []) (fun i => l.length - i.1) (0, WD0) ⟨Nat.zero_le _, Nat.zero_le _, by decide⟩ ?_ ?_ ?_))))))))
  · exact sub_end
  · (repeat (first | exact True.intro | refine ⟨rfl, ?_⟩))
  rintro ⟨k, s⟩ ⟨hk, hk60, hs⟩
  dsimp only at hk hk60 hs ⊢
  refine jc_reset [(0, .cell (.list (l.map Brow))), (3, .cell (.list (Q.map Wrow))), (4, Str s), (5, In .i64 (k : Int))] [] ?_ ⟨[], [], rfl⟩ ?_
  · (repeat (first | exact True.intro | refine ⟨rfl, ?_⟩))
  by_cases h1 : k < l.length
  · by_cases h2 : k < 60
    · have hb := hl l[k] (List.getElem_mem h1)
      have hm0 : 0 ≤ l[k] % ((Q.map Wrow).length : Int) := by rw [eP]; omega
      have hm1 : l[k] % ((Q.map Wrow).length : Int) < 38 := by rw [eP]; omega
      have hi : (l[k] % ((Q.map Wrow).length : Int)).toNat < Q.length := by omega
      have hs1 := hsz Q[(l[k] % ((Q.map Wrow).length : Int)).toNat] (List.getElem_mem hi)
      have hlt : (k : Int) < ((l.map Brow).length : Int) := by omega
      have h0s : (⟨#[]⟩ : ByteArray).size = 0 := rfl
      have h1s : (⟨#[32]⟩ : ByteArray).size = 1 := rfl
      have hz0 : ((⟨#[]⟩ : ByteArray) ++ Q[(l[k] % ((Q.map Wrow).length : Int)).toNat]).size = (⟨#[]⟩ : ByteArray).size + (Q[(l[k] % ((Q.map Wrow).length : Int)).toNat]).size := ByteArray.size_append
      have hz1 : (s ++ Q[(l[k] % ((Q.map Wrow).length : Int)).toNat]).size = s.size + (Q[(l[k] % ((Q.map Wrow).length : Int)).toNat]).size := ByteArray.size_append
      by_cases h3 : k = 0
      · have h3' : (k : Int) = 0 := by omega
        by_cases h4 : l[k] % 3 = 0
        · refine am_ (R_ (M_ r_ (M_ r_ (o_ r_ (br_ r_ (fun hlen => o_ r_ (bw_ r_ r_ (M_ r_ (ah_ r_ u_ b_ (bd_ r_ (ah_ r_ u_ b_ (bw_ r_ r_ (o_ r_ (bp_ r_ u_ r_ (T_ (aq_ r_ t_ (as_ (al_ (B_ (am_ ?_))))))))))))))))))))
          refine R_ (M_ r_ (o_ r_ (bn_ r_ r_ (M_ r_ (ah_ r_ u_ b_ (bd_ r_ (ah_ r_ u_ b_ (bd_ r_ (ah_ r_ u_ b_ (cc_ r_ r_ g_ r_ r_ b_ (ah_ r_ u_ b_ (cb_ r_ r_ (ah_ r_ u_ b_ (ow_remU8 r_ r_ g_ g_ (ah_ r_ u_ b_ (bn_ r_ r_ (o_ r_ (bp_ r_ u_ r_ (T_ (aq_ r_ u_ (an_ (E_ r_ (T_ ?_)))))))))))))))))))))))
          refine an_ (M_ r_ (M_ r_ (M_ r_ (M_ r_ (o_ r_ (cc_ r_ r_ g_ r_ r_ b_ (o_ r_ (cb_ r_ r_ (o_ r_ (ow_convI64 r_ r_ r_ g_ (M_ r_ (o_ r_ (br_ r_ (fun hlen => o_ r_ (ow_rem64 r_ r_ g_ g_ (o_ r_ (cv_ r_ r_ g_ g_ r_ r_ b_ (o_ r_ (cb_ r_ r_ (o_ r_ (ow_strcat r_ r_ g_ (o_ r_ (ow_strcat r_ r_ g_ (E_ r_ ?_))))))))))))))))))))))))
          refine ak_ (ay_ (al_ (an_ (M_ r_ (o_ r_ (bj_ r_ r_ g_ (E_ r_ (ak_ (jq_againS (i := (k, s)) ((k + 1, ⟨#[]⟩ ++ Q[(l[k] % ((Q.map Wrow).length : Int)).toNat] ++ ⟨#[32]⟩) : Nat × ByteArray) ⟨by dsimp only; omega, by dsimp only; omega, ?_⟩ (by dsimp only; omega) ?_ ?_)))))))))
          · dsimp only
            rw [ByteArray.size_append, ByteArray.size_append, show ByteArray.size ⟨#[32]⟩ = 1 from rfl]
            omega
          · exact sub_end
          · (repeat (first | exact True.intro | refine ⟨rfl, ?_⟩))
        · refine am_ (R_ (M_ r_ (M_ r_ (o_ r_ (br_ r_ (fun hlen => o_ r_ (bw_ r_ r_ (M_ r_ (ah_ r_ u_ b_ (bd_ r_ (ah_ r_ u_ b_ (bw_ r_ r_ (o_ r_ (bp_ r_ u_ r_ (T_ (aq_ r_ t_ (as_ (al_ (B_ (am_ ?_))))))))))))))))))))
          refine R_ (M_ r_ (o_ r_ (bn_ r_ r_ (M_ r_ (ah_ r_ u_ b_ (bd_ r_ (ah_ r_ u_ b_ (bd_ r_ (ah_ r_ u_ b_ (cc_ r_ r_ g_ r_ r_ b_ (ah_ r_ u_ b_ (cb_ r_ r_ (ah_ r_ u_ b_ (ow_remU8 r_ r_ g_ g_ (ah_ r_ u_ b_ (bn_ r_ r_ (o_ r_ (bp_ r_ u_ r_ (T_ (ap_ r_ w_ (as_ (al_ (an_ ?_)))))))))))))))))))))))
          refine M_ r_ (M_ r_ (M_ r_ (M_ r_ (o_ r_ (cc_ r_ r_ g_ r_ r_ b_ (o_ r_ (cb_ r_ r_ (o_ r_ (ow_convI64 r_ r_ r_ g_ (M_ r_ (o_ r_ (br_ r_ (fun hlen => o_ r_ (ow_rem64 r_ r_ g_ g_ (o_ r_ (cv_ r_ r_ g_ g_ r_ r_ b_ (o_ r_ (cb_ r_ r_ (o_ r_ (ow_strcat r_ r_ g_ (o_ r_ (ow_strcat r_ r_ g_ (E_ r_ (ak_ ?_))))))))))))))))))))))))
          refine ay_ (al_ (an_ (M_ r_ (o_ r_ (bj_ r_ r_ g_ (E_ r_ (ak_ (jq_againS (i := (k, s)) ((k + 1, s ++ Q[(l[k] % ((Q.map Wrow).length : Int)).toNat] ++ ⟨#[32]⟩) : Nat × ByteArray) ⟨by dsimp only; omega, by dsimp only; omega, ?_⟩ (by dsimp only; omega) ?_ ?_))))))))
          · dsimp only
            rw [ByteArray.size_append, ByteArray.size_append, show ByteArray.size ⟨#[32]⟩ = 1 from rfl]
            omega
          · exact sub_end
          · (repeat (first | exact True.intro | refine ⟨rfl, ?_⟩))
      · have h3' : ¬ (k : Int) = 0 := by omega
        refine am_ (R_ (M_ r_ (M_ r_ (o_ r_ (br_ r_ (fun hlen => o_ r_ (bw_ r_ r_ (M_ r_ (ah_ r_ u_ b_ (bd_ r_ (ah_ r_ u_ b_ (bw_ r_ r_ (o_ r_ (bp_ r_ u_ r_ (T_ (aq_ r_ t_ (as_ (al_ (B_ (am_ ?_))))))))))))))))))))
        refine R_ (M_ r_ (o_ r_ (bn_ r_ r_ (M_ r_ (ai_ r_ w_ b_ (ai_ r_ w_ b_ (ai_ r_ w_ b_ (ai_ r_ w_ b_ (ai_ r_ w_ b_ (ai_ r_ w_ b_ (o_ r_ (bv_ r_ w_ r_ (T_ (ap_ r_ r_ (as_ (al_ (an_ ?_)))))))))))))))))
        refine M_ r_ (M_ r_ (M_ r_ (M_ r_ (o_ r_ (cc_ r_ r_ g_ r_ r_ b_ (o_ r_ (cb_ r_ r_ (o_ r_ (ow_convI64 r_ r_ r_ g_ (M_ r_ (o_ r_ (br_ r_ (fun hlen => o_ r_ (ow_rem64 r_ r_ g_ g_ (o_ r_ (cv_ r_ r_ g_ g_ r_ r_ b_ (o_ r_ (cb_ r_ r_ (o_ r_ (ow_strcat r_ r_ g_ (o_ r_ (ow_strcat r_ r_ g_ (E_ r_ (ak_ ?_))))))))))))))))))))))))
        refine ay_ (al_ (an_ (M_ r_ (o_ r_ (bj_ r_ r_ g_ (E_ r_ (ak_ (jq_againS (i := (k, s)) ((k + 1, s ++ Q[(l[k] % ((Q.map Wrow).length : Int)).toNat] ++ ⟨#[32]⟩) : Nat × ByteArray) ⟨by dsimp only; omega, by dsimp only; omega, ?_⟩ (by dsimp only; omega) ?_ ?_))))))))
        · dsimp only
          rw [ByteArray.size_append, ByteArray.size_append, show ByteArray.size ⟨#[32]⟩ = 1 from rfl]
          omega
        · exact sub_end
        · (repeat (first | exact True.intro | refine ⟨rfl, ?_⟩))
    · have hlt : (k : Int) < ((l.map Brow).length : Int) := by omega
      have h2' : ¬ (k : Int) < 60 := by omega
      refine am_ (R_ (M_ r_ (M_ r_ (o_ r_ (br_ r_ (fun hlen => o_ r_ (bw_ r_ r_ (M_ r_ (ah_ r_ u_ b_ (bd_ r_ (ah_ r_ u_ b_ (bw_ r_ r_ (o_ r_ (bp_ r_ u_ r_ (T_ (ap_ r_ w_ (av_ (ax_ (ax_ (ba_ ?_))))))))))))))))))))
      refine al_ (R_ (M_ r_ (E_ r_ (T_ (ar_ (jq_ret1 rfl rfl [] rfl (fun K h => h s g_)))))))
  · have hlt : ¬ (k : Int) < ((l.map Brow).length : Int) := by omega
    refine am_ (R_ (M_ r_ (M_ r_ (o_ r_ (br_ r_ (fun hlen => o_ r_ (bw_ r_ r_ (M_ r_ (ai_ r_ w_ b_ (ai_ r_ w_ b_ (o_ r_ (bv_ r_ w_ r_ (T_ (ap_ r_ r_ (av_ (ax_ (ax_ (ba_ ?_))))))))))))))))))
    refine al_ (R_ (M_ r_ (E_ r_ (T_ (ar_ (jq_ret1 rfl rfl [] rfl (fun K h => h s g_)))))))
theorem ParseWords_c (l : List Int) (hl : ∀ n ∈ l, 0 ≤ n ∧ n ≤ 255) (b : Bool) : Con Tryd.prog 7 [.cell (.list (l.map Brow)), Bl b] [] (fun K => K (Bl true) []) := by
  refine con_intro Tryd.func7 rfl rfl (Nat.le_of_ble_eq_true rfl) (fun c hc => ?_)
  cases b with
  | true =>
    refine R_ (E_ r_ (T_ (R_ (M_ r_ (o_ r_ (bt_ [] rfl rfl (words_c l hl) (fun pp hpp => E_ r_ (T_ (am_ (R_ (M_ r_ (T_ (aq_ r_ r_ (an_ (M_ r_ ?_)))))))))))))))
    have he : (⟨#[32, 101, 110, 100]⟩ : ByteArray).size = 4 := rfl
    refine o_ r_ (ow_strcat r_ r_ g_ (E_ r_ (T_ (R_ (M_ r_ (o_ r_ (bm_ r_ (agreeP_c _) (M_ r_ (ah_ r_ r_ b_ (bm_ r_ (awake_c) (o_ r_ (bp_ r_ r_ r_ (E_ r_ (T_ (ar_ (jq_ret1 rfl rfl [] rfl (fun K h => h)))))))))))))))))
  | false =>
    refine R_ (E_ r_ (T_ (R_ (M_ r_ (o_ r_ (bt_ [] rfl rfl (words_c l hl) (fun pp hpp => E_ r_ (T_ (am_ (R_ (M_ r_ (T_ (ap_ r_ r_ (as_ (al_ (R_ ?_))))))))))))))))
    refine M_ r_ (o_ r_ (bm_ r_ (agreeP_c _) (M_ r_ (ah_ r_ r_ b_ (bm_ r_ (awake_c) (o_ r_ (bp_ r_ r_ r_ (E_ r_ (T_ (ar_ (jq_ret1 rfl rfl [] rfl (fun K h => h))))))))))))
end Go.Proofs.YtamajcgdfjeehaaDoor
end

section
namespace Go.Vc
open Go.ChangeShapes Go.WideShapes Go.ChangeAt Go.RowKit Go.Joins Go.Deep

theorem strs_inj {H : Type} : ∀ {a b : List ByteArray}, (strs a : List (DataW H)) = strs b → a = b
  | [], [], _ => rfl
  | [], _ :: _, h => by simp [strs] at h
  | _ :: _, [], h => by simp [strs] at h
  | x :: a, y :: b, h => by
    simp only [strs, List.map_cons, List.cons.injEq, DataW.lit.injEq, Lit.string.injEq] at h
    have e : x = y := by
      cases x; cases y
      simp only at h
      congr 1
      exact Array.ext' h.1
    subst e
    rw [strs_inj (H := H) (a := a) (b := b) h.2]

section
variable {H : Type} {enc : TypeId × Value → H} {P : Program}
/-- A slice of strings that reads so. -/
theorem rd_strings {W : World} {t e : TypeId} (ht : P.underlying t = some (.slice e)) (he : P.underlying e = some .string) (hc : P.cellsOf e = 1) {cs : List Value} {L : List ByteArray} {ps : List MemPlace} {base : Nat} {sp : Nat → Bool} {held : Bool} {fuel : Nat} (h0 : 0 < L.length)
    (h : DataW.trod enc P W base sp held fuel t cs = some ((.slice (strs L) [] : DataW H), ps)) : ∃ v, cs = [v] ∧ Rd1 W (fun _ => False) (.list (L.map fun s => [.val (.string s)])) v := by
  rcases open_strings ht he hc h with ⟨_, hx⟩ | ⟨a, len, cap, ss, rfl, _, hle, hcap, hz, hx, hcell, _⟩
  · cases hx
  · simp only [Prod.mk.injEq, DataW.slice.injEq] at hx
    have hL : L = ss.take len := strs_inj hx.1.1
    have hlen : L.length = len := by
      rw [hL, List.length_take]
      have : len ≤ ss.length := by rw [hz]; split <;> omega
      omega
    refine ⟨_, rfl, some a, cap, by rw [List.length_map, hlen], by rw [List.length_map, hlen]; exact hle, hcap, ?_⟩
    have hss : len ≤ ss.length := by rw [hz]; split <;> omega
    have h1 := hcell 0 (by omega)
    have hsp : a.spot = none := by simpa [Addr.add] using World.cell?_spot h1
    obtain ⟨b, off, sp⟩ := a
    simp only at hsp
    subst hsp
    refine .inr ⟨b, off, L.map Value.string, 1, rfl, id, ?_, Nat.one_pos, ?_⟩
    · intro j u hj
      rw [List.getElem?_map, Option.map_eq_some_iff] at hj
      obtain ⟨z, hz1, rfl⟩ := hj
      have hjl : j < L.length := (List.getElem?_eq_some_iff.1 hz1).1
      have := hcell j (by omega)
      rw [add_at] at this
      rw [this]
      congr 2
      rw [List.getD_eq_getElem?_getD]
      rw [hL, List.getElem?_take] at hz1
      split at hz1
      · rw [hz1]; rfl
      · cases hz1
    · clear hL hlen h0 h hx
      induction L with
      | nil => rfl
      | cons s L ih => exact ⟨[.string s], _, rfl, rfl, ⟨.string s, [], rfl, ⟨rfl, rfl⟩, rfl⟩, ih⟩
/-- An array of strings that reads so. -/
theorem cells_of_strs {w : World} {base : Nat} {sp : Nat → Bool} {held : Bool} {fuel : Nat} {t e : TypeId} {n : Nat} {cs : List Value} {L : List ByteArray} {p : List MemPlace}
    (ht : P.underlying t = some (.array n e)) (he : P.underlying e = some .string) (hce : P.cellsOf e = 1) (hct : P.cellsOf t = n)
    (h : DataW.trod enc P w base sp held fuel t cs = some ((.agg (strs L) : DataW H), p)) : cs = L.map Value.string := by
  cases fuel with
  | zero => simp [DataW.trod] at h
  | succ fuel =>
    simp only [DataW.trod, ht, hce, hct, Nat.mul_one] at h
    split at h
    · rename_i hl
      obtain ⟨xs, hm, hx⟩ := Option.map_eq_some_iff.1 h
      have hxs : xs.map (·.1) = (strs L : List (DataW H)) := by
        have := congrArg Prod.fst hx
        simpa using this
      have hxl : xs.length = n := by simpa using Lib.mapM_length hm
      have hzl : L.length = n := by
        have := congrArg List.length hxs
        simp [strs] at this
        omega
      apply List.ext_getElem?
      intro i
      by_cases hi : i < n
      · obtain ⟨b, hb, hf⟩ := Lib.mapM_at hm i i (by simp [hi])
        obtain ⟨z, hc, rfl, _⟩ := DataW.trod_string he hf
        have h1 : cs[i]? = some (.string z) := by
          have := congrArg (·[0]?) hc
          simpa [List.getElem?_take, List.getElem?_drop] using this
        have h2 : (xs.map (·.1))[i]? = some (DataW.lit (.string z.data.toList) : DataW H) := by simp [hb]
        rw [hxs] at h2
        simp only [strs, List.getElem?_map, Option.map_eq_some_iff, DataW.lit.injEq, Lit.string.injEq] at h2
        obtain ⟨z', hz', e⟩ := h2
        have e2 : z' = z := by
          cases z; cases z'
          simp only at e
          congr 1
          exact Array.ext' e
        subst e2
        simp [h1, hz']
      · rw [List.getElem?_eq_none (by omega), List.getElem?_eq_none (by simp; omega)]
    · cases h
theorem gv_of_var {W : World} {name : String} {g : Nat} {cs : Array Value} {row : List C} (hg : P.globalNamed name = some g) (hvar : W.var? P name = some cs) (hr : RdRow W (fun _ => False) row cs.toList) : GV W (fun _ => False) g row := by
  unfold World.var? at hvar
  rw [hg] at hvar
  simp only [Option.bind_some] at hvar
  split at hvar
  · rename_i cs' t f hh
    cases hvar
    exact ⟨id, _, t, f, hh, hr⟩
  · cases hvar
end

theorem rdRow_strs {W : World} {A : Nat → Prop} : ∀ L : List ByteArray, RdRow W A (L.map (fun s => .val (.string s))) (L.map Value.string)
  | [] => rfl
  | s :: L => ⟨.string s, _, rfl, ⟨rfl, rfl⟩, rdRow_strs L⟩

section
variable {H : Type} {enc : TypeId × Value → H} {P : Program}
/-- An array of two slices of strings that reads so. -/
theorem rd_two {W : World} {t ts e : TypeId} (ht : P.underlying t = some (.array 2 ts)) (hs : P.underlying ts = some (.slice e)) (he : P.underlying e = some .string) (hc : P.cellsOf e = 1) (hcs : P.cellsOf ts = 1) (hct : P.cellsOf t = 2) {cs : List Value} {A B : List ByteArray} {p : List MemPlace} {base : Nat} {sp : Nat → Bool} {held : Bool} {fuel : Nat} (hA : 0 < A.length) (hB : 0 < B.length)
    (h : DataW.trod enc P W base sp held fuel t cs = some ((.agg [.slice (strs A) [], .slice (strs B) []] : DataW H), p)) : ∃ u v, cs = [u, v] ∧ Rd1 W (fun _ => False) (.list (A.map fun s => [.val (.string s)])) u ∧ Rd1 W (fun _ => False) (.list (B.map fun s => [.val (.string s)])) v := by
  cases fuel with
  | zero => simp [DataW.trod] at h
  | succ fuel =>
    simp only [DataW.trod, ht, hcs, hct, Nat.mul_one] at h
    split at h
    · rename_i hl
      obtain ⟨xs, hm, hx⟩ := Option.map_eq_some_iff.1 h
      have hxs : xs.map (·.1) = [.slice (strs A) [], .slice (strs B) []] := by
        have := congrArg Prod.fst hx
        simpa using this
      obtain ⟨c0, c1, rfl⟩ : ∃ c0 c1, cs = [c0, c1] := by
        match cs, hl with
        | [c0, c1], _ => exact ⟨c0, c1, rfl⟩
      obtain ⟨b0, hb0, hf0⟩ := Lib.mapM_at hm 0 0 (by simp)
      obtain ⟨b1, hb1, hf1⟩ := Lib.mapM_at hm 1 1 (by simp)
      have k0 : b0.1 = .slice (strs A) [] := by
        have := congrArg (·[0]?) hxs
        simpa [hb0] using this
      have k1 : b1.1 = .slice (strs B) [] := by
        have := congrArg (·[1]?) hxs
        simpa [hb1] using this
      obtain ⟨x0, q0⟩ := b0
      obtain ⟨x1, q1⟩ := b1
      simp only at k0 k1
      subst k0 k1
      obtain ⟨u, hu, ru⟩ := rd_strings hs he hc hA hf0
      obtain ⟨v, hv, rv⟩ := rd_strings hs he hc hB hf1
      refine ⟨u, v, ?_, ru, rv⟩
      simp at hu hv
      rw [hu, hv]
    · cases h

/-- A slice of structs of four cells that came in: each element's cells, and how each is read. -/
theorem rd_four {W : World} {t e : TypeId} {f0 f1 f2 f3 : Field} (ht : P.underlying t = some (.slice e)) (he : P.underlying e = some (.struct #[f0, f1, f2, f3])) (hone : oneCellFields P #[f0, f1, f2, f3] = true) (hc : P.cellsOf e = 4) {α : Type} {row : α → List C}
    (hrd : ∀ (n : Nat) (v0 v1 v2 v3 : Value) (y0 y1 y2 y3 : DataW H × List MemPlace), DataW.trod enc P W 0 (fun _ => true) true n f0.type [v0] = some y0 → DataW.trod enc P W 0 (fun _ => true) true n f1.type [v1] = some y1 → DataW.trod enc P W 0 (fun _ => true) true n f2.type [v2] = some y2 → DataW.trod enc P W 0 (fun _ => true) true n f3.type [v3] = some y3 →
      ∃ x : α, RdRow W (fun _ => False) (row x) [v0, v1, v2, v3])
    {v : Value} {d : DataW H} {ps : List MemPlace} (hs : ∃ a len cap, v = .slice a len cap) (h : DataW.Trod enc P W 0 (fun _ => true) true t v d ps) : ∃ L : List α, Rd1 W (fun _ => False) (.list (L.map row)) v := by
  obtain ⟨a0, len0, cap0, rfl⟩ := hs
  obtain ⟨fuel, hf⟩ := h
  rcases DataW.trod_slice ht hf with ⟨hn, _⟩ | ⟨a, len, cap, elems, rest, n, _, hcs, _, hb, hle, hcap, hlen, hel, _, _⟩
  · simp only [Value.cells, List.cons.injEq, Value.slice.injEq, and_true] at hn
    obtain ⟨rfl, rfl, rfl⟩ := hn
    exact ⟨[], none, 0, rfl, Nat.le_refl _, Nat.zero_le _, .inl rfl⟩
  · simp only [Value.cells, List.cons.injEq, Value.slice.injEq, and_true] at hcs
    obtain ⟨rfl, rfl, rfl⟩ := hcs
    have hcell : ∀ i, i < len0 → ∃ (x : α) (cs : List Value), W.cells? 0 (a.add (i * 4)) 4 = some cs ∧ cs.length = 4 ∧ RdRow W (fun _ => False) (row x) cs := by
      intro i hi
      have hb' := hel i hi
      rw [List.getElem?_eq_getElem (by omega), hc, Option.bind_eq_some_iff] at hb'
      obtain ⟨cs, h1, h2⟩ := hb'
      obtain ⟨y0, y1, y2, y3, n', _, hl, g0, g1, g2, g3⟩ := trod_struct4 he h2
      rw [hc] at hl
      obtain ⟨c0, c1, c2, c3, rfl⟩ : ∃ c0 c1 c2 c3, cs = [c0, c1, c2, c3] := by
        match cs, hl with
        | [c0, c1, c2, c3], _ => exact ⟨c0, c1, c2, c3, rfl⟩
      obtain ⟨o0, k0⟩ := hone_of hone 0 f0 rfl
      obtain ⟨o1, k1⟩ := hone_of hone 1 f1 rfl
      obtain ⟨o2, k2⟩ := hone_of hone 2 f2 rfl
      obtain ⟨o3, k3⟩ := hone_of hone 3 f3 rfl
      obtain ⟨x, hx⟩ := hrd n' c0 c1 c2 c3 y0 y1 y2 y3 (by simpa [o0, k0] using g0) (by simpa [o1, k1] using g1) (by simpa [o2, k2] using g2) (by simpa [o3, k3] using g3)
      exact ⟨x, _, h1, rfl, hx⟩
    by_cases h0 : len0 = 0
    · subst h0
      exact ⟨[], some a, cap0, rfl, Nat.zero_le _, hcap, .inl rfl⟩
    · have key : ∀ m, m ≤ len0 → ∃ (L : List α) (vs : List Value), L.length = m ∧ vs.length = m * 4 ∧ RdRows W (fun _ => False) 4 (L.map row) vs ∧ ∀ j, j < m * 4 → W.cell? (a.add j) = vs[j]? := by
        intro m
        induction m with
        | zero => exact fun _ => ⟨[], [], rfl, rfl, rfl, fun j hj => by omega⟩
        | succ m ih =>
          intro hm
          obtain ⟨L, vs, e1, e2, e3, e4⟩ := ih (by omega)
          obtain ⟨x, cs, h1, h2, h3⟩ := hcell m (by omega)
          obtain ⟨_, _, hcc⟩ := World.cells?_some h1
          refine ⟨L ++ [x], vs ++ cs, by simp [e1], by simp [e2, h2]; omega, ?_, ?_⟩
          · rw [List.map_append]
            exact rdRows_append e3 ⟨cs, [], by simp, h2, h3, rfl⟩
          · intro j hj
            by_cases hlt : j < m * 4
            · rw [List.getElem?_append_left (by omega)]
              exact e4 j hlt
            · rw [List.getElem?_append_right (by omega), e2]
              have h5 := hcc (j - m * 4) (by omega)
              rw [← h5]
              have e : (a.add (m * 4)).add (j - m * 4) = a.add j := by
                unfold Addr.add
                by_cases h1 : m * 4 = 0
                · rw [if_pos h1, show j - m * 4 = j by omega]
                · rw [if_neg h1, if_neg (show ¬ j = 0 by omega)]
                  by_cases h2 : j - m * 4 = 0
                  · rw [if_pos h2, show m * 4 = j by omega]
                  · rw [if_neg h2]
                    simp only [Addr.mk.injEq, and_true, true_and]
                    omega
              rw [e]
      obtain ⟨L, vs, e1, e2, e3, e4⟩ := key len0 (Nat.le_refl _)
      have hsp : a.spot = none := by
        have h5 := e4 0 (by omega)
        rw [List.getElem?_eq_getElem (by omega)] at h5
        simpa [Addr.add] using World.cell?_spot h5
      obtain ⟨b, off, sp⟩ := a
      simp only at hsp
      subst hsp
      refine ⟨L, some ⟨b, off, none⟩, cap0, by rw [List.length_map, e1], by rw [List.length_map, e1]; exact hle, hcap, .inr ⟨b, off, vs, 4, rfl, id, ?_, by decide, e3⟩⟩
      intro j u hj
      have hjl := (List.getElem?_eq_some_iff.1 hj).1
      have := e4 j (by omega)
      rw [add_at] at this
      rw [this, hj]
end
end Go.Vc
end

section
namespace Go.Vc
open Go.RowKit Go.ChangeShapes Go.WideShapes

section
variable {H : Type} {enc : TypeId × Value → H} {P : Program}

/-- Arguments read as they did. -/
theorem args_stay (hl : laidOutB P = true) {W W' : World} (hb : Below W.heap.size W W') : ∀ {ts : List TypeId} {vs : List Value} {ds : List (DataW H)} {ps : List MemPlace}, ts.all (fun t => P.readableRec t && decide (t < P.types.size)) = true →
    DataW.TrodAll enc P W 0 (fun _ => true) true ts vs ds ps → (∀ p ∈ ps, p.block < W.heap.size) → DataW.TrodAll enc P W' 0 (fun b => decide (b < W.heap.size)) true ts vs ds ps
  | [], vs, ds, ps, _, h, _ => by
    obtain ⟨rfl, rfl, rfl⟩ := trodAll_nil h
    rfl
  | t :: ts, vs, ds, ps, hr, h, hlt => by
    simp only [List.all_cons, Bool.and_eq_true, decide_eq_true_eq] at hr
    obtain ⟨⟨h1, h2⟩, h3⟩ := hr
    obtain ⟨v, vr, d, dr, p, q, rfl, rfl, rfl, g1, g2⟩ := trodAll_cons h
    exact ⟨p, q, Below.trod hl h1 h2 g1 hb (fun x hx => hlt x (List.mem_append.2 (.inl hx))), args_stay hl hb h3 g2 (fun x hx => hlt x (List.mem_append.2 (.inr hx))), rfl⟩

/-- What a law's row asks behind the call: true, and each argument reads as it did. -/
theorem law_post {f : Func} {s : ChangeSpec} {W W' : World} {args : Array Value} {ds : List (DataW H)} {before : List MemPlace} {bt : TypeId} (hv : s.vars = []) (hW : DataW.Whole enc P f.params.toList s.vars false W args.toList ds [] before)
    (hr : (s.fn H (ds ++ [])).results = [.lit (.bool true)]) (ha : (s.fn H (ds ++ [])).args = ds) (hg : (s.fn H (ds ++ [])).vars = []) (hrt : f.resultTypes = #[bt]) (hbt : P.underlying bt = some .bool)
    (hl : laidOutB P = true) (hrd : f.params.toList.all (fun t => P.readableRec t && decide (t < P.types.size)) = true) (hb : Below W.heap.size W W') : s.post enc P f false true false false W args (.bool true) W' := by
  have hlt := hW.lt
  have hW' := hW
  obtain ⟨p, q, hA, hV, rfl, _, _⟩ := hW'
  rw [hv] at hV
  obtain ⟨_, rfl⟩ := trodVars_none hV
  refine ⟨ds, [], p ++ [], [], p, [], hW, ?_, ?_, ?_, World.keptBut_mono (fun x hx => ⟨hx, .inr (.inl (by simpa using hx))⟩) (hb.frame (· ∈ p ++ [])), fun h => by cases h⟩
  · rw [hr, hrt]
    exact trodAll_mk1 (shut_bool hbt _)
  · rw [ha]
    exact args_stay hl hb hrd hA (fun x hx => hlt x (by simpa using hx))
  · rw [hg, hv]
    rfl

/-- A slice of integers that came in. -/
theorem rd_ints {W : World} {t e : TypeId} {k : IntKind} (ht : P.underlying t = some (.slice e)) (he : P.underlying e = some (.int k)) (hc : P.cellsOf e = 1) {v : Value} {d : DataW H} {ps : List MemPlace} (hs : ∃ a len cap, v = .slice a len cap)
    (h : DataW.Trod enc P W 0 (fun _ => true) true t v d ps) : ∃ L : List Int, Rd1 W (fun _ => False) (.list (L.map (fun n => [.val (.int k n)]))) v ∧ ∀ n ∈ L, (Lit.int k n).wf = true := by
  obtain ⟨a0, len0, cap0, rfl⟩ := hs
  obtain ⟨fuel, hf⟩ := h
  rcases open_ints ht he hc hf with ⟨hn, _⟩ | ⟨a, len, cap, zs, hcs, _, hle, hcap, hz, _, hcell, hwf⟩
  · simp only [Value.cells, List.cons.injEq, Value.slice.injEq, and_true] at hn
    obtain ⟨rfl, rfl, rfl⟩ := hn
    exact ⟨[], ⟨none, 0, rfl, Nat.le_refl _, Nat.zero_le _, .inl rfl⟩, by simp⟩
  · simp only [Value.cells, List.cons.injEq, Value.slice.injEq, and_true] at hcs
    obtain ⟨rfl, rfl, rfl⟩ := hcs
    simp only [if_true] at hz
    have hlen : (zs.take len0).length = len0 := by simp; omega
    refine ⟨zs.take len0, ⟨some a, cap0, by rw [List.length_map, hlen], by rw [List.length_map, hlen]; exact hle, hcap, ?_⟩, fun n hn => hwf n (List.mem_of_mem_take hn)⟩
    by_cases h0 : len0 = 0
    · exact .inl (by rw [List.length_map, hlen]; exact h0)
    · have h1 := hcell 0 (by omega)
      have hsp : a.spot = none := by simpa [Addr.add] using World.cell?_spot h1
      obtain ⟨b, off, sp⟩ := a
      simp only at hsp
      subst hsp
      refine .inr ⟨b, off, (zs.take len0).map (Value.int k), 1, rfl, id, ?_, Nat.one_pos, ?_⟩
      · intro j u hj
        rw [List.getElem?_map, Option.map_eq_some_iff] at hj
        obtain ⟨z, hz1, rfl⟩ := hj
        rw [List.getElem?_take] at hz1
        split at hz1
        · have hjl : j < zs.length := by omega
          have := hcell j hjl
          rw [add_at] at this
          rw [this]
          congr 2
          rw [List.getD_eq_getElem?_getD, hz1]
          rfl
        · cases hz1
      · generalize zs.take len0 = L
        induction L with
        | nil => rfl
        | cons n L ih => exact ⟨[.int k n], L.map (Value.int k), rfl, rfl, ⟨_, _, rfl, ⟨rfl, rfl⟩, rfl⟩, ih⟩

/-- From a contract to a run. -/
theorem con_run [Gl P] {f : FuncId} {ss : List S} {vs : List Value} {W : World} (con : Con P f ss [] (fun K => K (Bl true) [])) (hs : SOks W (fun _ => False) ss vs) (hgl : Gl.ok P W (fun _ => False) := by exact trivial) : Calls P f vs.toArray W (fun e W' => e = .returned (.bool true) ∧ Below W.heap.size W W') := by
  refine (con vs W (fun _ => False) (fun _ h => h.elim) (by simp [hb]) (by simp [hb]) hs (by simp) hgl).mono ?_
  rintro e W' ⟨v, s, Ho, rfl, hK, hv, _, _, _, hg⟩
  obtain ⟨rfl, rfl⟩ := hK (fun s' H' => s' = Bl true ∧ H' = []) ⟨rfl, rfl⟩
  obtain ⟨rfl, _⟩ := hv
  exact ⟨rfl, hg.os, hg.tape, hg.output, hg.size, fun k hk => hg.block k hk (by simp [hb])⟩
end
end Go.Vc
end

section
namespace Go.Proofs.YtamajcgdfjeehaaDoor
open Go.ChangeShapes Go.WideShapes Go.ChangeAt Go.RowKit Go.Vc Go.Joins Go.Deep

/-! What the cards of the parser's laws share -/
theorem own : ownKnob Tryd.prog.godebug = none := by kernel_rfl
theorem laidOut : laidOutB Tryd.prog = true := by kernel_rfl
theorem cells3 : Tryd.prog.cellsOf 3 = 1 := by kernel_rfl
theorem cells5 : Tryd.prog.cellsOf 5 = 1 := by kernel_rfl
theorem cellsS : Tryd.prog.cellsOf 9 = 1 := by kernel_rfl
theorem cellsLs : Tryd.prog.cellsOf 36 = 1 := by kernel_rfl
theorem wordsData_eq : (Rows.laid_timebound_tree_words : DataW Unit) = .slice (strs words) [] := by kernel_rfl
theorem signsData_eq : (Rows.laid_timebound_tree_signs : DataW Unit) = .agg (strs signL) := by kernel_rfl
theorem linesData_eq : (Rows.laid_timebound_parse_lines : DataW Unit) = .agg [.slice (strs addL) [], .slice (strs mulL) []] := by kernel_rfl
theorem cmpsData_eq : (Rows.laid_timebound_parse_comparisons : DataW Unit) = .slice (strs cmpL) [] := by kernel_rfl
theorem gWords : Tryd.prog.globalNamed "timebound/tree.words" = some 3 := by kernel_rfl
theorem gWordsType : (Tryd.prog.globals[3]?).map (·.type) = some 36 := by kernel_rfl
theorem gSigns : Tryd.prog.globalNamed "timebound/tree.signs" = some 2 := by kernel_rfl
theorem gSignsType : (Tryd.prog.globals[2]?).map (·.type) = some 154 := by kernel_rfl
theorem cellsSigns : Tryd.prog.cellsOf 154 = 14 := by kernel_rfl
theorem gLines : Tryd.prog.globalNamed "timebound/parse.lines" = some 1 := by kernel_rfl
theorem gLinesType : (Tryd.prog.globals[1]?).map (·.type) = some 133 := by kernel_rfl
theorem cellsLines : Tryd.prog.cellsOf 133 = 2 := by kernel_rfl
theorem gCmps : Tryd.prog.globalNamed "timebound/parse.comparisons" = some 0 := by kernel_rfl
theorem gCmpsType : (Tryd.prog.globals[0]?).map (·.type) = some 36 := by kernel_rfl
theorem gl_of {W : World} (h : laidMetH Tryd.prog Rows.parseExprsRow.laid W) : Gl.ok Tryd.prog W (fun _ => False) := by
  have h1 : laidMet Tryd.prog Rows.parseExprsRow.laid W := h
  have h2 := laidMet.tail h1
  have h3 := laidMet.tail h2
  have h4 := laidMet.tail h3
  rw [show Rows.parseExprsRow.laid = [("timebound/tree.words", Rows.laid_timebound_tree_words), ("timebound/tree.signs", Rows.laid_timebound_tree_signs), ("timebound/parse.lines", Rows.laid_timebound_parse_lines), ("timebound/parse.comparisons", Rows.laid_timebound_parse_comparisons)] from rfl, wordsData_eq] at h1
  rw [signsData_eq] at h2
  rw [linesData_eq] at h3
  rw [cmpsData_eq] at h4
  refine ⟨?_, ?_, ?_, ?_⟩
  · obtain ⟨ps, ⟨g', t', cs, fuel, p, q, hg', ht', hvar, hd, _, _⟩, _⟩ := h1
    obtain rfl := Option.some.inj (gWords.symm.trans hg')
    obtain rfl := Option.some.inj (gWordsType.symm.trans ht')
    obtain ⟨v, hcs, hr⟩ := rd_strings Tryd.underlying36 Tryd.underlying9 cellsS (by decide) hd
    exact gv_of_var gWords hvar (by rw [hcs]; exact ⟨v, [], rfl, hr, rfl⟩)
  · obtain ⟨ps, ⟨g', t', cs, fuel, p, q, hg', ht', hvar, hd, _, _⟩, _⟩ := h2
    obtain rfl := Option.some.inj (gSigns.symm.trans hg')
    obtain rfl := Option.some.inj (gSignsType.symm.trans ht')
    have e := cells_of_strs Tryd.underlying154 Tryd.underlying9 cellsS cellsSigns hd
    exact gv_of_var gSigns hvar (by rw [e]; exact rdRow_strs signL)
  · obtain ⟨ps, ⟨g', t', cs, fuel, p, q, hg', ht', hvar, hd, _, _⟩, _⟩ := h3
    obtain rfl := Option.some.inj (gLines.symm.trans hg')
    obtain rfl := Option.some.inj (gLinesType.symm.trans ht')
    obtain ⟨u, v, hcs, hu, hv⟩ := rd_two Tryd.underlying133 Tryd.underlying36 Tryd.underlying9 cellsS cellsLs cellsLines (by decide) (by decide) hd
    exact gv_of_var gLines hvar (by rw [hcs]; exact ⟨u, [v], rfl, hu, v, [], rfl, hv, rfl⟩)
  · obtain ⟨ps, ⟨g', t', cs, fuel, p, q, hg', ht', hvar, hd, _, _⟩, _⟩ := h4
    obtain rfl := Option.some.inj (gCmps.symm.trans hg')
    obtain rfl := Option.some.inj (gCmpsType.symm.trans ht')
    obtain ⟨v, hcs, hr⟩ := rd_strings Tryd.underlying36 Tryd.underlying9 cellsS (by decide) hd
    exact gv_of_var gCmps hvar (by rw [hcs]; exact ⟨v, [], rfl, hr, rfl⟩)
/-- A world for the witness: as the program's start lays it. -/
noncomputable def laidWorld (os : Os) : World := World.doorLaid Tryd.prog 400 os
theorem laid_met (os : Os) (args : Array Value) : laidMet Tryd.prog Rows.parseExprsRow.laid ((laidWorld os).forCall (fun _ _ => 0) ⟨#[], args, []⟩).memory :=
  laidMet_of_run' 8 (by kernel_rfl) (by kernel_rfl)
section
variable {H : Type} {enc : TypeId × Value → H}
/-- Tokens that came in. -/
theorem rd_toks {W : World} {v : Value} {d : DataW H} {ps : List MemPlace} (hs : ∃ a len cap, v = .slice a len cap) (h : DataW.Trod enc Tryd.prog W 0 (fun _ => true) true 23 v d ps) : ∃ L : List Tok, Rd1 W (fun _ => False) (.list (L.map Tok.row)) v :=
  rd_four Tryd.underlying23 Tryd.underlying76 (by kernel_rfl) (by kernel_rfl) (fun n v0 v1 v2 v3 y0 y1 y2 y3 g0 g1 g2 g3 => by
    obtain ⟨k0, e0, _, _⟩ := DataW.trod_int Tryd.underlying3 g0
    obtain ⟨k1, e1, _, _⟩ := DataW.trod_int Tryd.underlying3 g1
    obtain ⟨k2, e2, _, _⟩ := DataW.trod_int Tryd.underlying3 g2
    obtain ⟨k3, e3, _⟩ := DataW.trod_string Tryd.underlying9 g3
    simp only [List.cons.injEq, and_true] at e0 e1 e2 e3
    subst e0 e1 e2 e3
    exact ⟨⟨k0, k1, k2, k3⟩, _, _, rfl, ⟨rfl, rfl⟩, _, _, rfl, ⟨rfl, rfl⟩, _, _, rfl, ⟨rfl, rfl⟩, _, _, rfl, ⟨rfl, rfl⟩, rfl⟩) hs h
end
end Go.Proofs.YtamajcgdfjeehaaDoor
end

section
namespace Go.Proofs.YtamajcgdfjeehaaDoor.parseWords
open Go.ChangeShapes Go.WideShapes Go.ChangeAt Go.RowKit Go.Vc Go.Joins

set_option maxRecDepth 100000 in
theorem contract (H : Type) (enc : TypeId × Value → H) (W : World) (base : Nat) (args : Array Value) (ds gs : List (DataW H)) (before : List MemPlace)
    (hval : ∀ (j : Nat) t v, Tryd.f7.params[j]? = some t → args[j]? = some v → Value.okWide Tryd.prog W .any base t v)
    (hW : DataW.Whole enc Tryd.prog Tryd.f7.params.toList Rows.parseWordsSpec.vars false W args.toList ds gs before) (hL : laidMetH Tryd.prog Rows.parseWordsRow.laid W) :
    Calls Tryd.prog 7 args W fun e W' => ∃ v, e = .returned v ∧ Rows.parseWordsSpec.post enc Tryd.prog Tryd.f7 false true false false W args v W' := by
  have hW' := hW
  obtain ⟨p, q, hA0, hV, rfl, hfz, hnd⟩ := hW
  have hA : DataW.TrodAll enc Tryd.prog W 0 (fun _ => true) true Tryd.f7.params.toList args.toList ds p := hA0
  rw [Tryd.params7] at hA hval
  obtain ⟨v0, vs0, d0, ds0, p0, q0, hargs, rfl, rfl, h0, r0⟩ := trodAll_cons hA
  obtain ⟨v1, vs1, d1, ds1, p1, q1, rfl, rfl, rfl, h1, r1⟩ := trodAll_cons r0
  obtain ⟨rfl, rfl, rfl⟩ := trodAll_nil r1
  obtain rfl : args = #[v0, v1] := by cases args; simp_all
  obtain ⟨rfl, rfl⟩ := trodVars_none hV
  obtain ⟨L0, hL0, hwf0⟩ := rd_ints Tryd.underlying22 Tryd.underlying5 cells5 (okWide_slice Tryd.underlying22 (hval 0 22 v0 rfl rfl)) h0
  have hn0 : ∀ n ∈ L0, 0 ≤ n ∧ n ≤ 255 := fun n hn => by simpa [Lit.wf, IntKind.min, IntKind.max, IntKind.signed, IntKind.bits] using hwf0 n hn
  obtain ⟨b1, rfl, rfl, _⟩ := open_bool Tryd.underlying4 (hval 1 4 v1 rfl rfl) h1
  refine (con_run (vs := [v0, .bool b1]) (ParseWords_c L0 hn0 b1) ⟨_, _, rfl, hL0, _, _, rfl, ⟨rfl, rfl⟩, rfl⟩ (gl_of hL)).mono ?_
  rintro e W' ⟨rfl, hb⟩
  exact ⟨_, rfl, law_post rfl hW' rfl rfl rfl rfl Tryd.underlying4 laidOut (by kernel_rfl) hb⟩

theorem reads (os : Os) {H : Type} (enc : TypeId × Value → H) : ∃ places, DataW.whole enc Tryd.prog ((laidWorld os).forCall (fun _ _ => 0) ⟨#[], #[.slice none 0 0, .bool false], []⟩).memory Tryd.f7.params.toList Rows.parseWordsSpec.vars false #[Value.slice none 0 0, .bool false].toList 8 = some ([.nil, .lit (.bool false)], [], places) :=
  ⟨[], by kernel_rfl⟩

set_option maxRecDepth 100000 in
theorem lifted (os : Os) (started : os.Started) (H : Type) (enc : TypeId × Value → H) (F : Stop.Interp) :
    ReturnsInHanded {} Tryd.checked os 7 .any ((OpenSpec.ofChange Rows.parseWordsSpec).preRow enc Tryd.prog Tryd.f7 Rows.parseWordsRow.domain false Rows.parseWordsRow.laid) (((OpenSpec.ofChange Rows.parseWordsSpec).at F).post enc Tryd.prog Tryd.f7 false true false false) := by
  obtain ⟨places, hx⟩ := reads os enc
  refine returnsInHanded_of_row (C := Tryd.checked) (s := OpenSpec.ofChange Rows.parseWordsSpec) own started (by kernel_rfl) Tryd.func7
    (witness_row_atRef (enc := enc) (C := Tryd.checked) false (laidWorld os) _ rfl (by kernel_rfl) (by kernel_rfl) (by kernel_rfl)
      (OpenSpec.preRow_of_cond 8 hx (by kernel_rfl) (fun k hk => by cases hk) (by kernel_rfl) (laid_met os _))) ?_
  intro W base args ds gs before hval hW _ _ _ hL _ _
  exact contract H enc W base args ds gs before hval hW hL

theorem said : Rows.ParseWordsSaid :=
  OpenClaim.holds_of_cond 7 Tryd.f7 rfl rfl rfl rfl rfl rfl rfl ⟨rfl, rfl, rfl, rfl, rfl⟩ rfl rfl rfl rfl rfl (by kernel_rfl) Tryd.func7 (by kernel_rfl)
    (of_decide_eq_true (by kernel_rfl)) (by unfold Func.isWrapper; first | (rw [if_pos (by decide +kernel)]; kernel_rfl) | (rw [if_neg (by decide +kernel)]; exact ⟨rfl, rfl⟩))
    (fun os started H enc _ F => by rw [OpenClaim.pre_eq_preRow]; exact lifted os started H enc F)

theorem plain (f : FuncId) (fn : Func) (hf : Tryd.pinned.checked.prog.funcNamed "timebound/timeboundlaw03.ParseWords" = some f) (hfn : Tryd.pinned.checked.prog.funcs[f]? = some fn) :
    true = Tryd.pinned.checked.prog.looks [] ∧ ∀ (j : Nat) t, fn.params[j]? = some t → Tryd.pinned.checked.prog.wantsStandIn t = false := by
  obtain rfl : f = 7 := Option.some.inj ((show Tryd.prog.funcNamed "timebound/timeboundlaw03.ParseWords" = some 7 by kernel_rfl).symm.trans hf) |>.symm
  obtain rfl : fn = Tryd.f7 := (Option.some.inj (Tryd.func7.symm.trans hfn)).symm
  refine ⟨by kernel_rfl, fun j t ht => ?_⟩
  have hall : (Tryd.f7.params.toList.all fun u => !Tryd.prog.wantsStandIn u) = true := by kernel_rfl
  have hm : t ∈ Tryd.f7.params.toList := by simpa using Array.mem_of_getElem? ht
  exact (show Tryd.prog.wantsStandIn t = false by simpa using List.all_eq_true.1 hall t hm)

theorem card : Rows.ParseWordsCardSaid :=
  Claim7.holds_tied_plain_at .later [] _ _ _ _ said (fun _ h => by cases h) (by kernel_rfl) (fun _ h => by cases h) parseWords_row_tie rfl ⟨rfl, rfl⟩ (by kernel_rfl) rfl plain (by kernel_rfl)
#print axioms card
end Go.Proofs.YtamajcgdfjeehaaDoor.parseWords
end
