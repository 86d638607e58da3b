/- What is proved: EvalApart of the package timeboundlaw06 returns true for all its arguments, and its arguments read as before. The card ties the listed tables (two of math/bits, the powers of ten, the keywords, the signs) to the text of the program. -/
import Derived.Test.YtalkkcfojplmdaaGreatDoorMa27
import Derived.Test.YtalkkcfojplmdaaGreatDoorCards
import Derived.Test.YtalkkcfojplmdaaGreatDoorTie
import Derived.SliceStrings
import Derived.WalkKit
import Derived.ProofKit
import Derived.OpenShut
import Derived.LaidMore
import Derived.Stop.Joined
import Derived.Stop.LaidErr
import Derived.Deep.DeepHandedRow
import Derived.Lib.LaidTab
import Derived.Lib.SmallJoins
import Derived.Carry
import Derived.Deep.DeepWitnessRowRef
section
namespace Go.Proofs.YtalkkcfojplmdaaGreatDoor
open Go.Vc
attribute [local irreducible] JL JC JQ OpWp Con ConN HOk
attribute [local irreducible] evJ evF Jb.arr
set_option maxHeartbeats 4000000

theorem eRun_c (p : Pg) (hp : PgOk p) (hr : ckF p = 0 → ∀ t ∈ p.tasks, Rn p t) (task : Int) (ins : List Int) (ss : List (List Int)) :
    Con Tryz.prog 31 [.row p.row, In .i64 task, .cell (.list (ins.map Irow)), .cell (.list (ss.map LRow))] [] (fun K => K (.tup [.row (OutRow (runF p task ins ss).1), In .i64 (runF p task ins ss).2]) []) := by
  have hC := cProgram5_c p hp
  refine con_intro Tryz.func31 rfl rfl (Nat.le_of_ble_eq_true rfl) (fun c hc => ?_)
  by_cases hne : ckF p ≠ 0
  · have hres : runF p task ins ss = (outZ, ckF p) := by unfold runF; rw [if_pos hne]
    refine R_ (o_ r_ (ci_ r_ (fun bx => o_ r_ (bl_ r_ r_ (fun bl => E_ r_ (T_ (am_ (R_ (A_ 1 r_ (o_ r_ (bm_ r_ (hC) (E_ r_ (T_ (R_ (M_ r_ (o_ r_ (bx_ r_ r_ (T_ (aq_ r_ u_ ?_)))))))))))))))))))
    refine R_ (o_ r_ (bu_ r_ r_ r_ r_ r_ (M_ r_ (S_ 0 r_ (E_ r_ (T_ (ar_ (aw_ (jq_row 0 (OutRow outZ) rfl ?_ ?_)))))))))
    · (repeat (first | exact RowLe.nil | refine RowLe.cons (CLe.refl _) ?_ | refine RowLe.cons CLe.nil ?_))
    · exact jq_retRowT rfl rfl rfl rfl rfl 0 rfl (fun K h => by rw [hres] at h; exact h) sub_end
  have h0 : ckF p = 0 := Classical.not_not.1 hne
  have eT : (p.tasks.map Tk.row).length = p.tasks.length := List.length_map _
  by_cases ht : ¬ (0 ≤ task ∧ task < (p.tasks.length : Int))
  · have hres : runF p task ins ss = (outZ, 8) := by unfold runF; rw [if_neg hne, if_neg ht]
    by_cases ht0 : task < 0
    · refine R_ (o_ r_ (ci_ r_ (fun bx => o_ r_ (bl_ r_ r_ (fun bl => E_ r_ (T_ (am_ (R_ (A_ 1 r_ (o_ r_ (bm_ r_ (hC) (E_ r_ (T_ (R_ (M_ r_ (o_ r_ (bx_ r_ r_ (T_ (ap_ r_ w_ ?_)))))))))))))))))))
      refine as_ (al_ (am_ (R_ (M_ r_ (o_ r_ (bw_ r_ r_ (M_ r_ (ai_ r_ u_ b_ (ai_ r_ u_ b_ (ai_ r_ u_ b_ (ai_ r_ u_ b_ (ai_ r_ u_ b_ (o_ r_ (bp_ r_ u_ r_ (T_ (aq_ r_ r_ (R_ ?_)))))))))))))))))
      refine o_ r_ (bu_ r_ r_ r_ r_ r_ (S_ 0 r_ (E_ r_ (T_ (ar_ (aw_ (jq_row 0 (OutRow outZ) rfl ?_ ?_)))))))
      · (repeat (first | exact RowLe.nil | refine RowLe.cons (CLe.refl _) ?_ | refine RowLe.cons CLe.nil ?_))
      · exact jq_retRowT rfl rfl rfl rfl rfl 0 rfl (fun K h => by rw [hres] at h; exact h) sub_end
    · have ht1 : task ≥ ((p.tasks.map Tk.row).length : Int) := by omega
      refine R_ (o_ r_ (ci_ r_ (fun bx => o_ r_ (bl_ r_ r_ (fun bl => E_ r_ (T_ (am_ (R_ (A_ 1 r_ (o_ r_ (bm_ r_ (hC) (E_ r_ (T_ (R_ (M_ r_ (o_ r_ (bx_ r_ r_ (T_ (ap_ r_ w_ ?_)))))))))))))))))))
      refine as_ (al_ (am_ (R_ (M_ r_ (o_ r_ (bw_ r_ r_ (M_ r_ (ah_ r_ w_ b_ (bd_ r_ (ah_ r_ w_ b_ (bf_ r_ r_ r_ b_ (ah_ r_ w_ b_ (bg_ 1 r_ r_ r_ r_ (ah_ r_ w_ b_ (br_ r_ (fun hlen => ah_ r_ w_ b_ (cn_ r_ r_ (o_ r_ (bv_ r_ w_ r_ (T_ (aq_ r_ u_ (R_ ?_))))))))))))))))))))))
      refine o_ r_ (bu_ r_ r_ r_ r_ r_ (S_ 0 r_ (E_ r_ (T_ (ar_ (aw_ (jq_row 0 (OutRow outZ) rfl ?_ ?_)))))))
      · (repeat (first | exact RowLe.nil | refine RowLe.cons (CLe.refl _) ?_ | refine RowLe.cons CLe.nil ?_))
      · exact jq_retRowT rfl rfl rfl rfl rfl 0 rfl (fun K h => by rw [hres] at h; exact h) sub_end
  have ht := Classical.not_not.1 ht
  obtain ⟨n, rfl⟩ : ∃ n : Nat, task = (n : Int) := ⟨task.toNat, by omega⟩
  have hn : n < p.tasks.length := by omega
  have hn1 : ¬ (n : Int) < 0 := by omega
  have hn2 : ¬ (n : Int) ≥ ((p.tasks.map Tk.row).length : Int) := by omega
  have hRn := hr h0 p.tasks[n] (List.getElem_mem hn)
  have htz := hp.sz.tasks p.tasks[n] (List.getElem_mem hn)
  have hF : runF p (n : Int) ins ss = if fitB (p.tasks[n]).inputs ins = false then (outZ, 9) else if filB p.shared ss = false then (outZ, 10) else (runO p p.tasks[n] ins ss, 0) := by
    unfold runF
    rw [if_neg hne, if_pos ht, show ((n : Int)).toNat = n by omega, List.getD_eq_getElem?_getD, List.getElem?_eq_getElem hn]
    rfl
  have hI := pfits_c (p.tasks[n]).inputs ins
  have hS := pfilled_c p.shared ss
  cases hf : fitB (p.tasks[n]).inputs ins with
  | false =>
    rw [hf] at hI
    have hres : runF p (n : Int) ins ss = (outZ, 9) := by rw [hF, if_pos hf]
    refine R_ (o_ r_ (ci_ r_ (fun bx => o_ r_ (bl_ r_ r_ (fun bl => E_ r_ (T_ (am_ (R_ (A_ 1 r_ (o_ r_ (bm_ r_ (hC) (E_ r_ (T_ (R_ (M_ r_ (o_ r_ (bx_ r_ r_ (T_ (ap_ r_ w_ ?_)))))))))))))))))))
    refine as_ (al_ (am_ (R_ (M_ r_ (o_ r_ (bw_ r_ r_ (M_ r_ (ah_ r_ w_ b_ (bd_ r_ (ah_ r_ w_ b_ (bf_ r_ r_ r_ b_ (ah_ r_ w_ b_ (bg_ 1 r_ r_ r_ r_ (ah_ r_ w_ b_ (br_ r_ (fun hlen => ah_ r_ w_ b_ (cn_ r_ r_ (o_ r_ (bv_ r_ r_ r_ (T_ (ap_ r_ w_ (as_ ?_))))))))))))))))))))))
    refine al_ (R_ (F_ r_ (L_ 1 r_ (M_ r_ (o_ r_ (cc_ r_ r_ g_ r_ r_ b_ (o_ r_ (cr_ r_ r_ r_ (o_ r_ (bl_ r_ r_ (fun bl => S_ 0 r_ (T_ (B_ (R_ (F_ r_ (L_ 0 r_ (M_ r_ (o_ r_ (bm_ r_ (hI) ?_)))))))))))))))))))
    refine o_ r_ (cd_ r_ (E_ r_ (T_ (aq_ r_ r_ (R_ (o_ r_ (bu_ r_ r_ r_ r_ r_ (S_ 1 r_ (E_ r_ (T_ (ar_ (az_ (aw_ (jq_row 0 (OutRow outZ) rfl ?_ ?_))))))))))))))
    · (repeat (first | exact RowLe.nil | refine RowLe.cons (CLe.refl _) ?_ | refine RowLe.cons CLe.nil ?_))
    · exact jq_retRowT rfl rfl rfl rfl rfl 0 rfl (fun K h => by rw [hres] at h; exact h) sub_end
  | true =>
    rw [hf] at hI
    cases hfl : filB p.shared ss with
    | false =>
      rw [hfl] at hS
      have hres : runF p (n : Int) ins ss = (outZ, 10) := by rw [hF, if_neg (by rw [hf]; decide), if_pos hfl]
      refine R_ (o_ r_ (ci_ r_ (fun bx => o_ r_ (bl_ r_ r_ (fun bl => E_ r_ (T_ (am_ (R_ (A_ 1 r_ (o_ r_ (bm_ r_ (hC) (E_ r_ (T_ (R_ (M_ r_ (o_ r_ (bx_ r_ r_ (T_ (ap_ r_ w_ ?_)))))))))))))))))))
      refine as_ (al_ (am_ (R_ (M_ r_ (o_ r_ (bw_ r_ r_ (M_ r_ (ah_ r_ w_ b_ (bd_ r_ (ah_ r_ w_ b_ (bf_ r_ r_ r_ b_ (ah_ r_ w_ b_ (bg_ 1 r_ r_ r_ r_ (ah_ r_ w_ b_ (br_ r_ (fun hlen => ah_ r_ w_ b_ (cn_ r_ r_ (o_ r_ (bv_ r_ r_ r_ (T_ (ap_ r_ w_ (as_ ?_))))))))))))))))))))))
      refine al_ (R_ (F_ r_ (L_ 1 r_ (M_ r_ (o_ r_ (cc_ r_ r_ g_ r_ r_ b_ (o_ r_ (cr_ r_ r_ r_ (o_ r_ (bl_ r_ r_ (fun bl => S_ 0 r_ (T_ (B_ (R_ (F_ r_ (L_ 0 r_ (M_ r_ (o_ r_ (bm_ r_ (hI) ?_)))))))))))))))))))
      refine o_ r_ (cd_ r_ (E_ r_ (T_ (ap_ r_ r_ (R_ (F_ r_ (L_ 2 r_ (M_ r_ (o_ r_ (bm_ r_ (hS) (o_ r_ (cd_ r_ (E_ r_ (T_ (aq_ r_ r_ (R_ (o_ r_ (bu_ r_ r_ r_ r_ r_ (S_ 1 r_ ?_)))))))))))))))))))
      refine E_ r_ (T_ (ar_ (az_ (aw_ (jq_row 0 (OutRow outZ) rfl ?_ ?_)))))
      · (repeat (first | exact RowLe.nil | refine RowLe.cons (CLe.refl _) ?_ | refine RowLe.cons CLe.nil ?_))
      · exact jq_retRowT rfl rfl rfl rfl rfl 0 rfl (fun K h => by rw [hres] at h; exact h) sub_end
    | true =>
      rw [hfl] at hS
      have hres : runF p (n : Int) ins ss = (runO p p.tasks[n] ins ss, 0) := by rw [hF, if_neg (by rw [hf]; decide), if_neg (by rw [hfl]; decide)]
      clear hF
      refine R_ (o_ r_ (ci_ r_ (fun bx => o_ r_ (bl_ r_ r_ (fun bl => E_ r_ (T_ (am_ (R_ (A_ 1 r_ (o_ r_ (bm_ r_ (hC) (E_ r_ (T_ (R_ (M_ r_ (o_ r_ (bx_ r_ r_ (T_ (ap_ r_ w_ ?_)))))))))))))))))))
      refine as_ (al_ (am_ (R_ (M_ r_ (o_ r_ (bw_ r_ r_ (M_ r_ (ah_ r_ w_ b_ (bd_ r_ (ah_ r_ w_ b_ (bf_ r_ r_ r_ b_ (ah_ r_ w_ b_ (bg_ 1 r_ r_ r_ r_ (ah_ r_ w_ b_ (br_ r_ (fun hlen => ah_ r_ w_ b_ (cn_ r_ r_ (o_ r_ (bv_ r_ r_ r_ (T_ (ap_ r_ w_ (as_ ?_))))))))))))))))))))))
      refine al_ (R_ (F_ r_ (L_ 1 r_ (M_ r_ (o_ r_ (cc_ r_ r_ g_ r_ r_ b_ (o_ r_ (cr_ r_ r_ r_ (o_ r_ (bl_ r_ r_ (fun bl => S_ 0 r_ (T_ (B_ (am_ ?_))))))))))))))
      generalize p.tasks[n] = t at *
      refine an_ (F_ r_ (L_ 0 r_ (M_ r_ (o_ r_ (bm_ r_ (hI) (o_ r_ (cd_ r_ (E_ r_ (T_ (ap_ r_ r_ (R_ (F_ r_ (L_ 2 r_ (M_ r_ (o_ r_ (bm_ r_ (hS) (o_ r_ (cd_ r_ (E_ r_ ?_)))))))))))))))))))
      refine T_ (ap_ r_ r_ (as_ (ay_ (al_ (am_ ?_)))))
      rename_i ht2 bo
      generalize bx = bp at *
      refine an_ (o_ r_ (ow_makeMapE ByteArray Int (Value.int .i64) (fun bv hbv => o_ r_ (ow_makeMapE ByteArray Int (Value.int .i64) (fun bv hbv => A_ 2 r_ (o_ r_ (bm_ r_ (pPoints_c _) (o_ r_ (ow_makeSliceI 39 rfl rfl rfl rfl rfl rfl g_ (fun vc hvc fvc => o_ r_ (bu_ r_ r_ r_ r_ r_ (o_ r_ (ci_ r_ (fun bx => E_ r_ (T_ (R_ (E_ r_ (T_ (am_ (R_ (F_ r_ ?_)))))))))))))))))))))
      refine L_ 4 r_ (o_ r_ (br_ r_ (fun hlen => M_ r_ (T_ ?_))))
      rename_i bV hbV
      generalize bl = bt at *
      generalize bx = bj at *
      have zi := htz.inputs
      have zv := htz.vars
      have hA1 := hRn.a1
      have hS1 := hRn.s1
      refine au_ (jc_ownNil 9 1 g_ ?_)
      have hfl2 : t.inputs.length = ins.length := by
        unfold fitB at hf
        simp only [Bool.and_eq_true, decide_eq_true_eq] at hf
        exact hf.1
      refine jc_loopS (ι := Nat × Value × List ByteArray) [] (fun i => i.1 ≤ (t.inputs).length ∧ i.2.2 = (t.inputs.take i.1).map (·.1)) (fun i => (72, In .i64 (i.1 : Int)) :: (13, .cell (.val i.2.1)) :: [(70, .cell (.list (t.inputs.map InRow))), (71, In .i64 ((t.inputs.map InRow).length : Int)), (2, .cell (.list (ins.map Irow))), (11, .cell (.val (.pointer (some ⟨bt, 0, none⟩)))), (4, .cell (.val (.pointer (some ⟨bp, 0, none⟩)))), (12, .cell (.val (.pointer (some ⟨bj, 0, none⟩)))), (3, .cell (.list (ss.map LRow))), (8, .cell (.val (.pointer (some ⟨bo, 0, none⟩))))]) (fun i => (.own i.2.1 9 1 (i.2.2.map Wrow)) :: [.mapc bV (mapE (Value.int .i64) (fillF [] (((t.inputs.map (·.1)).zip ins).take i.1))), .mapc bv (mapE (fun v : Value => v) ([] : List (ByteArray × Value))), .blk bj 115 [.val (.map (some bV)), .val (.map (some bv)), .val vc, .val (.int .i64 0)], .own vc 3 1 ((List.replicate 39 (0 : Int)).map Irow), .blk bt 39 t.row, .blk bp 31 p.row, .blk bo 46 [.val (.slice none 0 0), .val (.slice none 0 0), .val (.slice none 0 0), .val (.slice none 0 0), .val (.int .i64 0)]]) (fun i => (t.inputs).length - i.1) (0, .slice none 0 0, []) ⟨Nat.zero_le _, rfl⟩ ?_ ?_ ?_
      · exact bc_ 0 r_ (bc_ 3 r_ (bc_ 2 r_ (bc_ 0 r_ (bc_ 0 r_ (bc_ 0 r_ (bc_ 1 r_ (bc_ 0 r_ sub_end)))))))
      · (repeat (first | exact True.intro | refine ⟨rfl, ?_⟩))
      rintro ⟨k, v, B⟩ hz
      dsimp only at hz ⊢
      obtain ⟨hk, hB⟩ := hz
      have eLk : ((t.inputs).map InRow).length = (t.inputs).length := List.length_map _
      by_cases hltk : k < (t.inputs).length
      · have hltk2 : (k : Int) < (((t.inputs).map InRow).length : Int) := by omega
        have hBl := congrArg List.length hB
        simp only [List.length_map, List.length_take] at hBl
        have hkv : k < ins.length := by omega
        have hkv2 : (k : Int) < ((ins.map Irow).length : Int) := by rw [List.length_map]; omega
        have hkz : k < ((t.inputs.map (·.1)).zip ins).length := by rw [List.length_zip, List.length_map]; omega
        have hgz : ((t.inputs.map (·.1)).zip ins)[k] = ((t.inputs[k]).1, ins[k]) := by rw [List.getElem_zip, List.getElem_map]
        refine R_ (o_ r_ (bw_ r_ r_ (T_ (am_ (aq_ r_ u_ (as_ (al_ (B_ (R_ (M_ r_ (o_ r_ (cc_ r_ r_ g_ r_ r_ b_ (o_ r_ (cr_ r_ r_ r_ (o_ r_ (bl_ r_ r_ (fun bl => E_ r_ (S_ 0 r_ (T_ ?_)))))))))))))))))))
        refine R_ (M_ r_ (F_ r_ (L_ 0 r_ (o_ r_ (bq_ r_ r_ b_ r_ r_ b_ (o_ r_ (ow_append1 1 ((t.inputs[k]).1) rfl rfl rfl rfl rfl rfl rfl (fun _ => rfl) (by show (_ + _) * 16 ≤ _; first | omega | (simp only [List.length_append]; omega)) (by first | omega | (simp only [List.length_append]; omega)) (fun v1 hv1 => E_ r_ (T_ (jc_anyB 10 none rfl k_ k_ (yM_ r_ (yN_ r_ (yF_ r_ (yL_ 4 r_ (yF_ r_ (yL_ 1 r_ (yM_ r_ ?_)))))))))))))))))
        refine yM_ r_ (aa_ (fun c => cc_ r_ r_ g_ r_ r_ b_ p_) (aa_ (fun c => cb_ r_ r_ p_) (ae_ (afin_none (ag_ (ow_mapPut (κ := ByteArray) (vv := Value.int .i64) (M := fillF [] (((t.inputs.map (·.1)).zip ins).take k)) 2 r_ r_ r_ r_ r_ (ak_ (ay_ (al_ (an_ (o_ r_ (bj_ r_ r_ g_ (M_ r_ (ak_ ?_))))))))))))))
        refine jq_againS (i := (k, v, B)) (k + 1, v1, B ++ [(t.inputs[k]).1]) ⟨hltk, by dsimp only; rw [hB, List.take_succ_eq_append_getElem hltk, List.map_append]; rfl⟩ (by dsimp only; omega) ?_ ?_
        · rw [List.take_succ_eq_append_getElem hkz, hgz, fill_snoc]
          exact bc_ 1 r_ (bc_ 0 r_ (bc_ 1 r_ (bc_ 1 r_ (bc_ 1 r_ (bc_ 1 r_ (bc_ 1 r_ (bc_ 1 r_ sub_end)))))))
        · (repeat (first | exact True.intro | refine ⟨rfl, ?_⟩))
      · have hltk2 : ¬ (k : Int) < (((t.inputs).map InRow).length : Int) := by omega
        rw [List.take_of_length_le (by omega)] at hB
        have hzl : ((t.inputs.map (·.1)).zip ins).length ≤ k := by rw [List.length_zip, List.length_map]; omega
        rw [List.take_of_length_le hzl]
        subst hB
        have eVl : (t.vars.map Wrow).length = t.vars.length := List.length_map _
        have eBl : (t.inputs.map (·.1)).length = t.inputs.length := List.length_map _
        refine R_ (o_ r_ (bw_ r_ r_ (T_ (am_ (ap_ r_ w_ (av_ (ax_ (ax_ (ba_ (al_ (R_ (M_ r_ (F_ r_ (L_ 5 r_ (o_ r_ (ow_appendM 0 rfl rfl rfl rfl rfl rfl rfl (fun _ => rfl) (by show (_ + _) * 16 ≤ _; first | omega | (simp only [List.length_append]; omega)) (by first | omega | (simp only [List.length_append]; omega)) (fun v1 hv1 => E_ r_ ?_)))))))))))))))))
        refine T_ (am_ (am_ (jc_freeze 13 0 rfl rfl (by rw [hc]; simp [hb]) ?_)))
        clear hltk hltk2 hk eVl eBl hzl
        refine jc_ownNil 3 1 g_ (jc_ownNil 3 1 g_ (an_ (F_ r_ (L_ 6 r_ (o_ r_ (br_ r_ (fun hlen => M_ r_ (T_ (au_ ?_)))))))))
        refine jc_loopS (ι := Nat × Value) [] (fun i => i.1 ≤ (t.arrays).length ∧ i.2.oneCell' = true) (fun i => (100, In .i64 (i.1 : Int)) :: [(98, .cell (.list (t.arrays.map ArRow))), (99, In .i64 ((t.arrays.map ArRow).length : Int)), (13, .cell (.list ((t.inputs.map (·.1) ++ t.vars).map Wrow))), (11, .cell (.val (.pointer (some ⟨bt, 0, none⟩)))), (4, .cell (.val (.pointer (some ⟨bp, 0, none⟩)))), (12, .cell (.val (.pointer (some ⟨bj, 0, none⟩)))), (3, .cell (.list (ss.map LRow))), (8, .cell (.val (.pointer (some ⟨bo, 0, none⟩))))]) (fun i => (.own i.2 3 1 ((kIf i.1 (List.replicate (t.arrays.headD (⟨#[]⟩, 0)).2.toNat (0 : Int))).map Irow)) :: [.own (.slice none 0 0) 3 1 (([] : List Int).map Irow), .mapc bV (mapE (Value.int .i64) (fillF [] ((t.inputs.map (·.1)).zip ins))), .mapc bv (mapE (fun v : Value => v) (fillF [] ((t.arrays.take i.1).map (fun x => (x.1, i.2))))), .blk bj 115 [.val (.map (some bV)), .val (.map (some bv)), .val vc, .val (.int .i64 0)], .own vc 3 1 ((List.replicate 39 (0 : Int)).map Irow), .blk bt 39 t.row, .blk bp 31 p.row, .blk bo 46 [.val (.slice none 0 0), .val (.slice none 0 0), .val (.slice none 0 0), .val (.slice none 0 0), .val (.int .i64 0)]]) (fun i => (t.arrays).length - i.1) (0, .slice none 0 0) ⟨Nat.zero_le _, rfl⟩ ?_ ?_ ?_
        · exact bc_ 0 r_ (bc_ 0 r_ (bc_ 0 r_ (bc_ 0 r_ (bc_ 0 r_ (bc_ 0 r_ (bc_ 0 r_ (bc_ 0 r_ (bc_ 0 r_ sub_end))))))))
        · (repeat (first | exact True.intro | refine ⟨rfl, ?_⟩))
        rintro ⟨k, v⟩ hz
        dsimp only at hz ⊢
        obtain ⟨hk, hva⟩ := hz
        have eLk : ((t.arrays).map ArRow).length = (t.arrays).length := List.length_map _
        by_cases hltk : k < (t.arrays).length
        · have hltk2 : (k : Int) < (((t.arrays).map ArRow).length : Int) := by omega
          obtain rfl : k = 0 := by omega
          have hsz : (t.arrays[0]).2 = (((t.arrays.headD (⟨#[]⟩, 0)).2.toNat : Nat) : Int) ∧ (t.arrays.headD (⟨#[]⟩, 0)).2.toNat ≤ 16 := by
            have h1 := hRn.asz t.arrays[0] (List.getElem_mem hltk)
            rw [hd_get hltk]
            omega
          obtain ⟨hsz, hszl⟩ := hsz
          have hone : ∀ v : Value, fillF [] ((t.arrays.take 1).map (fun x => (x.1, v))) = aset [] (t.arrays[0]).1 v := by intro v; rw [one_take hltk]; rfl
          refine R_ (o_ r_ (bw_ r_ r_ (T_ (am_ (aq_ r_ u_ (as_ (al_ (B_ (R_ (o_ r_ (cc_ r_ r_ g_ r_ r_ b_ (o_ r_ (cr_ r_ r_ r_ (o_ r_ (bl_ r_ r_ (fun bl => S_ 0 r_ (T_ (jc_hpV2 9 (n := 10) rfl 0 4 [.string (t.arrays[0]).1, .int .i64 (t.arrays[0]).2] [.map (some bV), .map (some bv), vc, .int .i64 0] k_ rfl rfl rfl ?_))))))))))))))))))
          refine df_ (i := 0) rfl k_ k_ k_ b_ (by (repeat (first | refine pani_then ?_ | refine pani_block ?_)); exact pani_body) (dk_ rfl) ?_
          refine df_ (i := 1) rfl k_ k_ k_ b_ (by (repeat (first | refine pani_then ?_ | refine pani_block ?_)); exact pani_body) (dr_ rfl) ?_
          refine df_ (i := 2) rfl k_ k_ k_ b_ (by (repeat (first | refine pani_then ?_ | refine pani_block ?_)); exact pani_body) (dl_ rfl rfl rfl b_) ?_
          refine df_ (i := 3) rfl k_ k_ k_ b_ (by (repeat (first | refine pani_then ?_ | refine pani_block ?_)); exact pani_body) (dm_ 5 rfl rfl rfl mem1 rfl) ?_
          refine df_ (i := 4) rfl k_ k_ k_ b_ (by (repeat (first | refine pani_then ?_ | refine pani_block ?_)); exact pani_body) (dl_ rfl rfl rfl b_) ?_
          refine df_ (i := 5) rfl k_ k_ k_ b_ (by (repeat (first | refine pani_then ?_ | refine pani_block ?_)); exact pani_body) (dm_ 0 rfl rfl rfl mem0 rfl) ?_
          refine df_ (i := 6) rfl k_ k_ k_ b_ (by (repeat (first | refine pani_then ?_ | refine pani_block ?_)); exact pani_body) (dl_ rfl rfl rfl b_) ?_
          refine df_ (i := 7) rfl k_ k_ k_ b_ (by (repeat (first | refine pani_then ?_ | refine pani_block ?_)); exact pani_body) (dm_ 0 rfl rfl rfl mem0 rfl) ?_
          refine dg_ (i := 8) rfl k_ b_ (ow_makeSliceI (t.arrays.headD (⟨#[]⟩, 0)).2.toNat rfl rfl rfl rfl rfl hsz g_ (fun va1 hva1 fva1 => ⟨?_, ?_⟩))
          exact keep2 1 6 rfl rfl
          refine hp_tail (dj_ (i := 9) rfl k_ (by decide) (ow_mapPut (κ := ByteArray) (vv := fun v : Value => v) (M := ([] : List (ByteArray × Value))) 5 rfl rfl rfl rfl rfl (ht_done k_ (ay_ (al_ (an_ (o_ r_ (bj_ r_ r_ g_ (M_ r_ (ak_ (jq_againS (i := (0, v)) (1, va1) ⟨by omega, hva1⟩ (by dsimp only; omega) ?_ ?_)))))))))))
          · dsimp only
            rw [hone]
            exact bc_ 1 r_ (bc_ 3 r_ (bc_ 3 r_ (bc_ 0 r_ (bc_ 2 r_ (bc_ 2 r_ (bc_ 2 r_ (bc_ 2 r_ (bc_ 2 r_ sub_end))))))))
          · (repeat (first | exact True.intro | refine ⟨rfl, ?_⟩))
        · have hltk2 : ¬ (k : Int) < (((t.arrays).map ArRow).length : Int) := by omega
          rw [show t.arrays.take k = t.arrays from List.take_of_length_le (by omega)]
          obtain rfl : k = t.arrays.length := by omega
          have hsl0 : ∀ h : 0 < ss.length, (ss[0]).length ≤ 1000000 := fil_hd hfl hRn.ssz
          have hsl : p.shared.length = ss.length := by
            unfold filB at hfl
            rw [Bool.and_eq_true, decide_eq_true_eq] at hfl
            exact hfl.1
          generalize v = va at *
          clear hltk hltk2 hk
          refine R_ (o_ r_ (bw_ r_ r_ (T_ (am_ (ap_ r_ v_ (av_ (ax_ (ax_ (ba_ (al_ (am_ (R_ (F_ r_ (L_ 7 r_ (o_ r_ (br_ r_ (fun hlen => M_ r_ ?_)))))))))))))))))
          refine T_ (au_ ?_)
          refine jc_loopS (ι := Nat × Value) [] (fun i => i.1 ≤ (p.shared).length ∧ i.2.oneCell' = true) (fun i => (117, In .i64 (i.1 : Int)) :: [(115, .cell (.list (p.shared.map ShRow))), (116, In .i64 ((p.shared.map ShRow).length : Int)), (13, .cell (.list ((t.inputs.map (·.1) ++ t.vars).map Wrow))), (11, .cell (.val (.pointer (some ⟨bt, 0, none⟩)))), (4, .cell (.val (.pointer (some ⟨bp, 0, none⟩)))), (12, .cell (.val (.pointer (some ⟨bj, 0, none⟩)))), (3, .cell (.list (ss.map LRow))), (8, .cell (.val (.pointer (some ⟨bo, 0, none⟩))))]) (fun i => (.own i.2 3 1 ((kIf i.1 (ss.headD [])).map Irow)) :: [.own va 3 1 ((ca0 t.arrays).map Irow), .mapc bV (mapE (Value.int .i64) (fillF [] ((t.inputs.map (·.1)).zip ins))), .mapc bv (mapE (fun v : Value => v) (fillF (fillF [] (t.arrays.map (fun x => (x.1, va)))) ((p.shared.take i.1).map (fun x => (x.1, i.2))))), .blk bj 115 [.val (.map (some bV)), .val (.map (some bv)), .val vc, .val (.int .i64 0)], .own vc 3 1 ((List.replicate 39 (0 : Int)).map Irow), .blk bt 39 t.row, .blk bp 31 p.row, .blk bo 46 [.val (.slice none 0 0), .val (.slice none 0 0), .val (.slice none 0 0), .val (.slice none 0 0), .val (.int .i64 0)]]) (fun i => (p.shared).length - i.1) (0, .slice none 0 0) ⟨Nat.zero_le _, rfl⟩ ?_ ?_ ?_
          · exact bc_ 1 r_ (bc_ 0 r_ (bc_ 0 r_ (bc_ 0 r_ (bc_ 0 r_ (bc_ 0 r_ (bc_ 0 r_ (bc_ 0 r_ (bc_ 0 r_ sub_end))))))))
          · (repeat (first | exact True.intro | refine ⟨rfl, ?_⟩))
          rintro ⟨k, v⟩ hz
          dsimp only at hz ⊢
          obtain ⟨hk, hvb⟩ := hz
          have eLk : ((p.shared).map ShRow).length = (p.shared).length := List.length_map _
          by_cases hltk : k < (p.shared).length
          · have hltk2 : (k : Int) < (((p.shared).map ShRow).length : Int) := by omega
            have hS2 := hRn.s1
            obtain rfl : k = 0 := by omega
            have hs0 : 0 < ss.length := by omega
            have hs02 : (0 : Int) < ((ss.map LRow).length : Int) := by rw [List.length_map]; omega
            have hhd : ss.headD [] = ss[0] := hd_get hs0
            have hcl := CloneI_c ss[0] (hsl0 hs0)
            have hone : ∀ (M : List (ByteArray × Value)) (v : Value), fillF M ((p.shared.take 1).map (fun x => (x.1, v))) = aset M (p.shared[0]).1 v := by intro M v; rw [one_take hltk]; rfl
            refine R_ (o_ r_ (bw_ r_ r_ (T_ (am_ (aq_ r_ u_ (as_ (al_ (B_ (R_ (M_ r_ (o_ r_ (cc_ r_ r_ g_ r_ r_ b_ (o_ r_ (cr_ r_ r_ r_ (o_ r_ (bl_ r_ r_ (fun bl => E_ r_ (S_ 0 r_ (T_ ?_)))))))))))))))))))
            refine jc_hpV2 12 (n := 13) rfl 0 4 [.string (p.shared[0]).1, .int .i64 (p.shared[0]).2.1, .string (p.shared[0]).2.2] [.map (some bV), .map (some bv), vc, .int .i64 0] k_ rfl rfl rfl (df_ (i := 0) rfl k_ k_ k_ b_ (by (repeat (first | refine pani_then ?_ | refine pani_block ?_)); exact pani_body) (dk_ rfl) ?_)
            refine df_ (i := 1) rfl k_ k_ k_ b_ (by (repeat (first | refine pani_then ?_ | refine pani_block ?_)); exact pani_body) (dr_ rfl) ?_
            refine df_ (i := 2) rfl k_ k_ k_ b_ (by (repeat (first | refine pani_then ?_ | refine pani_block ?_)); exact pani_body) (dl_ rfl rfl rfl b_) ?_
            refine df_ (i := 3) rfl k_ k_ k_ b_ (by (repeat (first | refine pani_then ?_ | refine pani_block ?_)); exact pani_body) (dm_ 5 rfl rfl rfl mem1 rfl) ?_
            refine df_ (i := 4) rfl k_ k_ k_ b_ (by (repeat (first | refine pani_then ?_ | refine pani_block ?_)); exact pani_body) (dl_ rfl rfl rfl b_) ?_
            refine df_ (i := 5) rfl k_ k_ k_ b_ (by (repeat (first | refine pani_then ?_ | refine pani_block ?_)); exact pani_body) (dl_ rfl rfl rfl b_) ?_
            refine df_ (i := 6) rfl k_ k_ k_ b_ (by (repeat (first | refine pani_then ?_ | refine pani_block ?_)); exact pani_body) (dm_ 0 rfl rfl rfl mem0 rfl) ?_
            refine df_ (i := 7) rfl k_ k_ k_ b_ (by (repeat (first | refine pani_then ?_ | refine pani_block ?_)); exact pani_body) (dk_ rfl) ?_
            refine df_ (i := 8) rfl k_ k_ k_ b_ (by (repeat (first | refine pani_then ?_ | refine pani_block ?_)); exact pani_body) (dk_ rfl) ?_
            refine dg_ (i := 9) r_ k_ b_ (cc_ r_ r_ g_ r_ r_ b_ ⟨?_, ?_⟩)
            exact keep2 0 5 rfl rfl
            refine dg_ (i := 10) r_ k_ b_ (cb_ r_ r_ ⟨?_, ?_⟩)
            exact keep2 0 5 rfl rfl
            refine dg_ (i := 11) rfl k_ b_ (bt_ [] rfl rfl (hcl) (fun pp hpp => ⟨?_, ?_⟩))
            exact keep2 1 6 rfl rfl
            refine hp_tail (dj_ (i := 12) rfl k_ (by decide) (ow_mapPut (κ := ByteArray) (vv := fun v : Value => v) (M := fillF [] (t.arrays.map (fun x => (x.1, va)))) 5 rfl rfl rfl rfl rfl (ht_done k_ (ay_ (al_ (an_ (o_ r_ (bj_ r_ r_ g_ (M_ r_ (ak_ (jq_againS (i := (0, v)) (1, pp) ⟨by omega, hpp⟩ (by dsimp only; omega) ?_ ?_)))))))))))
            · dsimp only
              rw [hone, kIf, hhd]
              exact bc_ 1 r_ (bc_ 3 r_ (bc_ 3 r_ (bc_ 0 r_ (bc_ 2 r_ (bc_ 2 r_ (bc_ 2 r_ (bc_ 2 r_ (bc_ 2 r_ sub_end))))))))
            · (repeat (first | exact True.intro | refine ⟨rfl, ?_⟩))
          · have hltk2 : ¬ (k : Int) < (((p.shared).map ShRow).length : Int) := by omega
            rw [show p.shared.take k = p.shared from List.take_of_length_le (by omega)]
            obtain rfl : k = p.shared.length := by omega
            generalize v = vb at *
            clear hltk hltk2 hk
            have hV := arV_eq p t va vb
            unfold arV at hV
            rw [hV]
            have hl39 : (List.replicate 39 (0 : Int)).length = 39 := List.length_replicate
            refine R_ (o_ r_ (bw_ r_ r_ (T_ (am_ (ap_ r_ v_ (av_ (ax_ (ax_ (ba_ (al_ (R_ (M_ r_ (N_ r_ (F_ r_ (L_ 4 r_ (o_ r_ (ow_indexI 5 r_ r_ r_ g_ r_ ?_)))))))))))))))))
            refine ag_ (ow_storeI 5 r_ r_ r_ g_ r_ (T_ (am_ ?_)))
            refine jc_reset [(13, .cell (.list ((t.inputs.map (·.1) ++ t.vars).map Wrow))), (11, .cell (.val (.pointer (some ⟨bt, 0, none⟩)))), (4, .cell (.val (.pointer (some ⟨bp, 0, none⟩)))), (12, .cell (.val (.pointer (some ⟨bj, 0, none⟩)))), (8, .cell (.val (.pointer (some ⟨bo, 0, none⟩))))] (JobHE bj bV bv va vb vc (AMof p t) (jb0 p t ins ss) ++ [.blk bt 39 t.row, .blk bp 31 p.row, .blk bo 46 [.val (.slice none 0 0), .val (.slice none 0 0), .val (.slice none 0 0), .val (.slice none 0 0), .val (.int .i64 0)]]) ?_ ?_ ?_
            · (repeat (first | exact True.intro | refine ⟨rfl, ?_⟩))
            · exact bc_ 5 r_ (bc_ 0 r_ (bc_ 2 r_ (bc_ 2 r_ (bc_ 1 r_ (bc_ 0 r_ (bc_ 0 r_ (bc_ 0 r_ (bc_ 0 r_ sub_end))))))))
            have cR := pstmts_c (bj := bj) (bv := bV) (ba := bv) (va := va) (vb := vb) (vc := vc) (AM := AMof p t) _ (am_has hRn hfl) (ca0_le hRn) (cb0_le hRn hfl) hva hvb t.body hRn.rok 1 (jb0 p t ins ss) jb0_ok (by have := hRn.cst; omega)
            refine an_ (M_ r_ (F_ r_ (L_ 6 r_ (o_ r_ (bi_ [0, 0, 0, 0, 0, 0] r_ r_ cR (T_ (am_ ?_)))))))
            refine jc_reset [(13, .cell (.list ((t.inputs.map (·.1) ++ t.vars).map Wrow))), (11, .cell (.val (.pointer (some ⟨bt, 0, none⟩)))), (4, .cell (.val (.pointer (some ⟨bp, 0, none⟩)))), (12, .cell (.val (.pointer (some ⟨bj, 0, none⟩)))), (8, .cell (.val (.pointer (some ⟨bo, 0, none⟩))))] (JobHE bj bV bv va vb vc (AMof p t) (runL (AMof p t) t.body (jb0 p t ins ss)) ++ [.blk bt 39 t.row, .blk bp 31 p.row, .blk bo 46 [.val (.slice none 0 0), .val (.slice none 0 0), .val (.slice none 0 0), .val (.slice none 0 0), .val (.int .i64 0)]]) ?_ ?_ ?_
            · (repeat (first | exact True.intro | refine ⟨rfl, ?_⟩))
            · exact bc_ 0 r_ (bc_ 0 r_ (bc_ 0 r_ (bc_ 0 r_ (bc_ 0 r_ (bc_ 0 r_ (bc_ 0 r_ (bc_ 0 r_ (bc_ 0 r_ sub_end))))))))
            have hrun : runO p t ins ss = ⟨(scaL t).map (fun s => (aget (runL (AMof p t) t.body (jb0 p t ins ss)).V s).getD 0), t.arrays.map (fun _ => (runL (AMof p t) t.body (jb0 p t ins ss)).ca), p.shared.map (fun _ => (runL (AMof p t) t.body (jb0 p t ins ss)).cb), (runL (AMof p t) t.body (jb0 p t ins ss)).cn, (runL (AMof p t) t.body (jb0 p t ins ss)).st⟩ := rfl
            rw [hrun] at hres
            clear cR hrun
            generalize (runL (AMof p t) t.body (jb0 p t ins ss)) = J at hres ⊢
            have eNl : ((t.inputs.map (·.1) ++ t.vars).map Wrow).length = t.inputs.length + t.vars.length := by rw [List.length_map, List.length_append, List.length_map]
            refine jc_anyB 10 (some 9) rfl k_ k_ (yM_ r_ (yN_ r_ (yF_ r_ (yL_ 0 r_ (yM_ r_ (yN_ r_ (yF_ r_ (yL_ 0 r_ (aa_ (fun c => bu_ r_ r_ r_ r_ r_ p_) (af_ (ae_ (afin_some rfl rfl rfl (fun bl => S_ 0 r_ (T_ (am_ ?_)))))))))))))))
            refine R_ (M_ r_ (o_ r_ (br_ r_ (fun hlen => M_ r_ (T_ (au_ ?_))))))
            generalize bl = b2 at *
            refine jc_ownNil 3 1 g_ ?_
            refine jc_loopS (ι := Nat × Value × List Int) [] (fun i => i.1 ≤ ((t.inputs.map (·.1) ++ t.vars)).length ∧ i.2.2 = (((t.inputs.map (·.1) ++ t.vars)).take i.1).map (fun s => (aget J.V s).getD 0)) (fun i => (155, In .i64 (i.1 : Int)) :: (153, .cell (.list ((t.inputs.map (·.1) ++ t.vars).map Wrow))) :: [(154, In .i64 (((t.inputs.map (·.1) ++ t.vars).map Wrow).length : Int)), (20, .cell (.val (.pointer (some ⟨b2, 0, none⟩)))), (11, .cell (.val (.pointer (some ⟨bt, 0, none⟩)))), (4, .cell (.val (.pointer (some ⟨bp, 0, none⟩)))), (12, .cell (.val (.pointer (some ⟨bj, 0, none⟩)))), (8, .cell (.val (.pointer (some ⟨bo, 0, none⟩))))]) (fun i => (.own i.2.1 3 1 (i.2.2.map Irow)) :: .blk b2 46 [.val i.2.1, .val (.slice none 0 0), .val (.slice none 0 0), .val vc, .val (.int .i64 J.st)] :: (JobHE bj bV bv va vb vc (AMof p t) J ++ [.blk bt 39 t.row, .blk bp 31 p.row, .blk bo 46 [.val (.slice none 0 0), .val (.slice none 0 0), .val (.slice none 0 0), .val (.slice none 0 0), .val (.int .i64 0)]])) (fun i => ((t.inputs.map (·.1) ++ t.vars)).length - i.1) (0, .slice none 0 0, []) ⟨Nat.zero_le _, rfl⟩ ?_ ?_ ?_
            · exact bc_ 0 r_ (bc_ 0 r_ (bc_ 0 r_ (bc_ 0 r_ (bc_ 0 r_ (bc_ 0 r_ (bc_ 0 r_ (bc_ 0 r_ (bc_ 0 r_ (bc_ 0 r_ (bc_ 0 r_ sub_end))))))))))
            · (repeat (first | exact True.intro | refine ⟨rfl, ?_⟩))
            rintro ⟨k, v, B⟩ hz
            dsimp only at hz ⊢
            obtain ⟨hk, hB⟩ := hz
            have eLk : (((t.inputs.map (·.1) ++ t.vars)).map Wrow).length = ((t.inputs.map (·.1) ++ t.vars)).length := List.length_map _
            by_cases hltk : k < ((t.inputs.map (·.1) ++ t.vars)).length
            · have hltk2 : (k : Int) < ((((t.inputs.map (·.1) ++ t.vars)).map Wrow).length : Int) := by omega
              have hBl := congrArg List.length hB
              simp only [List.length_map, List.length_take] at hBl
              refine R_ (o_ r_ (bw_ r_ r_ (T_ (am_ (aq_ r_ u_ (as_ (al_ (B_ (R_ (o_ r_ (cc_ r_ r_ g_ r_ r_ b_ (o_ r_ (cb_ r_ r_ (E_ r_ (T_ (jc_hpV2 10 (n := 12) rfl 1 1 [v, .slice none 0 0, .slice none 0 0, vc, .int .i64 J.st] [.map (some bV), .map (some bv), vc, .int .i64 J.st] k_ rfl rfl rfl ?_))))))))))))))))
              refine df_ (i := 0) rfl k_ k_ k_ b_ (by (repeat (first | refine pani_then ?_ | refine pani_block ?_)); exact pani_body) (dl_ rfl rfl rfl b_) ?_
              refine df_ (i := 1) rfl k_ k_ k_ b_ (by (repeat (first | refine pani_then ?_ | refine pani_block ?_)); exact pani_body) (dm_ 1 rfl rfl rfl mem0 rfl) ?_
              refine df_ (i := 2) rfl k_ k_ k_ b_ (by (repeat (first | refine pani_then ?_ | refine pani_block ?_)); exact pani_body) (dk_ rfl) ?_
              refine df_ (i := 3) rfl k_ k_ k_ b_ (by (repeat (first | refine pani_then ?_ | refine pani_block ?_)); exact pani_body) (dr_ rfl) ?_
              refine df_ (i := 4) rfl k_ k_ k_ b_ (by (repeat (first | refine pani_then ?_ | refine pani_block ?_)); exact pani_body) (dl_ rfl rfl rfl b_) ?_
              refine df_ (i := 5) rfl k_ k_ k_ b_ (by (repeat (first | refine pani_then ?_ | refine pani_block ?_)); exact pani_body) (dm_ 2 rfl rfl rfl mem1 rfl) ?_
              refine df_ (i := 6) rfl k_ k_ k_ b_ (by (repeat (first | refine pani_then ?_ | refine pani_block ?_)); exact pani_body) (dk_ rfl) ?_
              refine dg_ (i := 7) r_ k_ b_ (ow_mapGetOI 4 r_ r_ r_ r_ r_ ⟨?_, ?_⟩)
              exact keep2 1 2 rfl rfl
              refine dg_ (i := 8) r_ k_ b_ (bq_ r_ r_ b_ r_ r_ b_ ⟨?_, ?_⟩)
              exact keep2 1 2 rfl rfl
              refine dg_ (i := 9) rfl k_ b_ (ow_append1 0 ((aget J.V ((t.inputs.map (·.1) ++ t.vars))[k]).getD 0) rfl rfl rfl rfl rfl rfl rfl (fun _ => rfl) (by show (_ + 1) * 8 ≤ _ ; first | omega | (simp ; done)) (by first | omega | (simp ; done)) (fun v1 hv1 => ⟨?_, ?_⟩))
              exact keep2 1 2 rfl rfl
              refine df_ (i := 10) rfl k_ k_ k_ b_ (by (repeat (first | refine pani_then ?_ | refine pani_block ?_)); exact pani_body) (dl_ rfl rfl rfl b_) ?_
              refine hp_tail (dj_ (i := 11) rfl k_ (by decide) (ca_ 1 rfl rfl rfl rfl b_ (ht_done k_ (ay_ (al_ (an_ (o_ r_ (bj_ r_ r_ g_ (M_ r_ (ak_ (jq_againS (i := (k, v, B)) (k + 1, v1, B ++ [(aget J.V ((t.inputs.map (·.1) ++ t.vars))[k]).getD 0]) ⟨hltk, by dsimp only; rw [hB, List.take_succ_eq_append_getElem hltk, List.map_append]; rfl⟩ (by dsimp only; omega) ?_ ?_)))))))))))
              · exact bc_ 1 r_ (bc_ 0 r_ (bc_ 0 r_ (bc_ 0 r_ (bc_ 0 r_ (bc_ 0 r_ (bc_ 0 r_ (bc_ 0 r_ (bc_ 0 r_ (bc_ 0 r_ (bc_ 0 r_ sub_end))))))))))
              · (repeat (first | exact True.intro | refine ⟨rfl, ?_⟩))
            · have hltk2 : ¬ (k : Int) < ((((t.inputs.map (·.1) ++ t.vars)).map Wrow).length : Int) := by omega
              rw [show ((t.inputs.map (·.1) ++ t.vars)).take k = (t.inputs.map (·.1) ++ t.vars) from List.take_of_length_le (by omega)] at hB
              generalize v = vV at *
              refine R_ (o_ r_ (bw_ r_ r_ (T_ (am_ (ap_ r_ w_ (av_ (ax_ (ax_ (ba_ (al_ (am_ (R_ (F_ r_ (L_ 8 r_ (o_ r_ (br_ r_ (fun hlen => M_ r_ ?_)))))))))))))))))
              refine T_ (au_ ?_)
              subst hB
              clear hltk hltk2 hk eLk
              refine jc_ownNil 22 1 g_ ?_
              refine jc_loopS (ι := Nat × Value) [] (fun i => i.1 ≤ (t.arrays).length) (fun i => (174, In .i64 (i.1 : Int)) :: [(172, .cell (.list (t.arrays.map ArRow))), (173, In .i64 ((t.arrays.map ArRow).length : Int)), (20, .cell (.val (.pointer (some ⟨b2, 0, none⟩)))), (11, .cell (.val (.pointer (some ⟨bt, 0, none⟩)))), (4, .cell (.val (.pointer (some ⟨bp, 0, none⟩)))), (12, .cell (.val (.pointer (some ⟨bj, 0, none⟩)))), (8, .cell (.val (.pointer (some ⟨bo, 0, none⟩))))]) (fun i => (.own i.2 22 1 ((t.arrays.take i.1).map (fun _ => [C.val va]))) :: .blk b2 46 [.val vV, .val i.2, .val (.slice none 0 0), .val vc, .val (.int .i64 J.st)] :: .own vV 3 1 (((t.inputs.map (·.1) ++ t.vars).map (fun s => (aget J.V s).getD 0)).map Irow) :: (JobHE bj bV bv va vb vc (AMof p t) J ++ [.blk bt 39 t.row, .blk bp 31 p.row, .blk bo 46 [.val (.slice none 0 0), .val (.slice none 0 0), .val (.slice none 0 0), .val (.slice none 0 0), .val (.int .i64 0)]])) (fun i => (t.arrays).length - i.1) (0, .slice none 0 0) (Nat.zero_le _) ?_ ?_ ?_
              · exact bc_ 0 r_ (bc_ 1 r_ (bc_ 0 r_ (bc_ 0 r_ (bc_ 0 r_ (bc_ 0 r_ (bc_ 0 r_ (bc_ 0 r_ (bc_ 0 r_ (bc_ 0 r_ (bc_ 0 r_ (bc_ 0 r_ sub_end)))))))))))
              · (repeat (first | exact True.intro | refine ⟨rfl, ?_⟩))
              rintro ⟨k, v⟩ hz
              dsimp only at hz ⊢
              obtain hk := hz
              have eLk : ((t.arrays).map ArRow).length = (t.arrays).length := List.length_map _
              by_cases hltk : k < (t.arrays).length
              · have hltk2 : (k : Int) < (((t.arrays).map ArRow).length : Int) := by omega
                obtain rfl : k = 0 := by omega
                have hAM := am_arr hRn hltk
                refine R_ (o_ r_ (bw_ r_ r_ (T_ (am_ (aq_ r_ u_ (as_ (al_ (B_ (R_ (o_ r_ (cc_ r_ r_ g_ r_ r_ b_ (o_ r_ (cr_ r_ r_ r_ (o_ r_ (bl_ r_ r_ (fun bl => S_ 0 r_ (T_ (jc_hpV3 11 (n := 13) rfl 0 2 4 [.string (t.arrays[0]).1, .int .i64 (t.arrays[0]).2] [vV, v, .slice none 0 0, vc, .int .i64 J.st] [.map (some bV), .map (some bv), vc, .int .i64 J.st] k_ rfl rfl rfl rfl rfl rfl ?_))))))))))))))))))
                refine df_ (i := 0) rfl k_ k_ k_ b_ (by (repeat (first | refine pani_then ?_ | refine pani_block ?_)); exact pani_body) (dl_ rfl rfl rfl b_) ?_
                refine df_ (i := 1) rfl k_ k_ k_ b_ (by (repeat (first | refine pani_then ?_ | refine pani_block ?_)); exact pani_body) (dm_ 2 rfl rfl rfl mem1 rfl) ?_
                refine df_ (i := 2) rfl k_ k_ k_ b_ (by (repeat (first | refine pani_then ?_ | refine pani_block ?_)); exact pani_body) (dk_ rfl) ?_
                refine df_ (i := 3) rfl k_ k_ k_ b_ (by (repeat (first | refine pani_then ?_ | refine pani_block ?_)); exact pani_body) (dr_ rfl) ?_
                refine df_ (i := 4) rfl k_ k_ k_ b_ (by (repeat (first | refine pani_then ?_ | refine pani_block ?_)); exact pani_body) (dl_ rfl rfl rfl b_) ?_
                refine df_ (i := 5) rfl k_ k_ k_ b_ (by (repeat (first | refine pani_then ?_ | refine pani_block ?_)); exact pani_body) (dm_ 4 rfl rfl rfl mem2 rfl) ?_
                refine df_ (i := 6) rfl k_ k_ k_ b_ (by (repeat (first | refine pani_then ?_ | refine pani_block ?_)); exact pani_body) (dl_ rfl rfl rfl b_) ?_
                refine df_ (i := 7) rfl k_ k_ k_ b_ (by (repeat (first | refine pani_then ?_ | refine pani_block ?_)); exact pani_body) (dm_ 0 rfl rfl rfl mem0 rfl) ?_
                refine dg_ (i := 8) rfl k_ b_ (ow_mapGetOW (κ := ByteArray) (vv := fun q => cond q va vb) (M := AMof p t) (w := true) (u := va) 7 rfl rfl hAM rfl hva rfl rfl rfl ⟨?_, ?_⟩)
                refine keep3 ?_ ?_ ?_
                exact List.mem_of_getElem? (i := 0) rfl
                exact List.mem_of_getElem? (i := 2) rfl
                exact List.mem_of_getElem? (i := 4) rfl
                refine dg_ (i := 9) r_ k_ b_ (bq_ r_ r_ b_ r_ r_ b_ ⟨?_, ?_⟩)
                refine keep3 ?_ ?_ ?_
                exact List.mem_of_getElem? (i := 0) rfl
                exact List.mem_of_getElem? (i := 2) rfl
                exact List.mem_of_getElem? (i := 4) rfl
                refine dg_ (i := 10) rfl k_ b_ (ow_append1 1 (t.arrays[0]) rfl rfl rfl rfl rfl rfl rfl (fun _ => rfl) (by show (_ + 1) * 24 ≤ _ ; first | omega | (simp ; done)) (by first | omega | (simp ; done)) (fun v1 hv1 => ⟨?_, ?_⟩))
                refine keep3 ?_ ?_ ?_
                exact List.mem_of_getElem? (i := 1) rfl
                exact List.mem_of_getElem? (i := 2) rfl
                exact List.mem_of_getElem? (i := 4) rfl
                refine df_ (i := 11) rfl k_ k_ k_ b_ (by (repeat (first | refine pani_then ?_ | refine pani_block ?_)); exact pani_body) (dl_ rfl rfl rfl b_) ?_
                refine hp_tail (dj_ (i := 12) rfl k_ (by decide) (ca_ 2 rfl rfl rfl rfl b_ (ht_done k_ (ay_ (al_ (an_ (o_ r_ (bj_ r_ r_ g_ (M_ r_ (ak_ (jq_againS (i := (0, v)) (1, v1) (by first | omega | (dsimp only; omega)) (by first | omega | (dsimp only; omega)) ?_ ?_)))))))))))
                · dsimp only
                  rw [one_take hltk]
                  exact bc_ 1 r_ (bc_ 0 r_ (bc_ 1 r_ (bc_ 1 r_ (bc_ 1 r_ (bc_ 1 r_ (bc_ 1 r_ (bc_ 1 r_ (bc_ 1 r_ (bc_ 1 r_ (bc_ 1 r_ (bc_ 1 r_ sub_end)))))))))))
                · (repeat (first | exact True.intro | refine ⟨rfl, ?_⟩))
              · have hltk2 : ¬ (k : Int) < (((t.arrays).map ArRow).length : Int) := by omega
                rw [show t.arrays.take k = t.arrays from List.take_of_length_le (by omega)]
                generalize v = vA at *
                refine R_ (o_ r_ (bw_ r_ r_ (T_ (am_ (ap_ r_ w_ (av_ (ax_ (ax_ (ba_ (al_ (am_ (R_ (F_ r_ (L_ 10 r_ (o_ r_ (br_ r_ (fun hlen => M_ r_ ?_)))))))))))))))))
                refine T_ (au_ (jc_ownNil 22 1 g_ ?_))
                refine jc_loopS (ι := Nat × Value) [] (fun i => i.1 ≤ (p.shared).length) (fun i => (194, In .i64 (i.1 : Int)) :: [(192, .cell (.list (p.shared.map ShRow))), (193, In .i64 ((p.shared.map ShRow).length : Int)), (20, .cell (.val (.pointer (some ⟨b2, 0, none⟩)))), (11, .cell (.val (.pointer (some ⟨bt, 0, none⟩)))), (4, .cell (.val (.pointer (some ⟨bp, 0, none⟩)))), (12, .cell (.val (.pointer (some ⟨bj, 0, none⟩)))), (8, .cell (.val (.pointer (some ⟨bo, 0, none⟩))))]) (fun i => (.own i.2 22 1 ((p.shared.take i.1).map (fun _ => [C.val vb]))) :: .blk b2 46 [.val vV, .val vA, .val i.2, .val vc, .val (.int .i64 J.st)] :: .own vA 22 1 (t.arrays.map (fun _ => [C.val va])) :: .own vV 3 1 (((t.inputs.map (·.1) ++ t.vars).map (fun s => (aget J.V s).getD 0)).map Irow) :: (JobHE bj bV bv va vb vc (AMof p t) J ++ [.blk bt 39 t.row, .blk bp 31 p.row, .blk bo 46 [.val (.slice none 0 0), .val (.slice none 0 0), .val (.slice none 0 0), .val (.slice none 0 0), .val (.int .i64 0)]])) (fun i => (p.shared).length - i.1) (0, .slice none 0 0) (Nat.zero_le _) ?_ ?_ ?_
                · exact bc_ 0 r_ (bc_ 1 r_ (bc_ 0 r_ (bc_ 0 r_ (bc_ 0 r_ (bc_ 0 r_ (bc_ 0 r_ (bc_ 0 r_ (bc_ 0 r_ (bc_ 0 r_ (bc_ 0 r_ (bc_ 0 r_ (bc_ 0 r_ sub_end))))))))))))
                · (repeat (first | exact True.intro | refine ⟨rfl, ?_⟩))
                rintro ⟨k, v⟩ hz
                dsimp only at hz ⊢
                obtain hk := hz
                have eLk : ((p.shared).map ShRow).length = (p.shared).length := List.length_map _
                by_cases hltk : k < (p.shared).length
                · have hltk2 : (k : Int) < (((p.shared).map ShRow).length : Int) := by omega
                  obtain rfl : k = 0 := by omega
                  have hAM := am_shr hRn hltk
                  refine R_ (o_ r_ (bw_ r_ r_ (T_ (am_ (aq_ r_ u_ (as_ (al_ (B_ (R_ (o_ r_ (cc_ r_ r_ g_ r_ r_ b_ (o_ r_ (cr_ r_ r_ r_ (o_ r_ (bl_ r_ r_ (fun bl => S_ 0 r_ (T_ (jc_hpV3 12 (n := 14) rfl 0 2 5 [.string (p.shared[0]).1, .int .i64 (p.shared[0]).2.1, .string (p.shared[0]).2.2] [vV, vA, v, vc, .int .i64 J.st] [.map (some bV), .map (some bv), vc, .int .i64 J.st] k_ rfl rfl rfl rfl rfl rfl ?_))))))))))))))))))
                  refine df_ (i := 0) rfl k_ k_ k_ b_ (by (repeat (first | refine pani_then ?_ | refine pani_block ?_)); exact pani_body) (dl_ rfl rfl rfl b_) ?_
                  refine df_ (i := 1) rfl k_ k_ k_ b_ (by (repeat (first | refine pani_then ?_ | refine pani_block ?_)); exact pani_body) (dm_ 2 rfl rfl rfl mem1 rfl) ?_
                  refine df_ (i := 2) rfl k_ k_ k_ b_ (by (repeat (first | refine pani_then ?_ | refine pani_block ?_)); exact pani_body) (dk_ rfl) ?_
                  refine df_ (i := 3) rfl k_ k_ k_ b_ (by (repeat (first | refine pani_then ?_ | refine pani_block ?_)); exact pani_body) (dr_ rfl) ?_
                  refine df_ (i := 4) rfl k_ k_ k_ b_ (by (repeat (first | refine pani_then ?_ | refine pani_block ?_)); exact pani_body) (dl_ rfl rfl rfl b_) ?_
                  refine df_ (i := 5) rfl k_ k_ k_ b_ (by (repeat (first | refine pani_then ?_ | refine pani_block ?_)); exact pani_body) (dm_ 5 rfl rfl rfl mem2 rfl) ?_
                  refine df_ (i := 6) rfl k_ k_ k_ b_ (by (repeat (first | refine pani_then ?_ | refine pani_block ?_)); exact pani_body) (dl_ rfl rfl rfl b_) ?_
                  refine df_ (i := 7) rfl k_ k_ k_ b_ (by (repeat (first | refine pani_then ?_ | refine pani_block ?_)); exact pani_body) (dl_ rfl rfl rfl b_) ?_
                  refine df_ (i := 8) rfl k_ k_ k_ b_ (by (repeat (first | refine pani_then ?_ | refine pani_block ?_)); exact pani_body) (dm_ 0 rfl rfl rfl mem0 rfl) ?_
                  refine dg_ (i := 9) rfl k_ b_ (ow_mapGetOW (κ := ByteArray) (vv := fun q => cond q va vb) (M := AMof p t) (w := false) (u := vb) 8 rfl rfl hAM rfl hvb rfl rfl rfl ⟨?_, ?_⟩)
                  refine keep3 ?_ ?_ ?_
                  exact List.mem_of_getElem? (i := 0) rfl
                  exact List.mem_of_getElem? (i := 2) rfl
                  exact List.mem_of_getElem? (i := 5) rfl
                  refine dg_ (i := 10) r_ k_ b_ (bq_ r_ r_ b_ r_ r_ b_ ⟨?_, ?_⟩)
                  refine keep3 ?_ ?_ ?_
                  exact List.mem_of_getElem? (i := 0) rfl
                  exact List.mem_of_getElem? (i := 2) rfl
                  exact List.mem_of_getElem? (i := 5) rfl
                  refine dg_ (i := 11) rfl k_ b_ (ow_append1 1 (p.shared[0]) rfl rfl rfl rfl rfl rfl rfl (fun _ => rfl) (by show (_ + 1) * 24 ≤ _ ; first | omega | (simp ; done)) (by first | omega | (simp ; done)) (fun v1 hv1 => ⟨?_, ?_⟩))
                  refine keep3 ?_ ?_ ?_
                  exact List.mem_of_getElem? (i := 1) rfl
                  exact List.mem_of_getElem? (i := 2) rfl
                  exact List.mem_of_getElem? (i := 5) rfl
                  refine df_ (i := 12) rfl k_ k_ k_ b_ (by (repeat (first | refine pani_then ?_ | refine pani_block ?_)); exact pani_body) (dl_ rfl rfl rfl b_) ?_
                  refine hp_tail (dj_ (i := 13) rfl k_ (by decide) (ca_ 2 rfl rfl rfl rfl b_ (ht_done k_ (ay_ (al_ (an_ (o_ r_ (bj_ r_ r_ g_ (M_ r_ (ak_ (jq_againS (i := (0, v)) (1, v1) (by first | omega | (dsimp only; omega)) (by first | omega | (dsimp only; omega)) ?_ ?_)))))))))))
                  · dsimp only
                    rw [one_take hltk]
                    exact bc_ 1 r_ (bc_ 0 r_ (bc_ 1 r_ (bc_ 1 r_ (bc_ 1 r_ (bc_ 1 r_ (bc_ 1 r_ (bc_ 1 r_ (bc_ 1 r_ (bc_ 1 r_ (bc_ 1 r_ (bc_ 1 r_ (bc_ 1 r_ sub_end))))))))))))
                  · (repeat (first | exact True.intro | refine ⟨rfl, ?_⟩))
                · have hltk2 : ¬ (k : Int) < (((p.shared).map ShRow).length : Int) := by omega
                  rw [show p.shared.take k = p.shared from List.take_of_length_le (by omega)]
                  generalize v = vS at *
                  refine R_ (o_ r_ (bw_ r_ r_ (T_ (am_ (ap_ r_ w_ (av_ (ax_ (ax_ (ba_ (al_ (am_ (jc_freezeO1 (l := p.shared) hRn.s1 9 0 rfl (by rw [hc]; simp [hb]) (jc_freezeO1 (l := t.arrays) hRn.a1 8 2 rfl (by rw [hc]; simp [hb]) ?_)))))))))))))
                  rw [show t.arrays.map (fun _ => [C.list (J.ca.map Irow)]) = (t.arrays.map (fun _ => J.ca)).map LRow by rw [List.map_map]; rfl, show p.shared.map (fun _ => [C.list (J.cb.map Irow)]) = (p.shared.map (fun _ => J.cb)).map LRow by rw [List.map_map]; rfl]
                  exact jc_freezeBi 0 1 1 rfl rfl rfl (by rw [hc]; simp [hb]) (jc_freezeBi 1 0 2 rfl rfl rfl (by rw [hc]; simp [hb]) (jc_freezeBi 1 0 0 rfl rfl rfl (by rw [hc]; simp [hb]) (jc_freezeBi 2 0 3 rfl rfl rfl (by rw [hc]; simp [hb]) (an_ (A_ 0 r_ (S_ 6 r_ (E_ r_ (T_ (ar_ (jq_retRowT rfl rfl rfl rfl rfl 0 rfl (fun K h => by rw [hres] at h; exact h) sub_end))))))))))
end Go.Proofs.YtalkkcfojplmdaaGreatDoor
end

section
namespace Go.Proofs.YtalkkcfojplmdaaGreatDoor
open Go.Vc
attribute [local irreducible] JL JC JQ OpWp Con ConN HOk
set_option maxHeartbeats 4000000

theorem SameInts_c (a b : List Int) : Con Tryz.prog 39 [.cell (.list (a.map Irow)), .cell (.list (b.map Irow))] [] (fun K => K (Bl (decide (a = b))) []) := by
  have eA : (a.map Irow).length = a.length := List.length_map _
  have eB : (b.map Irow).length = b.length := List.length_map _
  refine con_intro Tryz.func39 rfl rfl (Nat.le_of_ble_eq_true rfl) (fun c hc => R_ (E_ r_ (T_ (am_ (R_ (M_ r_ (o_ r_ (br_ r_ (fun hlen => M_ r_ (o_ r_ (br_ r_ (fun hlen => o_ r_ (bx_ r_ r_ (T_ (jc_condd rfl (fun hne => ?_) (fun heq => ?_))))))))))))))))
  · refine R_ (E_ r_ (T_ (ar_ (aw_ (jq_ret1 rfl rfl [] rfl (fun K h => ?_))))))
    rw [show decide (a = b) = false from decide_eq_false (fun e => hne (by rw [e]))] at h
    exact h
  refine as_ (al_ (am_ (R_ (E_ r_ (T_ (au_ ?_))))))
  have hab : a.length = b.length := by omega
  refine jc_loop [0, 1] (fun k => k ≤ a.length ∧ a.take k = b.take k) (fun k => [(5, In .i64 (k : Int))]) (fun _ => []) (fun k => a.length - k) 0 [] ⟨Nat.zero_le _, rfl⟩ rfl ?_ ?_
  · (repeat (first | exact True.intro | refine ⟨rfl, ?_⟩))
  · rintro k ⟨hk, hke⟩
    refine am_ (R_ (M_ r_ (M_ r_ (o_ r_ (br_ r_ (fun hlen => o_ r_ (bw_ r_ r_ (T_ (jc_condd rfl (fun hlt => ?_) (fun hge => ?_))))))))))
    · have hlt : k < a.length := by omega
      have hltb : k < b.length := by omega
      refine as_ (al_ (B_ (am_ (ao_ r_ r_ k_ k_ (yM_ r_ (yM_ r_ (aa_ (fun c => cc_ r_ r_ g_ r_ r_ b_ p_) (aa_ (fun c => cb_ r_ r_ p_) (yM_ r_ (yM_ r_ (aa_ (fun c => cc_ r_ r_ g_ r_ r_ b_ p_) (aa_ (fun c => cb_ r_ r_ p_) (aa_ (fun c => bx_ r_ r_ p_) (ae_ (al_ ?_)))))))))))))))
      refine jc_condd rfl (fun hne => ?_) (fun hee => ?_)
      · refine R_ (E_ r_ (T_ (ar_ (az_ (aw_ (aw_ (az_ (aw_ (jq_ret1 rfl rfl [] rfl (fun K h => ?_))))))))))
        rw [show decide (a = b) = false from decide_eq_false (fun e => hne (by subst e; rfl))] at h
        exact h
      · have hee' : a[k] = b[k] := by omega
        refine as_ (ay_ (al_ (an_ (M_ r_ (o_ r_ (bj_ r_ r_ g_ (E_ r_ (ak_ (jq_again (k + 1) [] ⟨hlt, by rw [List.take_succ_eq_append_getElem hlt, List.take_succ_eq_append_getElem hltb, hke, hee']⟩ g_ rfl ?_)))))))))
        (repeat (first | exact True.intro | refine ⟨rfl, ?_⟩))
    · rw [List.take_of_length_le (by omega), List.take_of_length_le (by omega)] at hke
      subst hke
      refine av_ (ax_ (ax_ (ba_ (al_ (R_ (E_ r_ (T_ (ar_ (jq_ret1 rfl rfl [] rfl (fun K h => by simpa using h))))))))))
theorem SameLists_c (a b : List (List Int)) : Con Tryz.prog 129 [.cell (.list (a.map LRow)), .cell (.list (b.map LRow))] [] (fun K => K (Bl (decide (a = b))) []) := by
  have eA : (a.map LRow).length = a.length := List.length_map _
  have eB : (b.map LRow).length = b.length := List.length_map _
  refine con_intro Tryz.func129 rfl rfl (Nat.le_of_ble_eq_true rfl) (fun c hc => R_ (E_ r_ (T_ (am_ (R_ (M_ r_ (o_ r_ (br_ r_ (fun hlen => M_ r_ (o_ r_ (br_ r_ (fun hlen => o_ r_ (bx_ r_ r_ (T_ (jc_condd rfl (fun hne => ?_) (fun heq => ?_))))))))))))))))
  · refine R_ (E_ r_ (T_ (ar_ (aw_ (jq_ret1 rfl rfl [] rfl (fun K h => ?_))))))
    rw [show decide (a = b) = false from decide_eq_false (fun e => hne (by rw [e]))] at h
    exact h
  refine as_ (al_ (am_ (R_ (E_ r_ (T_ (au_ ?_))))))
  have hab : a.length = b.length := by omega
  refine jc_loop [0, 1] (fun k => k ≤ a.length ∧ a.take k = b.take k) (fun k => [(5, In .i64 (k : Int))]) (fun _ => []) (fun k => a.length - k) 0 [] ⟨Nat.zero_le _, rfl⟩ rfl ?_ ?_
  · (repeat (first | exact True.intro | refine ⟨rfl, ?_⟩))
  · rintro k ⟨hk, hke⟩
    refine am_ (R_ (M_ r_ (M_ r_ (o_ r_ (br_ r_ (fun hlen => o_ r_ (bw_ r_ r_ (T_ (jc_condd rfl (fun hlt => ?_) (fun hge => ?_))))))))))
    · have hlt : k < a.length := by omega
      have hltb : k < b.length := by omega
      have hS := SameInts_c a[k] b[k]
      refine as_ (al_ (B_ (am_ (ao_ r_ r_ k_ k_ (yM_ r_ (yM_ r_ (aa_ (fun c => cc_ r_ r_ g_ r_ r_ b_ p_) (aa_ (fun c => cb_ r_ r_ p_) (yM_ r_ (yM_ r_ (aa_ (fun c => cc_ r_ r_ g_ r_ r_ b_ p_) (aa_ (fun c => cb_ r_ r_ p_) (aa_ (fun c => bm_ r_ (hS) p_) (aa_ (fun c => ce_ r_ p_) (ae_ ?_)))))))))))))))
      refine al_ (jc_cond rfl (fun hne => ?_) (fun hee => ?_))
      · refine R_ (E_ r_ (T_ (ar_ (az_ (aw_ (aw_ (az_ (aw_ (jq_ret1 rfl rfl [] rfl (fun K h => ?_))))))))))
        rw [show decide (a = b) = false from decide_eq_false (fun e => by subst e; simp at hne)] at h
        exact h
      · have hee' : a[k] = b[k] := by simpa using hee
        refine as_ (ay_ (al_ (an_ (M_ r_ (o_ r_ (bj_ r_ r_ g_ (E_ r_ (ak_ (jq_again (k + 1) [] ⟨hlt, by rw [List.take_succ_eq_append_getElem hlt, List.take_succ_eq_append_getElem hltb, hke, hee']⟩ g_ rfl ?_)))))))))
        (repeat (first | exact True.intro | refine ⟨rfl, ?_⟩))
    · rw [List.take_of_length_le (by omega), List.take_of_length_le (by omega)] at hke
      subst hke
      refine av_ (ax_ (ax_ (ba_ (al_ (R_ (E_ r_ (T_ (ar_ (jq_ret1 rfl rfl [] rfl (fun K h => by simpa using h))))))))))
theorem SameIX_c (a : List Int) : Con Tryz.prog 39 [.cell (.list (a.map Irow)), .cell (.list (a.map Irow))] [] (fun K => K (Bl true) []) := by
  have := SameInts_c a a
  rwa [decide_eq_true rfl] at this
theorem SameLX_c (l : List (List Int)) : Con Tryz.prog 129 [.cell (.list (l.map LRow)), .cell (.list (l.map LRow))] [] (fun K => K (Bl true) []) := by
  have := SameLists_c l l
  rwa [decide_eq_true rfl] at this
theorem rSameEnd_c (o : Out) : Con Tryz.prog 75 [.row (OutRow o), .row (OutRow o)] [] (fun K => K (Bl true) []) := by
  refine con_intro Tryz.func75 rfl rfl (Nat.le_of_ble_eq_true rfl) (fun c hc => R_ (o_ r_ (ci_ r_ (fun bx => o_ r_ (ci_ r_ (fun bx => E_ r_ (T_ (R_ (F_ r_ (L_ 1 r_ (F_ r_ (L_ 0 r_ (o_ r_ (bm_ r_ (SameIX_c _) (M_ r_ (ah_ r_ r_ b_ (bf_ r_ r_ r_ b_ (ah_ r_ r_ b_ (bg_ 1 r_ r_ r_ r_ (ah_ r_ r_ b_ (bf_ r_ r_ r_ b_ ?_)))))))))))))))))))))
  refine ah_ r_ r_ b_ (bg_ 0 r_ r_ r_ r_ (ah_ r_ r_ b_ (bm_ r_ (SameLX_c _) (o_ r_ (bp_ r_ r_ r_ (M_ r_ (ah_ r_ r_ b_ (bf_ r_ r_ r_ b_ (ah_ r_ r_ b_ (bg_ 1 r_ r_ r_ r_ (ah_ r_ r_ b_ (bf_ r_ r_ r_ b_ (ah_ r_ r_ b_ (bg_ 0 r_ r_ r_ r_ (ah_ r_ r_ b_ (bm_ r_ (SameLX_c _) (o_ r_ (bp_ r_ r_ r_ (E_ r_ (T_ (ar_ (jq_ret1 rfl rfl [] rfl (fun K h => h)))))))))))))))))))))))
theorem rSame_c (o : Out) : Con Tryz.prog 41 [.row (OutRow o), .row (OutRow o)] [] (fun K => K (Bl true) []) := by
  refine con_intro Tryz.func41 rfl rfl (Nat.le_of_ble_eq_true rfl) (fun c hc => R_ (o_ r_ (ci_ r_ (fun bx => o_ r_ (ci_ r_ (fun bx => E_ r_ (T_ (R_ (F_ r_ (L_ 1 r_ (F_ r_ (L_ 0 r_ (o_ r_ (bn_ r_ r_ (M_ r_ (ah_ r_ x_ b_ (bs_ 1 r_ r_ r_ r_ (ah_ r_ x_ b_ (bs_ 0 r_ r_ r_ r_ (ah_ r_ x_ b_ (bm_ r_ (rSameEnd_c o) ?_)))))))))))))))))))))
  refine o_ r_ (bp_ r_ x_ r_ (M_ r_ (ah_ r_ r_ b_ (bf_ r_ r_ r_ b_ (ah_ r_ r_ b_ (bg_ 1 r_ r_ r_ r_ (ah_ r_ r_ b_ (bf_ r_ r_ r_ b_ (ah_ r_ r_ b_ (bg_ 0 r_ r_ r_ r_ (ah_ r_ r_ b_ (bm_ r_ (SameIX_c _) (o_ r_ (bp_ r_ r_ r_ (E_ r_ (T_ (ar_ (jq_ret1 rfl rfl [] rfl (fun K h => h)))))))))))))))))))
end Go.Proofs.YtalkkcfojplmdaaGreatDoor
end

section
namespace Go.Proofs.YtalkkcfojplmdaaGreatDoor
open Go.Vc
set_option maxHeartbeats 1000000

mutual
/-- All statements, those inside as well, are as p says of their kinds, names, labels and maxima. -/
def Sm.ev (p : Int → ByteArray → Int → Int → Bool) : Sm → Bool
  | .mk k nm _ _ mx lb t e => p k nm lb mx && Sm.evs p t && Sm.evs p e
def Sm.evs (p : Int → ByteArray → Int → Int → Bool) : List Sm → Bool
  | [] => true
  | s :: l => s.ev p && Sm.evs p l
end
section
variable {p q : Int → ByteArray → Int → Int → Bool}
theorem ev_eq (p : Int → ByteArray → Int → Int → Bool) (s : Sm) : s.ev p = (p s.kind s.name s.label s.max && Sm.evs p s.thn && Sm.evs p s.els) := by cases s; rfl
theorem evs_mem : ∀ {l : List Sm}, Sm.evs p l = true → ∀ s ∈ l, s.ev p = true
  | u :: l, h, s, hs => by
    rw [Sm.evs, Bool.and_eq_true] at h
    rcases List.mem_cons.1 hs with rfl | hs
    · exact h.1
    · exact evs_mem h.2 s hs
theorem evs_of : ∀ {l : List Sm}, (∀ s ∈ l, s.ev p = true) → Sm.evs p l = true
  | [], _ => rfl
  | u :: l, h => by rw [Sm.evs, h u (List.mem_cons_self ..), evs_of (fun s hs => h s (List.mem_cons_of_mem _ hs))]; rfl
theorem evs_iff {l : List Sm} : Sm.evs p l = true ↔ ∀ s ∈ l, s.ev p = true := ⟨evs_mem, evs_of⟩
theorem evs_app : ∀ (l m : List Sm), Sm.evs p (l ++ m) = (Sm.evs p l && Sm.evs p m)
  | [], m => by rw [List.nil_append, Sm.evs, Bool.true_and]
  | u :: l, m => by rw [List.cons_append, Sm.evs, Sm.evs, evs_app l m, Bool.and_assoc]
theorem run_rel {AM : AMt} {R : Jb → Jb → Prop} (hr : ∀ j, R j j) (ht : ∀ a b c, R a b → R b c → R a c)
    (hv : ∀ (j : Jb) (V : List (ByteArray × Int)), R j (Jb.step { j with V := V })) (hp : ∀ (j : Jb) (nm : ByteArray) (i n lb mx : Int), p 2 nm lb mx = true → R j (j.put AM nm i n).step)
    (hi : ∀ (nm : ByteArray) (lb mx : Int) (j : Jb), p 3 nm lb mx = true → R j ((j.up (3 * lb)).step.up (3 * lb + 1)) ∧ R j ((j.up (3 * lb)).step.up (3 * lb + 2)))
    (hw : ∀ (nm : ByteArray) (c : T) (lb mx : Int) (body : Jb → Jb) (j : Jb), p 4 nm lb mx = true → (∀ j, R j (body j)) → R j ((whI AM c lb body mx.toNat (j.up (3 * lb))).up (3 * lb + 2))) :
    ∀ l : List Sm, Sm.evs p l = true → ∀ j, R j (runL AM l j) := by
  refine Sms.ind (fun l ih hl j => ?_)
  have key : ∀ k, k ≤ l.length → R j (runL AM (l.take k) j) := by
    intro k
    induction k with
    | zero => intro _; rw [List.take_zero, runL]; exact hr j
    | succ k ihk =>
      intro hk
      refine ht _ _ _ (ihk (by omega)) ?_
      obtain ⟨i1, i2⟩ := ih l[k] (List.getElem_mem (by omega))
      have h1 := evs_mem hl l[k] (List.getElem_mem (by omega))
      rw [ev_eq, Bool.and_eq_true, Bool.and_eq_true] at h1
      obtain ⟨⟨h0, h1⟩, h2⟩ := h1
      rw [runL_step (by omega), runS_eq]
      generalize runL AM (l.take k) j = j1
      split
      · exact hv _ _
      split
      · rename_i hk2
        rw [hk2] at h0
        exact hp _ _ _ _ _ _ h0
      split
      · rename_i hk3
        rw [hk3] at h0
        have := hi _ _ _ j1 h0
        split
        · exact ht _ _ _ this.1 (i1 h1 _)
        · exact ht _ _ _ this.2 (i2 h2 _)
      split
      · rename_i hk4
        rw [hk4] at h0
        exact hw _ _ _ _ _ _ h0 (fun j => i1 h1 j)
      split
      · exact i1 h1 _
      · exact hr _
  have := key l.length (Nat.le_refl _)
  rw [List.take_of_length_le (Nat.le_refl _)] at this
  exact this
theorem whI_rel {AM : AMt} {R : Jb → Jb → Prop} (hr : ∀ j, R j j) (ht : ∀ a b c, R a b → R b c → R a c) {c : T} {lb : Int} {body : Jb → Jb} (hs : ∀ j, R j j.step) (hu : ∀ j, R j (j.step.up (3 * lb + 1))) (hb : ∀ j, R j (body j)) : ∀ (n : Nat) (j : Jb), R j (whI AM c lb body n j)
  | 0, j => by rw [whI]; exact hr j
  | n + 1, j => by
    rw [whI]
    split
    · exact hs j
    · exact ht _ _ _ (ht _ _ _ (hu j) (hb _)) (whI_rel hr ht hs hu hb n _)
def cnt (j : Jb) (m : Nat) : Int := j.cn.getD m 0
/-- The counts as they are, but for how they belong together. -/
def Rl (F : (Nat → Int) → (Nat → Int) → Prop) (j j' : Jb) : Prop := j.cn.length = 39 → j'.cn.length = 39 ∧ F (cnt j) (cnt j')
theorem Rl.refl {F : (Nat → Int) → (Nat → Int) → Prop} (hF : ∀ a, F a a) (j : Jb) : Rl F j j := fun h => ⟨h, hF _⟩
theorem Rl.trans {F : (Nat → Int) → (Nat → Int) → Prop} (hF : ∀ a b c, F a b → F b c → F a c) (i j k : Jb) (h : Rl F i j) (h' : Rl F j k) : Rl F i k := fun hl => ⟨(h' (h hl).1).1, hF _ _ _ (h hl).2 (h' (h hl).1).2⟩
theorem Rl.same {F : (Nat → Int) → (Nat → Int) → Prop} (hF : ∀ a, F a a) {j j' : Jb} (h : j'.cn = j.cn) : Rl F j j' := fun hl => ⟨by rw [h]; exact hl, (show cnt j' = cnt j by funext m; unfold cnt; rw [h]) ▸ hF _⟩
/-- An if's count is what its sides' are. -/
def FIf (k : Nat) (a b : Nat → Int) : Prop := b (3 * k) - b (3 * k + 1) - b (3 * k + 2) = a (3 * k) - a (3 * k + 1) - a (3 * k + 2)
/-- A while is left as often as it is reached, and begun at most 32 times as often. -/
def FWh (k : Nat) (a b : Nat → Int) : Prop := b (3 * k) - b (3 * k + 2) = a (3 * k) - a (3 * k + 2) ∧ 32 * a (3 * k) - a (3 * k + 1) ≤ 32 * b (3 * k) - b (3 * k + 1)
def F0 (a b : Nat → Int) : Prop := ∀ m, m < 3 → b m = a m
theorem FIf.refl (k : Nat) (a : Nat → Int) : FIf k a a := rfl
theorem FIf.trans (k : Nat) (a b c : Nat → Int) (h : FIf k a b) (h' : FIf k b c) : FIf k a c := by unfold FIf at *; omega
theorem FWh.refl (k : Nat) (a : Nat → Int) : FWh k a a := ⟨rfl, Int.le_refl _⟩
theorem FWh.trans (k : Nat) (a b c : Nat → Int) (h : FWh k a b) (h' : FWh k b c) : FWh k a c := by unfold FWh at *; omega
theorem F0.trans (a b c : Nat → Int) (h : F0 a b) (h' : F0 b c) : F0 a c := fun m hm => (h' m hm).trans (h m hm)
def p0 (kd : Int) (_ : ByteArray) (lb _ : Int) : Bool := if kd = 3 ∨ kd = 4 then decide (1 ≤ lb) && decide (lb ≤ 12) else true
def pSt (x : ByteArray) (kd : Int) (nm : ByteArray) (_ _ : Int) : Bool := !(decide (kd = 2) && decide (nm = x))
theorem run_cb {AM : AMt} {x : ByteArray} (hx : ∀ nm, aget AM nm = some false → nm = x) : ∀ l : List Sm, Sm.evs (pSt x) l = true → ∀ j, (runL AM l j).cb = j.cb := by
  refine run_rel (R := fun j j' => j'.cb = j.cb) (fun j => rfl) (fun a b c h h' => h'.trans h) (fun j V => rfl) ?_ (fun nm lb mx j _ => ⟨rfl, rfl⟩) ?_
  · intro j nm i n lb mx h
    unfold pSt at h
    have hn : nm ≠ x := by
      intro e
      rw [e, decide_eq_true rfl, decide_eq_true rfl] at h
      cases h
    show (j.put AM nm i n).cb = j.cb
    unfold Jb.put
    split
    · rfl
    · rfl
    · rename_i e
      exact absurd (hx nm e) hn
  · intro nm c lb mx body j _ hb
    show (whI AM c lb body mx.toNat (j.up (3 * lb))).cb = j.cb
    have := whI_rel (AM := AM) (R := fun j j' => j'.cb = j.cb) (fun j => rfl) (fun a b c h h' => h'.trans h) (c := c) (lb := lb) (body := body) (fun j => rfl) (fun j => rfl) hb mx.toNat (j.up (3 * lb))
    exact this
end
end Go.Proofs.YtalkkcfojplmdaaGreatDoor
end

section
namespace Go.Proofs.YtalkkcfojplmdaaGreatDoor
open Go.Vc
set_option maxHeartbeats 1000000

abbrev Na : ByteArray := ⟨#[97]⟩
abbrev Nbuf : ByteArray := ⟨#[98, 117, 102]⟩
theorem ar_names {l : List Arr} (h : ArG l) : l.map (·.1) = [] ∨ l.map (·.1) = [Na] := by
  rcases h with rfl | ⟨k, _, rfl⟩
  · exact .inl rfl
  · exact .inr rfl
theorem sh_names {R : List ByteArray} {l : List Shd} (h : ShG R l) : l.map (·.1) = [] ∨ l.map (·.1) = [Nbuf] := by
  rcases h with rfl | ⟨r, k, _, _, rfl⟩
  · exact .inl rfl
  · exact .inr rfl
theorem in_names {l : List Inp} (h : l.length ≤ 2 ∧ InG l.length l) : l.map (·.1) = [] ∨ l.map (·.1) = [⟨#[120]⟩] ∨ l.map (·.1) = XY := by
  rw [h.2.1]
  have : l.length = 0 ∨ l.length = 1 ∨ l.length = 2 := by omega
  rcases this with e | e | e <;> rw [e]
  · exact .inl rfl
  · exact .inr (.inl rfl)
  · exact .inr (.inr rfl)
theorem made_names {R : List ByteArray} {sh : List Shd} {nm : ByteArray} {W : Int} {t : Tk} (hSh : ShG R sh) (h : TaskG sh nm W t) : dupB (scaL t ++ arrL sh t) = false := by
  unfold scaL arrL
  rw [h.vars]
  rcases in_names h.inputs with e1 | e1 | e1 <;> rcases ar_names h.arrays with e2 | e2 <;> rcases sh_names hSh with e3 | e3 <;> rw [e1, e2, e3] <;> decide +kernel
theorem sh_use {R : List ByteArray} {sh : List Shd} {A : List ByteArray} (hSh : ShG R sh) (hA : A = [] ∨ A = [Na]) : ∀ hs, ∀ s ∈ usableF A sh hs, s ∈ A ++ sh.map (·.1) ∧ allowB sh hs s = true := by
  intro hs s hm
  unfold usableF at hm
  rcases List.mem_append.1 hm with hm | hm
  · refine ⟨List.mem_append_left _ hm, ?_⟩
    rcases hA with rfl | rfl
    · cases hm
    · have e : s = Na := List.mem_singleton.1 hm
      subst e
      rcases hSh with rfl | ⟨r, k, _, _, rfl⟩
      · rfl
      · unfold allowB
        simp only [List.all_cons, List.all_nil, Bool.and_true, Bool.or_eq_true, Bool.not_eq_true', decide_eq_false_iff_not]
        exact .inl (by decide)
  · obtain ⟨x, hx, he⟩ := List.mem_filterMap.1 hm
    split at he
    · rename_i hh
      have e : x.1 = s := Option.some.inj he
      subst e
      refine ⟨List.mem_append_right _ (List.mem_map_of_mem hx), ?_⟩
      rcases hSh with rfl | ⟨r, k, _, _, rfl⟩
      · cases hx
      · rw [List.mem_singleton.1 hx] at hh
        unfold allowB
        simp only [List.all_cons, List.all_nil, Bool.and_true, Bool.or_eq_true, decide_eq_true_eq]
        exact .inr hh
    · cases he
theorem pow_size {k : Nat} (h : k ≤ 3) : sizeB ((2 : Int) ^ k) = true := by
  have : k = 0 ∨ k = 1 ∨ k = 2 ∨ k = 3 := by omega
  rcases this with rfl | rfl | rfl | rfl <;> decide
/-- A made task is right. -/
theorem task_right {R : List ByteArray} {n : Nat} {sh : List Shd} {nm : ByteArray} {W : Int} {t : Tk} (hR : R = RSl n) (hSh : ShG R sh) (hW : W ≤ 2000) (h : TaskG sh nm W t) :
    limT t = true ∧ namT R sh t = true ∧ ranT t = true ∧ labT t = true ∧ Sm.lcks sh ⟨#[]⟩ t.body = true ∧ wAll 20 t.body 0 ≤ 2000 := by
  have hmd := h.md (nms_of hR hSh h)
  obtain ⟨lab, l, m, hl, hb⟩ := h.body
  have hRr : ∀ x ∈ sh, x.2.2 ∈ R := by
    rcases hSh with rfl | ⟨r, k, hr, _, rfl⟩
    · simp
    · intro x hx
      rw [List.mem_singleton.1 hx]
      exact List.mem_of_getElem? hr
  obtain ⟨_, g⟩ := bl_all (StG.rgt (vs := scaL t) (ar := arrL sh t) (rs := R) (fun s hs => by unfold scaL; rw [h.vars]; exact hs) (sh_use hSh (ar_names h.arrays)) hRr 3 0 E0) hl (Int.le_refl _)
  obtain ⟨a1, a2, a3⟩ := rgt_all (l := t.body) (fun s hs => g s (by rw [hb] at hs; exact List.mem_of_mem_take hs))
  have hlb := bl_lab (StG.lab 3 0 E0) hl (Int.le_refl _) (by omega)
  have hsub : (Sm.lbss isIW t.body).Sublist (seqI 0 (lab - 0).toNat) := by rw [hb, ← hlb.2.2]; exact Sm.lbss_take _ _ _
  have hnd : (Sm.lbss isIW t.body).Nodup := hsub.nodup (seqI_nodup _ _)
  have hnd2 : (Sm.lbss isIf t.body).Nodup := (Sm.lbss_sub t.body).nodup hnd
  have hlen1 : t.arrays.length ≤ 1 := by rcases h.arrays with e | ⟨k, _, e⟩ <;> rw [e] <;> simp
  have hlen2 : t.modes.length ≤ 1 := by rcases h.modes with e | ⟨x, lo, hi, _, _, e⟩ <;> rw [e] <;> simp
  have hlen3 : t.claims.length ≤ 1 := by rcases h.claims with e | ⟨a, b, _, _, _, e⟩ <;> rw [e] <;> simp
  have hlen4 : t.vars.length = 3 := by rw [h.vars]; rfl
  have hlen5 := h.inputs.1
  have hcnt := h.size.2
  have hpe := h.period
  have hde := h.deadline
  have hpr := h.priority
  have hji := h.jitter
  refine ⟨?_, ?_, ?_, ?_, a3, by have := h.weight; omega⟩
  · unfold limT
    simp only [Bool.and_eq_true, decide_eq_true_eq]
    omega
  · unfold namT
    simp only [Bool.and_eq_true, Bool.not_eq_true']
    refine ⟨⟨⟨?_, ?_⟩, made_names hSh h⟩, a1⟩
    · rcases h.modes with e | ⟨x, lo, hi, hx, _, e⟩
      · rw [e]; rfl
      · rw [e]
        simp only [List.all_cons, List.all_nil, Bool.and_true]
        exact hasB_iff.2 (List.mem_map_of_mem (List.mem_of_getElem? hx))
    · rcases h.modes with e | ⟨x, lo, hi, hx, _, e⟩ <;> rw [e] <;> rfl
  · unfold ranT
    simp only [Bool.and_eq_true, decide_eq_true_eq]
    refine ⟨⟨⟨⟨⟨⟨⟨⟨⟨⟨⟨by omega, by omega⟩, by omega⟩, by omega⟩, by omega⟩, by omega⟩, by omega⟩, by omega⟩, a2⟩, ?_⟩, ?_⟩, ?_⟩
    · rcases h.arrays with e | ⟨k, hk, e⟩
      · rw [e]; rfl
      · rw [e]
        simp only [List.all_cons, List.all_nil, Bool.and_true]
        exact pow_size hk
    · rw [List.all_eq_true]
      intro x hx
      exact decide_eq_true (h.inputs.2.2 x hx).2.1
    · rw [List.all_eq_true]
      intro md hm
      rcases h.modes with e | ⟨x, lo, hi, hx, hb2, e⟩
      · rw [e] at hm; cases hm
      · rw [e] at hm
        rw [List.mem_singleton.1 hm]
        unfold ranM
        rw [List.all_eq_true]
        intro y hy
        simp only [Bool.or_eq_true, Bool.and_eq_true, decide_eq_true_eq, Bool.not_eq_true', decide_eq_false_iff_not]
        by_cases hxy : y.1 = x.1
        · right
          have hdup : (t.inputs.map (·.1)).Nodup := by
            rcases in_names h.inputs with e1 | e1 | e1 <;> rw [e1] <;> exact dupB_nodup.1 (by decide +kernel)
          have : y = x := by
            obtain ⟨i, hi1, rfl⟩ := List.mem_iff_getElem.1 hy
            obtain ⟨hj1, rfl⟩ := List.getElem?_eq_some_iff.1 hx
            have := (List.getElem_inj (i := i) (j := 0) hdup (h₀ := by rw [List.length_map]; exact hi1) (h₁ := by rw [List.length_map]; exact hj1)).1 (by rw [List.getElem_map, List.getElem_map]; exact hxy)
            simp [this]
          rw [this]
          exact ⟨⟨hb2.2.1, hb2.1⟩, hb2.2.2⟩
        · exact .inl hxy
  · unfold labT
    simp only [Bool.and_eq_true, Bool.not_eq_true']
    refine ⟨⟨?_, dupI_nodup.2 hnd⟩, ?_⟩
    · rw [List.all_eq_true]
      intro k hk
      have := seqI_mem (hsub.subset hk)
      have := hlb.2.1
      simp only [Bool.and_eq_true, decide_eq_true_eq]
      have := hlb.1
      omega
    · rcases h.claims with e | ⟨a, b, ha, hb2, hab, e⟩
      · rw [e]; rfl
      · rw [e]
        have ei := ifs_lbs hmd
        simp only [List.all_cons, List.all_nil, Bool.and_true, Bool.and_eq_true, Bool.not_eq_true', decide_eq_false_iff_not]
        refine ⟨⟨fun hh => hab ?_, ?_⟩, ?_⟩
        · rw [← ei] at hnd2
          exact (List.getElem_inj hnd2).1 hh
        · rw [← ei]; exact hasI_iff.2 (List.getElem_mem ha)
        · rw [← ei]; exact hasI_iff.2 (List.getElem_mem hb2)
theorem nmT_inj {i j : Nat} (hi : i < 6) (hj : j < 6) (h : nmT i = nmT j) : i = j := by
  have : ∀ i : Fin 6, ∀ j : Fin 6, nmT i.1 = nmT j.1 → i = j := by decide +kernel
  have := this ⟨i, hi⟩ ⟨j, hj⟩ h
  simpa using this
/-- A made program is right. -/
structure Right (p : Pg) : Prop where
  lim : limB p = true
  nam : namB p = true
  ran : ranB p = true
  lab : ∀ t ∈ p.tasks, labT t = true
  lck : ∀ t ∈ p.tasks, Sm.lcks p.shared ⟨#[]⟩ t.body = true
  wgt : ∀ t ∈ p.tasks, wAll 20 t.body 0 ≤ 2000
theorem made_right {T : Nat} {W : Int} {p : Pg} (hT : 1 ≤ T ∧ T ≤ 6) (hW : W ≤ 2000) (h : PgG T W p) : Right p := by
  obtain ⟨n, hn, hR⟩ := h.res
  have hlen := h.len
  have htk : ∀ t ∈ p.tasks, limT t = true ∧ namT p.res p.shared t = true ∧ ranT t = true ∧ labT t = true ∧ Sm.lcks p.shared ⟨#[]⟩ t.body = true ∧ wAll 20 t.body 0 ≤ 2000 := fun t ht => by
    obtain ⟨i, hi, rfl⟩ := List.mem_iff_getElem.1 ht
    exact task_right hR h.shared hW (h.tasks i hi)
  have hsl : p.shared.length ≤ 1 := by rcases h.shared with e | ⟨r, k, _, _, e⟩ <;> rw [e] <;> simp
  have hrl : p.res.length ≤ 2 := by rw [hR]; rcases n with _ | _ | n <;> simp [RSl]
  refine ⟨?_, ?_, ?_, fun t ht => (htk t ht).2.2.2.1, fun t ht => (htk t ht).2.2.2.2.1, fun t ht => (htk t ht).2.2.2.2.2⟩
  · unfold limB
    simp only [Bool.and_eq_true, decide_eq_true_eq, List.all_eq_true]
    exact ⟨⟨⟨⟨by omega, by omega⟩, by omega⟩, by omega⟩, fun t ht => (htk t ht).1⟩
  · unfold namB
    simp only [Bool.and_eq_true, Bool.not_eq_true', List.all_eq_true]
    refine ⟨⟨⟨?_, ?_⟩, ?_⟩, fun t ht => (htk t ht).2.1⟩
    · rw [hR]
      rcases n with _ | _ | n
      · rfl
      · decide +kernel
      · show dupB [Nr, Ns] = false
        decide +kernel
    · rw [dupB_nodup]
      unfold List.Nodup
      rw [List.pairwise_iff_getElem]
      intro i j hi hj hij he
      rw [List.length_map] at hi hj
      rw [List.getElem_map, List.getElem_map, (h.tasks i hi).name, (h.tasks j hj).name] at he
      have := nmT_inj (by omega) (by omega) he
      omega
    · intro x hx
      rcases h.shared with e | ⟨r, k, hr, _, e⟩
      · rw [e] at hx; cases hx
      · rw [e] at hx
        rw [List.mem_singleton.1 hx]
        exact hasB_iff.2 (List.mem_of_getElem? hr)
  · unfold ranB
    simp only [Bool.and_eq_true, List.all_eq_true]
    refine ⟨fun x hx => ?_, fun t ht => (htk t ht).2.2.1⟩
    rcases h.shared with e | ⟨r, k, hr, hk, e⟩
    · rw [e] at hx; cases hx
    · rw [e] at hx
      rw [List.mem_singleton.1 hx]
      exact pow_size hk
end Go.Proofs.YtalkkcfojplmdaaGreatDoor
end

section
namespace Go.Proofs.YtalkkcfojplmdaaGreatDoor
open Go.Vc
attribute [local irreducible] progT StG BlG
set_option maxHeartbeats 1000000

theorem md_lns : ∀ (n : Nat) (l : List Sm), (∀ s ∈ l, mdS n s) → Sm.lnss l
  | _, [], _ => trivial
  | 0, s :: l, h => (h s (List.mem_cons_self ..)).elim
  | n + 1, s :: l, h => by
    have h1 := h s (List.mem_cons_self ..)
    have h2 := md_lns (n + 1) l (fun u hu => h u (List.mem_cons_of_mem _ hu))
    rw [Sm.lnss]
    refine ⟨?_, h2⟩
    unfold mdS at h1
    rcases h1 with ⟨v, x, _, _, rfl⟩ | ⟨v, y, x, _, _, _, rfl⟩ | ⟨x, lab, t, e, _, _, ht, he, rfl⟩ | ⟨x, mx, lab, t, _, _, _, ht, rfl⟩ | ⟨v, t, _, ht, rfl⟩
    · rw [Sm.lns]; exact ⟨by simp, by simp, md_lns n [] (by simp), md_lns n [] (by simp)⟩
    · rw [Sm.lns]; exact ⟨by simp, by simp, md_lns n [] (by simp), md_lns n [] (by simp)⟩
    · rw [Sm.lns]; exact ⟨by simp, by simp, md_lns n t ht, md_lns n e he⟩
    · rw [Sm.lns]; exact ⟨by simp, by simp, md_lns n t ht, md_lns n [] (by simp)⟩
    · rw [Sm.lns]; exact ⟨by simp, by simp, md_lns n t ht, md_lns n [] (by simp)⟩
theorem made_ok {T : Nat} {W : Int} {p : Pg} (hT : T ≤ 6) (h : PgG T W p) : PgOk p := ⟨h.sz (by omega), fun t ht => md_lns 4 t.body (h.md t ht)⟩
/-- A program that is right, and can be printed, has no error. -/
theorem ck_right {p : Pg} (h1 : okPg p = true) (h2 : p.tasks.any (fun t => dpF 8 t.body) = false) (h3 : (progT p).size ≤ 8192) (hR : Right p) : ckF p = 0 := by
  have h0 : (progF p).2 = 0 := by
    unfold progF
    rw [if_neg (by rw [h1]; decide), if_neg (by rw [h2]; decide), if_neg (by omega)]
  have hlab : p.tasks.all labF = true := by
    rw [List.all_eq_true]
    intro t ht
    rw [List.any_eq_false] at h2
    have hd := h2 t ht
    rw [labF_labT (by revert hd; cases dpF 8 t.body <;> simp)]
    exact hR.lab t ht
  have hlck : p.tasks.all (fun t => Sm.lcks p.shared ⟨#[]⟩ t.body) = true := List.all_eq_true.2 hR.lck
  have hwgt : p.tasks.all (fun t => decide (wAll 20 t.body 0 ≤ 2000)) = true := List.all_eq_true.2 (fun t ht => decide_eq_true (hR.wgt t ht))
  unfold ckF
  rw [if_neg (by rw [h0]; decide), if_neg (by rw [hR.lim]; decide), if_neg (by rw [hR.nam]; decide), if_neg (by rw [hR.ran]; decide), if_neg (by rw [hlab]; decide), if_neg (by rw [hlck]; decide), if_neg (by rw [hwgt]; decide)]
theorem made_ck {T : Nat} {W : Int} {p : Pg} (hT : 1 ≤ T ∧ T ≤ 4) (hW : W ≤ 2000) (h : PgG T W p) : ckF p = 0 := by
  obtain ⟨h1, h2, h3⟩ := prog_okT hT.2 h
  exact ck_right h1 h2 h3 (made_right (by omega) hW h)
theorem made_arr {Sh : List Shd} {nm : ByteArray} {W : Int} {t : Tk} (h : TaskG Sh nm W t) : t.arrays.length ≤ 1 := by
  rcases h.arrays with e | ⟨k, _, e⟩ <;> rw [e] <;> simp
theorem made_shl {R : List ByteArray} {l : List Shd} (h : ShG R l) : l.length ≤ 1 := by
  rcases h with e | ⟨r, k, _, _, e⟩ <;> rw [e] <;> simp
theorem made_rn {T : Nat} {W : Int} {p : Pg} (h : PgG T W p) : ckF p = 0 → ∀ t ∈ p.tasks, Rn p t := fun hc t ht => by
  obtain ⟨i, hi, rfl⟩ := List.mem_iff_getElem.1 ht
  exact rn_of hc ht (made_arr (h.tasks i hi)) (made_shl h.shared)
/-- The ranges of a made task's inputs. -/
def InZ (l : List Inp) : Prop := l.length ≤ 2 ∧ ∀ x ∈ l, -2 ≤ x.2.1 ∧ x.2.1 ≤ x.2.2 ∧ x.2.2 ≤ 14
theorem made_inz {Sh : List Shd} {nm : ByteArray} {W : Int} {t : Tk} (h : TaskG Sh nm W t) : InZ t.inputs := ⟨h.inputs.1, fun x hx => by have := h.inputs.2.2 x hx; omega⟩
def ShZ (l : List Shd) : Prop := l.length ≤ 1 ∧ ∀ x ∈ l, 1 ≤ x.2.1 ∧ x.2.1 ≤ 16
theorem made_shz {R : List ByteArray} {l : List Shd} (h : ShG R l) : ShZ l := by
  refine ⟨made_shl h, fun x hx => ?_⟩
  rcases h with e | ⟨r, k, _, hk, e⟩
  · rw [e] at hx; cases hx
  · rw [e] at hx
    rw [List.mem_singleton.1 hx]
    exact sizeB_le (pow_size hk)
theorem runF_in {p : Pg} {k : Nat} (h0 : ckF p = 0) (hk : k < p.tasks.length) {ins : List Int} {ss : List (List Int)} (hi : fitB (p.tasks[k]).inputs ins = true) (hs : filB p.shared ss = true) : runF p (k : Int) ins ss = (runO p p.tasks[k] ins ss, 0) := by
  have e : p.tasks.getD ((k : Int)).toNat tk0 = p.tasks[k] := by
    rw [show ((k : Int)).toNat = k by omega, List.getD_eq_getElem?_getD, List.getElem?_eq_getElem hk]
    rfl
  unfold runF
  rw [if_neg (fun h => h h0), if_pos ⟨by omega, by omega⟩, e, if_neg (by rw [hi]; decide), if_neg (by rw [hs]; decide)]
end Go.Proofs.YtalkkcfojplmdaaGreatDoor
end

section
namespace Go.Proofs.YtalkkcfojplmdaaGreatDoor
open Go.Vc
attribute [local irreducible] progT StG BlG
set_option maxHeartbeats 1000000

abbrev Nt : ByteArray := ⟨#[116]⟩
/-- An expression of at most five parts. -/
structure Ez (x : T) : Prop where
  fm : Fm x
  use : useB VS [] x = true
  wd : wdT x = true
  txt : (textT x).size ≤ 40
  wp : wPartsL [x] 20 0 ≤ 5
  fr : ∀ h, freeB [] h x = true
structure Ql (n w z c : Nat) (labs : List Int) (l : List Sm) : Prop where
  md : ∀ s ∈ l, mdS n s
  txt : ∀ sp : ByteArray, sp.size + 2 * n ≤ 20 → (stsT sp l).size ≤ z
  szs : Sm.szs l ≤ c
  nms : Sm.nmss VS [] [] l = true
  wds : Sm.wdss l = true
  lbs : Sm.lbss isIW l = labs
  lck : ∀ h, Sm.lcks [] h l = true
  wgt : ∀ f (m : Int), n ≤ f → 0 ≤ m → wAll f l m ≤ m + w
theorem lim_le (n : Int) : lim n ≤ n := by unfold lim; omega
theorem wAll_app (f : Nat) : ∀ (l m : List Sm) (n : Int), wAll f (l ++ m) n = wAll f m (wAll f l n)
  | [], m, n => by rw [List.nil_append, wAll]
  | s :: l, m, n => by rw [List.cons_append, wAll, wAll, wAll_app f l m]
theorem wAll_nn (f : Nat) : ∀ (l : List Sm) (n : Int), 0 ≤ n → 0 ≤ wAll f l n
  | [], n, h => by rw [wAll]; exact h
  | s :: l, n, h => by rw [wAll]; exact wAll_nn f l _ (lim_bd _ (by have := wOne_bd f s; omega)).1
theorem mdS_mono : ∀ (n : Nat) (s : Sm), mdS n s → mdS (n + 1) s
  | 0, _, h => h.elim
  | n + 1, s, h => by
    unfold mdS at h ⊢
    rcases h with h | h | ⟨x, lab, t, e, hx, hl, ht, he, rfl⟩ | ⟨x, mx, lab, t, hx, hm, hl, ht, rfl⟩ | ⟨v, t, hv, ht, rfl⟩
    · exact .inl h
    · exact .inr (.inl h)
    · exact .inr (.inr (.inl ⟨x, lab, t, e, hx, hl, fun u hu => mdS_mono n u (ht u hu), fun u hu => mdS_mono n u (he u hu), rfl⟩))
    · exact .inr (.inr (.inr (.inl ⟨x, mx, lab, t, hx, hm, hl, fun u hu => mdS_mono n u (ht u hu), rfl⟩)))
    · exact .inr (.inr (.inr (.inr ⟨v, t, hv, fun u hu => mdS_mono n u (ht u hu), rfl⟩)))
theorem Ql.nil (n : Nat) : Ql n 0 0 0 [] [] := ⟨by simp, fun _ _ => by rw [stsT]; exact Nat.le_refl _, Nat.le_refl _, rfl, rfl, rfl, fun _ => rfl, fun f m _ _ => by rw [wAll]; omega⟩
theorem Ql.app {n w1 z1 c1 w2 z2 c2 : Nat} {la lb : List Int} {l m : List Sm} (h : Ql n w1 z1 c1 la l) (g : Ql n w2 z2 c2 lb m) : Ql n (w1 + w2) (z1 + z2) (c1 + c2) (la ++ lb) (l ++ m) := by
  refine ⟨fun s hs => ?_, fun sp hsp => ?_, ?_, ?_, ?_, ?_, fun hd => ?_, fun f k hf hk => ?_⟩
  · rcases List.mem_append.1 hs with hs | hs
    · exact h.md s hs
    · exact g.md s hs
  · rw [stsT_app, ByteArray.size_append]
    have := h.txt sp hsp
    have := g.txt sp hsp
    omega
  · rw [Sm.szs_app]; have := h.szs; have := g.szs; omega
  · have := h.nms; have := g.nms
    rw [Sm.nmss_all, List.all_append, ← Sm.nmss_all, ← Sm.nmss_all, h.nms, g.nms]; rfl
  · rw [Sm.wdss_all, List.all_append, ← Sm.wdss_all, ← Sm.wdss_all, h.wds, g.wds]; rfl
  · rw [Sm.lbss_app, h.lbs, g.lbs]
  · rw [Sm.lcks_all, List.all_append, ← Sm.lcks_all, ← Sm.lcks_all, h.lck, g.lck]; rfl
  · rw [wAll_app]
    have h1 := h.wgt f k hf hk
    have h2 := g.wgt f (wAll f l k) hf (wAll_nn f l k hk)
    omega
theorem Ql.up {n w z c : Nat} {la : List Int} {l : List Sm} (h : Ql n w z c la l) : Ql (n + 1) w z c la l :=
  ⟨fun s hs => mdS_mono n s (h.md s hs), fun sp hsp => h.txt sp (by omega), h.szs, h.nms, h.wds, h.lbs, h.lck, fun f m hf hm => h.wgt f m (by omega) hm⟩
theorem Ql.mono {n w z c w' z' c' : Nat} {la : List Int} {l : List Sm} (h : Ql n w z c la l) (hw : w ≤ w') (hz : z ≤ z') (hc : c ≤ c') : Ql n w' z' c' la l :=
  ⟨h.md, fun sp hsp => Nat.le_trans (h.txt sp hsp) hz, Nat.le_trans h.szs hc, h.nms, h.wds, h.lbs, h.lck, fun f m hf hm => by have := h.wgt f m hf hm; omega⟩
theorem VS_ok {s : ByteArray} (h : s ∈ VS) : nmOk s ∧ s.size = 1 ∧ hasB VS s = true := by
  simp only [List.mem_cons, List.not_mem_nil, or_false] at h
  rcases h with rfl | rfl | rfl <;> exact ⟨nmOk_lit (by decide +kernel), by decide, by decide +kernel⟩
theorem one_le (f : Nat) (s : Sm) (m : Int) : wAll f [s] m ≤ m + wOne f s := by rw [wAll, wAll]; exact lim_le _
theorem Ql.set {v : ByteArray} {x : T} (n : Nat) (hv : v ∈ VS) (hx : Ez x) : Ql (n + 1) 6 66 1 [] [.mk 1 v [] [x] 0 0 [] []] := by
  have hv := VS_ok hv
  refine ⟨fun s hs => ?_, fun sp hsp => ?_, by simp [Sm.szs, Sm.sz], ?_, ?_, rfl, fun hd => ?_, fun f m hf hm => ?_⟩
  · rw [List.mem_singleton.1 hs]; exact .inl ⟨v, x, hv.1, hx.fm, rfl⟩
  · rw [stsT, stsT, stT_leaf sp (.inl rfl), ByteArray.size_append, ByteArray.size_append]
    have := hx.txt
    simp only [hdT, Sm.kind, Sm.name, Sm.value, tx1, if_true, ByteArray.size_append, show Kst.size = 3 from rfl, show Knl.size = 1 from rfl, ba_lit, List.length_nil]
    omega
  · simp [Sm.nmss, Sm.nms, hv.2.2, hx.use]
  · simp [Sm.wdss, Sm.wds, hx.wd]
  · simp [Sm.lcks, Sm.lck, hx.fr]
  · obtain ⟨g, rfl⟩ : ∃ g, f = g + 1 := ⟨f - 1, by omega⟩
    refine Int.le_trans (one_le _ _ _) ?_
    rw [wOne, if_pos (.inl rfl)]
    have h1 := lim_le (1 + wPartsL (Sm.mk 1 v [] [x] 0 0 [] []).index 20 0 + wPartsL (Sm.mk 1 v [] [x] 0 0 [] []).value 20 0)
    have h2 : wPartsL (Sm.mk 1 v [] [x] 0 0 [] []).index 20 0 = 0 := rfl
    have h3 : wPartsL (Sm.mk 1 v [] [x] 0 0 [] []).value 20 0 = wPartsL [x] 20 0 := rfl
    have := hx.wp
    omega
/-- The same values, by every name. -/
def VEq (V V' : List (ByteArray × Int)) : Prop := ∀ s, (aget V s).getD 0 = (aget V' s).getD 0
theorem VEq.set {V V' : List (ByteArray × Int)} (h : VEq V V') (k : ByteArray) (v : Int) : VEq (aset V k v) (aset V' k v) := fun s => by
  rw [aget_aset, aget_aset]
  split
  · rfl
  · exact h s
end Go.Proofs.YtalkkcfojplmdaaGreatDoor
end

section
namespace Go.Vc
open Go.RowKit
def SLes : List S → List S → Prop
  | [], [] => True
  | s :: ss, t :: tt => SLe s t ∧ SLes ss tt
  | _, _ => False
theorem sles_ok {w : World} {A : Nat → Prop} : ∀ {ss tt : List S}, SLes ss tt → ∀ vs, SOks w A ss vs → SOks w A tt vs
  | [], [], _, _, h => h
  | s :: ss, t :: tt, hh, vs, h => by
    obtain ⟨v, r, rfl, h1, h2⟩ := h
    exact ⟨v, r, rfl, hh.1 _ _ _ h1, sles_ok hh.2 r h2⟩
  | [], _ :: _, hh, _, _ => hh.elim
  | _ :: _, [], hh, _, _ => hh.elim
theorem con_args {P : Program} [Gl P] {f : FuncId} {ss ss' : List S} {Hin : List Ch} {post : (S → List Ch → Prop) → Prop} (con : Con P f ss Hin post) (h : SLes ss' ss) : Con P f ss' Hin post :=
  fun vs w A h1 h2 h3 h4 h5 h6 => con vs w A h1 h2 h3 (sles_ok h vs h4) h5 h6
section
variable {P : Program} [Gl P] {nt : Nat} {c : Cx P nt} {env : Env} {H Hr : List Ch} {L : List (Nat × List Value × TypeId)} {t ty : TypeId} {pos : String} {af : Array Edge} {x : Operand}
theorem hok_loadAllK {d : Option Tmp} {b : Nat} {row : List C} {bt : TypeId} {cs : List Value} [TI P t] (j : Nat) (ha : aggB (TI.u P t) = true) (hx : env.ev x = some (.cell (.val (.pointer (some ⟨b, 0, none⟩))))) (hp : pick [j] H = some ([.blk b bt row], Hr))
    (hm : (b, cs, bt) ∈ L) (hz : (TI.i P t).size = row.length) : HOk c (Keep L) env H ⟨d, .load t x, ty, pos, af, none⟩ (.row (row.map unk)) :=
  fun a w hst hS => by
    obtain ⟨v, h1, cs', h2, h3⟩ := hok_loadAll (d := d) (ty := ty) (pos := pos) (af := af) j ha hx hp hm hz a w hst hS
    exact ⟨v, h1, cs', h2, rdRow_unk h3⟩
end
section
variable {P : Program} [Gl P] {nt : Nat} {c : Cx P nt} {env : Env} {H Hr : List Ch} {K : S → List Ch → Prop}
end
section
variable {P : Program} [Gl P] {nt : Nat} {c : Cx P nt} {env : Env} {H Hr : List Ch} {ops : Array Oper} {Q : Exit → Act → World → Prop} {Sw : World → Prop}
variable {m fuel : Nat} {listed : Array Bool} {i j d : Nat} {op : Op} {ty : TypeId} {pos : String} {af : Array Edge} {want b : Bool}
end
section
variable {P : Program} [Gl P] {nt : Nat} {c : Cx P nt} {env : Env} {H : List Ch} {Sw : World → Prop} {t ty : TypeId} {pos : String} {af : Array Edge} {x y : Operand} {d : Option Tmp}
end
end Go.Vc
end

section
namespace Go.Proofs.YtalkkcfojplmdaaGreatDoor
open Go.Vc
attribute [local irreducible] JL JC JQ OpWp Con ConN HOk
set_option maxHeartbeats 4000000

abbrev Ni : ByteArray := ⟨#[105]⟩
def cntP : Pg := ⟨[], [], [⟨Nt, 9, 9, 1, 0, [], [Ni], [], [], [], [.mk 1 Ni [] [.nu 0] 0 0 [] [], .mk 4 E0 [] [.bn 11 (.nm Ni) (.nu 3)] 2 1 [.mk 1 Ni [] [.bn 1 (.nm Ni) (.nu 1)] 0 0 [] []] []]⟩]⟩
theorem cnt_ok : PgOk cntP := by
  refine ⟨⟨by decide, by decide, by decide, fun t ht => ?_⟩, fun t ht => ?_⟩
  · rw [List.mem_singleton.1 ht]
    exact ⟨by decide, by decide, by decide, by decide, by decide, by decide⟩
  · rw [List.mem_singleton.1 ht]
    exact ⟨⟨by decide, by decide, trivial, trivial⟩, ⟨by decide, by decide, ⟨⟨by decide, by decide, trivial, trivial⟩, trivial⟩, trivial⟩, trivial⟩
def cntO : Out := ⟨[2], [], [], [1, 0, 0, 1, 2, 1, 0, 0, 0, 0, 0, 0, 0, 0, 0, 0, 0, 0, 0, 0, 0, 0, 0, 0, 0, 0, 0, 0, 0, 0, 0, 0, 0, 0, 0, 0, 0, 0, 0], 5⟩
theorem cnt_w : wAll 20 (cntP.tasks[0]'(by decide)).body 0 ≤ 2000 := by
  show wAll 20 [.mk 1 Ni [] [.nu 0] 0 0 [] [], .mk 4 E0 [] [.bn 11 (.nm Ni) (.nu 3)] 2 1 [.mk 1 Ni [] [.bn 1 (.nm Ni) (.nu 1)] 0 0 [] []] []] 0 ≤ 2000
  simp [wAll, wOne, wPartsL, wParts, wP, T.args, Sm.kind, Sm.index, Sm.value, Sm.thn, Sm.max, lim]
  decide
theorem cnt_ck : ckF cntP = 0 := ck_right (by decide +kernel) (by decide +kernel) (by decide +kernel) ⟨by decide +kernel, by decide +kernel, by decide +kernel, fun t ht => by rw [List.mem_singleton.1 ht]; decide +kernel, fun t ht => by rw [List.mem_singleton.1 ht]; decide +kernel, fun t ht => by rw [List.mem_singleton.1 ht]; exact cnt_w⟩
theorem cnt_runO : runO cntP (cntP.tasks[0]'(by decide)) [] [] = cntO := by kernel_rfl
theorem cnt_run : runF cntP 0 [] [] = (cntO, 0) := by
  have h := runF_in (p := cntP) (k := 0) cnt_ck (by decide) (ins := []) (ss := []) rfl rfl
  rw [cnt_runO] at h
  exact h
theorem cnt_rn : ckF cntP = 0 → ∀ t ∈ cntP.tasks, Rn cntP t := fun h t ht => rn_of h ht (by rw [List.mem_singleton.1 ht]; decide) (by decide)
theorem counting_c : Con Tryz.prog 65 [] [] (fun K => K (.row cntP.row) []) := by
  refine con_intro Tryz.func65 rfl rfl (Nat.le_of_ble_eq_true rfl) (fun c hc => R_ (o_ r_ (bl_ r_ r_ (fun bl => T_ (R_ (o_ r_ (bm_ r_ (gName_c _) (o_ r_ (bl_ r_ r_ (fun bl => S_ 0 r_ (T_ (am_ (jc_anyB 12 (some 11) rfl k_ k_ (aa_ (fun c => bs_ 0 r_ r_ r_ r_ p_) (aa_ (fun c => bm_ r_ (gNum_c _) p_) (aa_ (fun c => bm_ r_ (gBin_c _ _ _) p_) (aa_ (fun c => bq_ r_ r_ b_ r_ r_ b_ p_) ?_)))))))))))))))))
  refine aa_ (fun c => bs_ 0 r_ r_ r_ r_ p_) (aa_ (fun c => bm_ r_ (gNum_c _) p_) (aa_ (fun c => bm_ r_ (gBin_c _ _ _) p_) (aa_ (fun c => bq_ r_ r_ b_ r_ r_ b_ p_) (aa_ (fun c => bu_ r_ r_ r_ r_ r_ p_) (aa_ (fun c => bq_ r_ r_ b_ r_ r_ b_ p_) (aa_ (fun c => bu_ r_ r_ r_ r_ r_ p_) (af_ (ae_ (afin_some rfl rfl rfl (fun bl => S_ 0 r_ (T_ (am_ (jc_anyB 9 none rfl k_ k_ (aa_ (fun c => bq_ r_ r_ b_ r_ r_ b_ p_) ?_))))))))))))))
  refine aa_ (fun c => bm_ r_ (gNum_c _) p_) (aa_ (fun c => bq_ r_ r_ b_ r_ r_ b_ p_) (aa_ (fun c => bu_ r_ r_ r_ r_ r_ p_) (aa_ (fun c => bs_ 0 r_ r_ r_ r_ p_) (aa_ (fun c => bq_ r_ r_ b_ r_ r_ b_ p_) (aa_ (fun c => bu_ r_ r_ r_ r_ r_ p_) (aa_ (fun c => bq_ r_ r_ b_ r_ r_ b_ p_) (aa_ (fun c => bu_ r_ r_ r_ r_ r_ p_) (ae_ (afin_none (S_ 2 r_ (T_ (ar_ (jq_row 0 cntP.row rfl ?_ ?_)))))))))))))
  · (repeat (first | exact RowLe.nil | exact RowsLe.nil | exact CLe.nil | exact CLe.refl _ | refine RowLe.cons ?_ ?_ | refine RowsLe.cons ?_ ?_ | refine CLe.list ?_))
  · refine jq_retRow rfl rfl rfl rfl 0 rfl [] rfl (fun K h => h)
theorem awake6_c : Con Tryz.prog 27 [] [] (fun K => K (Bl true) []) := by
  have hE := con_args (ss' := [.row cntP.row, In .i64 0, .cell (.val (.slice none 0 0)), .cell (.val (.slice none 0 0))]) (eRun_c cntP cnt_ok cnt_rn 0 [] []) ⟨SLe.row (RowLe.refl _), SLe.cell (CLe.refl _), SLe.cell CLe.nil, SLe.cell CLe.nil, trivial⟩
  rw [cnt_run] at hE
  refine con_intro Tryz.func27 rfl rfl (Nat.le_of_ble_eq_true rfl) (fun c hc => R_ (E_ r_ (T_ (R_ (o_ r_ (bm_ r_ (counting_c) (o_ r_ (bm_ r_ (hE) (M_ r_ (X_ r_ (X_ r_ (o_ r_ (bl_ r_ r_ (fun bl => S_ 0 r_ (E_ r_ (T_ (R_ (M_ r_ ?_))))))))))))))))))
  refine o_ r_ (bn_ r_ r_ (M_ r_ (ah_ r_ r_ b_ (bf_ r_ r_ r_ b_ (ah_ r_ r_ b_ (bg_ 0 r_ r_ r_ r_ (ah_ r_ r_ b_ (br_ r_ (fun hlen => ah_ r_ r_ b_ (bn_ r_ r_ (o_ r_ (bp_ r_ x_ r_ (M_ r_ (ah_ r_ r_ b_ (bf_ r_ r_ r_ b_ (ah_ r_ r_ b_ (bg_ 0 r_ r_ r_ r_ (ah_ r_ r_ b_ (ow_indexAddr r_ r_ g_ r_ r_ b_ (ah_ r_ r_ b_ (cb_ r_ r_ (ah_ r_ r_ b_ (bn_ r_ r_ (o_ r_ (bp_ r_ x_ r_ (M_ r_ ?_))))))))))))))))))))))))))
  refine ah_ r_ r_ b_ (bf_ r_ r_ r_ b_ (ah_ r_ r_ b_ (bg_ 0 r_ r_ r_ r_ (ah_ r_ r_ b_ (br_ r_ (fun hlen => ah_ r_ r_ b_ (bn_ r_ r_ (o_ r_ (bp_ r_ x_ r_ (M_ r_ (ah_ r_ r_ b_ (bf_ r_ r_ r_ b_ (ah_ r_ r_ b_ (bg_ 0 r_ r_ r_ r_ (ah_ r_ r_ b_ (ow_indexAddr r_ r_ g_ r_ r_ b_ (ah_ r_ r_ b_ (cb_ r_ r_ (ah_ r_ r_ b_ (bn_ r_ r_ (o_ r_ (bp_ r_ x_ r_ (M_ r_ (ah_ r_ r_ b_ (bf_ r_ r_ r_ b_ ?_)))))))))))))))))))))))))
  refine ah_ r_ r_ b_ (bg_ 0 r_ r_ r_ r_ (ah_ r_ r_ b_ (ow_indexAddr r_ r_ g_ r_ r_ b_ (ah_ r_ r_ b_ (cb_ r_ r_ (ah_ r_ r_ b_ (bn_ r_ r_ (o_ r_ (bp_ r_ x_ r_ (M_ r_ (ah_ r_ r_ b_ (bf_ r_ r_ r_ b_ (ah_ r_ r_ b_ (bg_ 0 r_ r_ r_ r_ (ah_ r_ r_ b_ (ow_indexAddr r_ r_ g_ r_ r_ b_ (ah_ r_ r_ b_ (cb_ r_ r_ (ah_ r_ r_ b_ (bn_ r_ r_ (o_ r_ (bp_ r_ x_ r_ (M_ r_ (ah_ r_ r_ b_ (bf_ r_ r_ r_ b_ ?_)))))))))))))))))))))))))
  refine ah_ r_ r_ b_ (bg_ 0 r_ r_ r_ r_ (ah_ r_ r_ b_ (bn_ r_ r_ (o_ r_ (bp_ r_ x_ r_ (E_ r_ (T_ (ar_ (jq_ret1 rfl rfl [] rfl (fun K h => h))))))))))
end Go.Proofs.YtalkkcfojplmdaaGreatDoor
end

section
namespace Go.Proofs.YtalkkcfojplmdaaGreatDoor
open Go.Vc
attribute [local irreducible] JL JC JQ OpWp Con ConN HOk
set_option maxHeartbeats 4000000

theorem fit_snoc {l : List Inp} {B : List Int} {k : Nat} (hk : k < l.length) (h : fitB (l.take k) B = true) {n : Int} (hn : (l[k]).2.1 ≤ n ∧ n ≤ (l[k]).2.2) : fitB (l.take (k + 1)) (B ++ [n]) = true := by
  unfold fitB at *
  rw [Bool.and_eq_true, decide_eq_true_eq] at *
  obtain ⟨h1, h2⟩ := h
  rw [List.take_succ_eq_append_getElem hk]
  refine ⟨by rw [List.length_append, List.length_append, h1]; rfl, ?_⟩
  rw [List.zip_append h1, List.all_append, h2]
  simp [hn]
theorem fil_snoc {l : List Shd} {B : List (List Int)} {k : Nat} (hk : k < l.length) (h : filB (l.take k) B = true) {a : List Int} (ha : (a.length : Int) = (l[k]).2.1) (hw : a.all wordB = true) : filB (l.take (k + 1)) (B ++ [a]) = true := by
  unfold filB at *
  rw [Bool.and_eq_true, decide_eq_true_eq] at *
  obtain ⟨h1, h2⟩ := h
  rw [List.take_succ_eq_append_getElem hk]
  refine ⟨by rw [List.length_append, List.length_append, h1]; rfl, ?_⟩
  rw [List.zip_append h1, List.all_append, h2]
  simp only [List.zip_cons_cons, List.zip_nil_right, List.all_cons, List.all_nil, Bool.and_true, Bool.true_and, Bool.and_eq_true, decide_eq_true_eq]
  exact ⟨ha, hw⟩
theorem fit_len {l : List Inp} {B : List Int} (h : fitB l B = true) : l.length = B.length := by
  unfold fitB at h
  rw [Bool.and_eq_true, decide_eq_true_eq] at h
  exact h.1
theorem fil_len {l : List Shd} {B : List (List Int)} (h : filB l B = true) : l.length = B.length := by
  unfold filB at h
  rw [Bool.and_eq_true, decide_eq_true_eq] at h
  exact h.1
section
variable {L : List Int} {bd : Nat}
theorem gInputsL_c (hL : InR L) (hLn : L.length ≤ 400) (t : Tk) (hz : InZ t.inputs) :
    Con Tryz.prog 17 [Ptr bd, .row t.row] [Dk bd L] (fun K => ∀ l : List Int, fitB t.inputs l = true → K (.cell (.list (l.map Irow))) [Dk bd L]) := by
  have hz1 := hz.1
  refine con_intro Tryz.func17 rfl rfl (Nat.le_of_ble_eq_true rfl) (fun c hc => R_ (o_ r_ (ci_ r_ (fun bx => E_ r_ (T_ (R_ (E_ r_ (T_ (am_ (R_ (E_ r_ (T_ (au_ (jc_ownNil 3 1 g_ ?_))))))))))))))
  refine jc_loopS (ι := Nat × Value × List Int) [] (fun i => i.1 ≤ (t.inputs).length ∧ i.2.1.oneCell' = true ∧ fitB (t.inputs.take i.1) i.2.2 = true) (fun i => (6, In .i64 (i.1 : Int)) :: [(5, .cell (.val i.2.1)), (3, .cell (.val (.pointer (some ⟨bx, 0, none⟩)))), (0, Ptr bd)]) (fun i => [.own i.2.1 3 1 (i.2.2.map Irow), .blk bx 39 t.row, Dk bd L]) (fun i => (t.inputs).length - i.1) (0, .slice none 0 0, []) ⟨Nat.zero_le _, ⟨rfl, rfl⟩⟩ ?_ ?_ ?_
  · exact bc_ 0 r_ (bc_ 0 r_ (bc_ 0 r_ sub_end))
  · (repeat (first | exact True.intro | refine ⟨rfl, ?_⟩))
  rintro ⟨k, v, B⟩ hz
  dsimp only at hz ⊢
  obtain ⟨hk, ⟨hv, hB⟩⟩ := hz
  have eLk : ((t.inputs).map InRow).length = (t.inputs).length := List.length_map _
  by_cases hltk : k < (t.inputs).length
  · have hltk2 : (k : Int) < (((t.inputs).map InRow).length : Int) := by omega
    have hBl := fit_len hB
    rw [List.length_take] at hBl
    have hbz := hz.2 t.inputs[k] (List.getElem_mem hltk)
    refine am_ (R_ (M_ r_ (F_ r_ (L_ 1 r_ (o_ r_ (br_ r_ (fun hlen => o_ r_ (bw_ r_ r_ (T_ (aq_ r_ u_ (as_ (al_ (B_ (R_ (F_ r_ (L_ 1 r_ (M_ r_ ?_)))))))))))))))))
    refine o_ r_ (cc_ r_ r_ g_ r_ r_ b_ (o_ r_ (cr_ r_ r_ r_ (o_ r_ (bl_ r_ r_ (fun bl => S_ 0 r_ (T_ (jc_hpM 14 (n := 15) rfl 0 k_ rfl (fun cs1 hcs1 hv1 => ?_)))))))))
    obtain ⟨u10, u11, u12, rfl⟩ := len3 hcs1
    obtain rfl := Option.some.inj (hv1 0 _ rfl)
    obtain rfl := Option.some.inj (hv1 1 _ rfl)
    obtain rfl := Option.some.inj (hv1 2 _ rfl)
    refine hp_know 0 rfl mem0 ?_
    dsimp only [List.zipWith, know]
    refine df_ (i := 0) rfl k_ k_ k_ b_ (by (repeat (first | refine pani_then ?_ | refine pani_block ?_)); exact pani_body) (dk_ rfl) ?_
    refine df_ (i := 1) rfl k_ k_ k_ b_ (by (repeat (first | refine pani_then ?_ | refine pani_block ?_)); exact pani_body) (dl_ rfl rfl rfl b_) ?_
    refine df_ (i := 2) rfl k_ k_ k_ b_ (by (repeat (first | refine pani_then ?_ | refine pani_block ?_)); exact pani_body) (dm_ 0 rfl rfl rfl mem0 rfl) ?_
    refine df_ (i := 3) rfl k_ k_ k_ b_ (by (repeat (first | refine pani_then ?_ | refine pani_block ?_)); exact pani_body) (dk_ rfl) ?_
    refine df_ (i := 4) rfl k_ k_ k_ b_ (by (repeat (first | refine pani_then ?_ | refine pani_block ?_)); exact pani_body) (dl_ rfl rfl rfl b_) ?_
    refine df_ (i := 5) rfl k_ k_ k_ b_ (by (repeat (first | refine pani_then ?_ | refine pani_block ?_)); exact pani_body) (dm_ 0 rfl rfl rfl mem0 rfl) ?_
    refine df_ (i := 6) rfl k_ k_ k_ b_ (by (repeat (first | refine pani_then ?_ | refine pani_block ?_)); exact pani_body) (dl_ rfl rfl rfl b_) ?_
    refine df_ (i := 7) rfl k_ k_ k_ b_ (by (repeat (first | refine pani_then ?_ | refine pani_block ?_)); exact pani_body) (dm_ 0 rfl rfl rfl mem0 rfl) ?_
    refine df_ (i := 8) rfl k_ k_ k_ b_ (by (repeat (first | refine pani_then ?_ | refine pani_block ?_)); exact pani_body) (dp_ rfl rfl g_) ?_
    refine df_ (i := 9) rfl k_ k_ k_ b_ (by (repeat (first | refine pani_then ?_ | refine pani_block ?_)); exact pani_body) (do_ rfl rfl g_) ?_
    refine dg_ (i := 10) rfl k_ b_ (bt_ [3] rfl rfl (Nx_c _ hL hLn g_) (fun pp hpp => ⟨?_, ?_⟩))
    exact keepK 1 rfl rfl
    refine df_ (i := 11) rfl k_ k_ k_ b_ (by (repeat (first | refine pani_then ?_ | refine pani_block ?_)); exact pani_body) (do_ rfl rfl g_) ?_
    refine dg_ (i := 12) r_ k_ b_ (bq_ r_ r_ b_ r_ r_ b_ ⟨?_, ?_⟩)
    exact keepK 1 rfl rfl
    refine dg_ (i := 13) rfl k_ b_ (ow_append1 2 ((t.inputs[k]).2.1 + pp) rfl rfl rfl rfl rfl rfl rfl (fun _ => rfl) (by show (_ + 1) * 8 ≤ _ ; first | omega | (simp ; done)) (by first | omega | (simp ; done)) (fun v1 hv1 => ⟨?_, ?_⟩))
    exact keepK 2 rfl rfl
    refine df_ (i := 14) rfl k_ k_ k_ b_ (by (repeat (first | refine pani_then ?_ | refine pani_block ?_)); exact pani_body) (hok_assign rfl) ?_
    refine hp_done k_ (jq_unk _ 2 rfl rfl ?_)
    dsimp only [List.map, unk]
    refine ay_ (al_ (an_ (M_ r_ (o_ r_ (bj_ r_ r_ g_ (E_ r_ (ak_ (jq_againS (i := (k, v, B)) (k + 1, v1, B ++ [(t.inputs[k]).2.1 + pp]) ⟨hltk, hv1, fit_snoc hltk hB g_⟩ (by dsimp only; omega) ?_ ?_))))))))
    · exact bc_ 1 r_ (bc_ 2 r_ (bc_ 1 r_ sub_end))
    · (repeat (first | exact True.intro | refine ⟨rfl, ?_⟩))
  · have hltk2 : ¬ (k : Int) < (((t.inputs).map InRow).length : Int) := by omega
    rw [List.take_of_length_le (by omega)] at hB
    refine am_ (R_ (M_ r_ (F_ r_ (L_ 1 r_ (o_ r_ (br_ r_ (fun hlen => o_ r_ (bw_ r_ r_ (T_ (ap_ r_ w_ (av_ (ax_ (ax_ (ba_ (al_ (R_ (M_ r_ ?_)))))))))))))))))
    refine E_ r_ (T_ (ar_ (jq_freeze 4 0 rfl rfl (by rw [hc]; simp [hb, Ch.bs]) (jq_ret1 rfl rfl [1] rfl (fun K h => h B hB)))))
theorem gSharedL_c (hL : InR L) (hLn : L.length ≤ 400) (p : Pg) (hz : ShZ p.shared) :
    Con Tryz.prog 18 [Ptr bd, .row p.row] [Dk bd L] (fun K => ∀ l : List (List Int), filB p.shared l = true → K (.cell (.list (l.map LRow))) [Dk bd L]) := by
  have hz1 := hz.1
  refine con_intro Tryz.func18 rfl rfl (Nat.le_of_ble_eq_true rfl) (fun c hc => R_ (o_ r_ (ci_ r_ (fun bx => E_ r_ (T_ (R_ (E_ r_ (T_ (am_ (R_ (E_ r_ (T_ (au_ (jc_ownNil 22 1 g_ ?_))))))))))))))
  refine jc_loopS (ι := Nat × Value × List (List Int)) [] (fun i => i.1 ≤ (p.shared).length ∧ i.2.1.oneCell' = true ∧ filB (p.shared.take i.1) i.2.2 = true) (fun i => (6, In .i64 (i.1 : Int)) :: [(5, .cell (.val i.2.1)), (3, .cell (.val (.pointer (some ⟨bx, 0, none⟩)))), (0, Ptr bd)]) (fun i => [.own i.2.1 22 1 (i.2.2.map LRow), .blk bx 31 p.row, Dk bd L]) (fun i => (p.shared).length - i.1) (0, .slice none 0 0, []) ⟨Nat.zero_le _, ⟨rfl, rfl⟩⟩ ?_ ?_ ?_
  · exact bc_ 0 r_ (bc_ 0 r_ (bc_ 0 r_ sub_end))
  · (repeat (first | exact True.intro | refine ⟨rfl, ?_⟩))
  rintro ⟨k, v, B⟩ hz
  dsimp only at hz ⊢
  obtain ⟨hk, ⟨hv, hB⟩⟩ := hz
  have eLk : ((p.shared).map ShRow).length = (p.shared).length := List.length_map _
  by_cases hltk : k < (p.shared).length
  · have hltk2 : (k : Int) < (((p.shared).map ShRow).length : Int) := by omega
    have hBl := fil_len hB
    rw [List.length_take] at hBl
    have hbz := hz.2 p.shared[k] (List.getElem_mem hltk)
    refine am_ (R_ (M_ r_ (F_ r_ (L_ 1 r_ (o_ r_ (br_ r_ (fun hlen => o_ r_ (bw_ r_ r_ (T_ (aq_ r_ u_ (as_ (al_ (B_ (R_ (E_ r_ (T_ (am_ ?_)))))))))))))))))
    refine R_ (E_ r_ (T_ (au_ (jc_ownNil 3 1 g_ ?_))))
    obtain ⟨n, hn⟩ : ∃ n : Nat, (p.shared[k]).2.1 = (n : Int) := ⟨((p.shared[k]).2.1).toNat, by omega⟩
    have hn16 : n ≤ 16 := by omega
    refine jc_loopS (ι := Nat × Value × List Int) [] (fun i => i.1 ≤ n ∧ i.2.2.length = i.1 ∧ i.2.2.all wordB = true) (fun i => [(8, In .i64 (i.1 : Int)), (7, .cell (.val i.2.1)), (6, In .i64 (k : Int)), (5, .cell (.val v)), (3, .cell (.val (.pointer (some ⟨bx, 0, none⟩)))), (0, Ptr bd)]) (fun i => [.own i.2.1 3 1 (i.2.2.map Irow), .own v 22 1 (B.map LRow), .blk bx 31 p.row, Dk bd L]) (fun i => n - i.1) (0, .slice none 0 0, []) ⟨Nat.zero_le _, rfl, rfl⟩ ?_ ?_ ?_
    · exact bc_ 0 r_ (bc_ 0 r_ (bc_ 0 r_ (bc_ 0 r_ sub_end)))
    · (repeat (first | exact True.intro | refine ⟨rfl, ?_⟩))
    rintro ⟨m, va, A⟩ hz2
    dsimp only at hz2 ⊢
    obtain ⟨hm, hAl, hA⟩ := hz2
    by_cases hltm : m < n
    · have hltm2 : (m : Int) < (p.shared[k]).2.1 := by omega
      refine am_ (R_ (M_ r_ (F_ r_ (L_ 2 r_ (M_ r_ (o_ r_ (cc_ r_ r_ g_ r_ r_ b_ (o_ r_ (cf_ r_ r_ r_ b_ r_ b_ (o_ r_ (cf_ r_ r_ r_ b_ r_ b_ (o_ r_ (cb_ r_ r_ (o_ r_ (bw_ r_ r_ (T_ (aq_ r_ u_ (as_ (al_ (B_ ?_))))))))))))))))))))
      refine an_ (M_ r_ (M_ r_ (o_ r_ (bt_ [3] rfl rfl (gWord_c hL hLn) (fun pp hpp => o_ r_ (bq_ r_ r_ b_ r_ r_ b_ (o_ r_ (ow_append1 1 (pp) rfl rfl rfl rfl rfl rfl rfl (fun _ => rfl) (by show (_ + 1) * 8 ≤ _ ; first | omega | (simp ; done)) (by first | omega | (simp ; done)) (fun v1 hv1 => E_ r_ (ak_ (ay_ (al_ (an_ (M_ r_ (o_ r_ (bj_ r_ r_ g_ (E_ r_ (ak_ ?_))))))))))))))))))
      refine jq_againS (i := (m, va, A)) (m + 1, v1, A ++ [pp]) ⟨hltm, by rw [List.length_append, hAl]; rfl, ?_⟩ (by dsimp only; omega) ?_ ?_
      · rw [List.all_append, hA]
        simp only [List.all_cons, List.all_nil, Bool.and_true, Bool.true_and]
        unfold wordB
        rw [Bool.and_eq_true, decide_eq_true_eq, decide_eq_true_eq]
        omega
      · exact bc_ 0 r_ (bc_ 1 r_ (bc_ 1 r_ (bc_ 0 r_ sub_end)))
      · (repeat (first | exact True.intro | refine ⟨rfl, ?_⟩))
    · have hltm2 : ¬ (m : Int) < (p.shared[k]).2.1 := by omega
      refine am_ (R_ (M_ r_ (F_ r_ (L_ 2 r_ (M_ r_ (o_ r_ (cc_ r_ r_ g_ r_ r_ b_ (o_ r_ (cf_ r_ r_ r_ b_ r_ b_ (o_ r_ (cf_ r_ r_ r_ b_ r_ b_ (o_ r_ (cb_ r_ r_ (o_ r_ (bw_ r_ r_ (T_ (ap_ r_ w_ (av_ (ax_ (ax_ ?_))))))))))))))))))))
      refine ba_ (al_ (jc_freeze 7 0 rfl rfl (by rw [hc]; simp [hb, Ch.bs]) (an_ (M_ r_ (M_ r_ (o_ r_ (bq_ r_ r_ b_ r_ r_ b_ (o_ r_ (ow_append1 0 (A) rfl rfl rfl rfl rfl rfl rfl (fun _ => rfl) (by show (_ + 1) * 24 ≤ _ ; first | omega | (simp ; done)) (by first | omega | (simp ; done)) (fun v1 hv1 => E_ r_ (ak_ (ay_ (al_ (an_ (M_ r_ (o_ r_ (bj_ r_ r_ g_ (E_ r_ ?_))))))))))))))))))
      refine ak_ (jq_againS (i := (k, v, B)) (k + 1, v1, B ++ [A]) ⟨hltk, hv1, fil_snoc hltk hB g_ hA⟩ (by dsimp only; omega) ?_ ?_)
      · exact bc_ 0 r_ (bc_ 0 r_ (bc_ 0 r_ sub_end))
      · (repeat (first | exact True.intro | refine ⟨rfl, ?_⟩))
  · have hltk2 : ¬ (k : Int) < (((p.shared).map ShRow).length : Int) := by omega
    rw [List.take_of_length_le (by omega)] at hB
    refine am_ (R_ (M_ r_ (F_ r_ (L_ 1 r_ (o_ r_ (br_ r_ (fun hlen => o_ r_ (bw_ r_ r_ (T_ (ap_ r_ w_ (av_ (ax_ (ax_ (ba_ (al_ (R_ (M_ r_ ?_)))))))))))))))))
    refine E_ r_ (T_ (ar_ (jq_freeze 4 0 rfl rfl (by rw [hc]; simp [hb, Ch.bs]) (jq_ret1 rfl rfl [1] rfl (fun K h => h B hB)))))
end
end Go.Proofs.YtalkkcfojplmdaaGreatDoor
end

section
namespace Go.Proofs.YtalkkcfojplmdaaGreatDoor
open Go.Vc
attribute [local irreducible] JL JC JQ OpWp Con ConN HOk
attribute [local irreducible] StG BlG ckF progT
set_option maxHeartbeats 4000000

abbrev Nzz : ByteArray := ⟨#[122, 122]⟩
def othT (t : Tk) : Tk := { t with name := Nzz, body := [], claims := [] }
def apQ (p : Pg) (t o : Tk) : Pg := ⟨p.res, p.shared, [othT o, t]⟩
theorem oth_made {Sh Sh2 : List Shd} {nm : ByteArray} {W : Int} {t : Tk} (hW : 0 ≤ W) (h : TaskG Sh2 nm W t) : TaskG Sh Nzz W (othT t) := by
  refine ⟨rfl, h.period, h.deadline, h.priority, h.jitter, h.inputs, h.vars, h.arrays, h.modes, .inl rfl, ⟨0, [], 0, by unfold BlG; exact ⟨0, by decide, .nil 0⟩, rfl⟩, ?_, ?_⟩
  · show wAll 20 [] 0 ≤ W
    rw [wAll]; exact hW
  · show Mz ([] : List Sm) 14
    unfold Mz
    simp only [Sm.czs, Sm.szs]
    omega
theorem ap_right {W : Int} {p q : Pg} {o : Tk} {Sh2 : List Shd} {nm : ByteArray} (hW : 0 ≤ W ∧ W ≤ 2000) (h : PgG 1 W p) (ho : TaskG Sh2 nm W o) (h0 : 0 < p.tasks.length) (hq : q = apQ p p.tasks[0] o) :
    ckF q = 0 ∧ PgOk q ∧ (∀ t ∈ q.tasks, Rn q t) := by
  obtain ⟨n, hn, hR⟩ := h.res
  have g1 := h.tasks 0 h0
  have g2 : TaskG p.shared Nzz W (othT o) := oth_made hW.1 ho
  have ok1 := task_okT hR h.shared (by decide) g1
  have ok2 := task_okN hR h.shared ⟨nmOk_lit (by decide +kernel), by decide⟩ g2
  have rt1 := task_right hR h.shared hW.2 g1
  have rt2 := task_right hR h.shared hW.2 g2
  have hp := prog_szT (by decide) h
  have hr := made_right (by decide) hW.2 h
  have hsh := shd_sz hR h.shared
  have hresl : p.res.length ≤ 2 := by rw [hR]; rcases n with _ | _ | n <;> simp [RSl]
  have e2 : dpF 8 (othT o).body = false := rfl
  have e1 : dpF 8 (p.tasks[0]).body = false := by
    have := List.any_eq_false.1 hp.2.1 p.tasks[0] (List.getElem_mem h0)
    revert this
    cases dpF 8 (p.tasks[0]).body <;> simp
  subst hq
  have hok : okPg (apQ p p.tasks[0] o) = true := by
    have := hp.1
    unfold okPg at this ⊢
    rw [Bool.and_eq_true] at this ⊢
    refine ⟨this.1, ?_⟩
    show [othT o, p.tasks[0]].all okTk = true
    simp [ok1.1, ok2.1]
  have hdp : (apQ p p.tasks[0] o).tasks.any (fun t => dpF 8 t.body) = false := by
    show [othT o, p.tasks[0]].any (fun t => dpF 8 t.body) = false
    simp [e1, e2]
  have hsz : (progT (apQ p p.tasks[0] o)).size ≤ 8192 := by
    have hres : ∀ x ∈ p.res, nmOk x ∧ x.size ≤ 1 := fun x hx => by rw [hR] at hx; exact ⟨RS_ok x hx, RS_sz x hx⟩
    have z1 : (catL resT p.res).size ≤ p.res.length * 11 := catL_size (fun x hx => by
      have := hres x hx
      simp only [resT, ByteArray.size_append, ba_lit, List.length_cons, List.length_nil]
      omega)
    have z2 : (catL shT p.shared).size ≤ p.shared.length * 30 := catL_size (fun x hx => by
      have := hsh.2 x hx
      have a1 := numS_11 (n := x.2.1) (by omega) (by omega)
      simp only [shT, ByteArray.size_append, ba_lit, List.length_cons, List.length_nil]
      omega)
    have z3 : (catL tkT [othT o, p.tasks[0]]).size ≤ [othT o, p.tasks[0]].length * 1960 := catL_size (fun t ht => by
      simp only [List.mem_cons, List.not_mem_nil, or_false] at ht
      rcases ht with rfl | rfl
      · exact ok2.2
      · exact ok1.2)
    have l1 := hsh.1
    unfold progT
    simp only [ByteArray.size_append]
    simp only [List.length_cons, List.length_nil] at z3
    show (catL resT p.res).size + (catL shT p.shared).size + (catL tkT [othT o, p.tasks[0]]).size ≤ 8192
    omega
  have hmem : ∀ t ∈ (apQ p p.tasks[0] o).tasks, t = othT o ∨ t = p.tasks[0] := fun t ht => by
    have ht : t ∈ [othT o, p.tasks[0]] := ht
    simpa using ht
  have hRt : Right (apQ p p.tasks[0] o) := by
    refine ⟨?_, ?_, ?_, fun t ht => ?_, fun t ht => ?_, fun t ht => ?_⟩
    · have := hr.lim
      unfold limB at this ⊢
      simp only [Bool.and_eq_true, decide_eq_true_eq] at this
      show (decide (p.res.length ≤ 4) && decide (p.shared.length ≤ 4) && decide (1 ≤ 2) && decide (2 ≤ 6) && [othT o, p.tasks[0]].all limT) = true
      simp [this.1.1.1.1, this.1.1.1.2, rt1.1, rt2.1]
    · have := hr.nam
      unfold namB at this ⊢
      simp only [Bool.and_eq_true] at this
      have hd : dupB [Nzz, (p.tasks[0]).name] = false := by rw [g1.name]; decide +kernel
      show (!dupB p.res && !dupB [Nzz, (p.tasks[0]).name] && p.shared.all (fun s => hasB p.res s.2.2) && [othT o, p.tasks[0]].all (namT p.res p.shared)) = true
      rw [hd]
      simp [this.1.1.1, this.1.2, rt1.2.1, rt2.2.1]
    · have := hr.ran
      unfold ranB at this ⊢
      rw [Bool.and_eq_true] at this ⊢
      refine ⟨this.1, ?_⟩
      show [othT o, p.tasks[0]].all ranT = true
      simp [rt1.2.2.1, rt2.2.2.1]
    · rcases hmem t ht with rfl | rfl
      · exact rt2.2.2.2.1
      · exact rt1.2.2.2.1
    · rcases hmem t ht with rfl | rfl
      · exact rt2.2.2.2.2.1
      · exact rt1.2.2.2.2.1
    · rcases hmem t ht with rfl | rfl
      · exact rt2.2.2.2.2.2
      · exact rt1.2.2.2.2.2
  have h0 := ck_right hok hdp hsz hRt
  refine ⟨h0, ⟨⟨by show p.res.length ≤ 1000; omega, by have := hsh.1; show p.shared.length ≤ 1000; omega, by show 2 ≤ 1000; omega, fun t ht => ?_⟩, fun t ht => ?_⟩, fun t ht => ?_⟩
  · rcases hmem t ht with rfl | rfl
    · exact g2.sz
    · exact g1.sz
  · rcases hmem t ht with rfl | rfl
    · exact trivial
    · exact md_lns 4 _ (g1.md (nms_of hR h.shared g1))
  · refine rn_of h0 ht ?_ (by show p.shared.length ≤ 1; exact hsh.1)
    rcases hmem t ht with rfl | rfl
    · exact made_arr g2
    · exact made_arr g1
/-- What is not stored to stays as it was. -/
theorem ap_shr {p : Pg} {t : Tk} (h : Rn p t) {ins : List Int} {ss : List (List Int)} (hl : p.shared.length = ss.length) : (runO p t ins ss).shs.length = ss.length ∧ ∀ (i : Nat) (h1 : i < p.shared.length) (h2 : i < ss.length) (h3 : i < (runO p t ins ss).shs.length), Sm.evs (pSt (p.shared[i]).1) t.body = true → (runO p t ins ss).shs[i] = ss[i] := by
  have e : (runO p t ins ss).shs = p.shared.map (fun _ => (runL (AMof p t) t.body (jb0 p t ins ss)).cb) := rfl
  refine ⟨by rw [e, List.length_map]; exact hl, fun i h1 h2 h3 hs => ?_⟩
  have hs1 := h.s1
  obtain rfl : i = 0 := by omega
  have hx : ∀ nm, aget (AMof p t) nm = some false → nm = (p.shared[0]).1 := fun nm hg => by
    rw [am_eq h] at hg
    have hm := aget_mem hg
    rcases List.mem_append.1 hm with hm | hm
    · obtain ⟨x, _, hx⟩ := List.mem_map.1 hm
      simp at hx
    · obtain ⟨x, hx, hx2⟩ := List.mem_map.1 hm
      obtain ⟨j, hj, rfl⟩ := List.getElem_of_mem hx
      obtain rfl : j = 0 := by omega
      simp only [Prod.mk.injEq, and_true] at hx2
      exact hx2.symm
  have hcb := run_cb hx t.body hs (jb0 p t ins ss)
  have e2 : (runO p t ins ss).shs[0]'h3 = (runL (AMof p t) t.body (jb0 p t ins ss)).cb := by
    have : ∀ (l : List (List Int)) (hh : 0 < l.length), l = p.shared.map (fun _ => (runL (AMof p t) t.body (jb0 p t ins ss)).cb) → l[0] = (runL (AMof p t) t.body (jb0 p t ins ss)).cb := fun l hh e => by subst e; rw [List.getElem_map]
    exact this _ h3 e
  rw [e2, hcb]
  show cb0 p.shared ss = ss[0]
  unfold cb0
  rw [show p.shared.length = 1 by omega, kIf, hd_get h2]
theorem stores_c (x : ByteArray) : ∀ l : List Sm, Con Tryz.prog 42 [.cell (.list (l.map Sm.row)), Str x] [] (fun K => K (Bl (!Sm.evs (pSt x) l)) []) := by
  refine Sms.ind (fun l ih => con_intro Tryz.func42 rfl rfl (Nat.le_of_ble_eq_true rfl) (fun c hc => R_ (E_ r_ (T_ (am_ (R_ (E_ r_ (T_ (au_ (jc_loopS (ι := Nat) [] (fun k => k ≤ (l).length ∧ Sm.evs (pSt x) (l.take k) = true) (fun k => (5, In .i64 (k : Int)) :: [(0, .cell (.list (l.map Sm.row))), (1, Str x)]) (fun k => []) (fun k => (l).length - k) 0 ⟨Nat.zero_le _, rfl⟩ ?_ ?_ ?_))))))))))
  · exact sub_end
  · (repeat (first | exact True.intro | refine ⟨rfl, ?_⟩))
  rintro k ⟨hk, hI⟩
  have eLk : ((l).map Sm.row).length = (l).length := List.length_map _
  by_cases hltk : k < (l).length
  · have hltk2 : (k : Int) < (((l).map Sm.row).length : Int) := by omega
    obtain ⟨i1, i2⟩ := ih l[k] (List.getElem_mem hltk)
    by_cases hk2 : l[k].kind = 2 ∧ l[k].name = x
    · obtain ⟨hk2, hnx⟩ := hk2
      have hres : Sm.evs (pSt x) l = false := by
        rw [← Bool.not_eq_true, evs_iff]
        intro h
        have := h l[k] (List.getElem_mem hltk)
        rw [ev_eq, Bool.and_eq_true, Bool.and_eq_true] at this
        have := this.1.1
        unfold pSt at this
        rw [decide_eq_true hk2, decide_eq_true hnx] at this
        cases this
      refine am_ (R_ (M_ r_ (M_ r_ (o_ r_ (br_ r_ (fun hlen => o_ r_ (bw_ r_ r_ (T_ (aq_ r_ u_ (as_ (al_ (B_ (R_ (M_ r_ (M_ r_ (o_ r_ (cc_ r_ r_ g_ (Sm.row_eq _) r_ b_ (o_ r_ (cf_ r_ r_ r_ b_ r_ b_ ?_)))))))))))))))))))
      refine o_ r_ (cb_ r_ r_ (o_ r_ (bn_ r_ r_ (M_ r_ (ah_ r_ u_ b_ (bd_ r_ (ah_ r_ u_ b_ (bd_ r_ (ah_ r_ u_ b_ (cc_ r_ r_ g_ (Sm.row_eq _) r_ b_ (ah_ r_ u_ b_ (cf_ r_ r_ r_ b_ r_ b_ (ah_ r_ u_ b_ (cb_ r_ r_ (ah_ r_ u_ b_ (bd_ r_ (ah_ r_ u_ b_ (cs_ r_ r_ (o_ r_ (bp_ r_ u_ r_ (M_ r_ (ai_ r_ u_ b_ (ai_ r_ u_ b_ (ai_ r_ u_ b_ (ai_ r_ u_ b_ ?_)))))))))))))))))))))))))
      refine ai_ r_ u_ b_ (ai_ r_ u_ b_ (ai_ r_ u_ b_ (o_ r_ (bp_ r_ u_ r_ (M_ r_ (ai_ r_ r_ b_ (ai_ r_ r_ b_ (ai_ r_ r_ b_ (ai_ r_ r_ b_ (ai_ r_ r_ b_ (ai_ r_ r_ b_ (ai_ r_ r_ b_ (o_ r_ (bp_ r_ r_ r_ (T_ (aq_ r_ r_ (R_ ?_)))))))))))))))))
      refine E_ r_ (T_ (ar_ (az_ (aw_ (aw_ (az_ (aw_ (jq_ret1 rfl rfl [] rfl (fun K h => by rw [hres] at h; exact h)))))))))
    have hP : pSt x l[k].kind l[k].name l[k].label l[k].max = true := by
      unfold pSt
      by_cases h : l[k].kind = 2
      · rw [decide_eq_false (fun h' => hk2 ⟨h, h'⟩), Bool.and_false]; rfl
      · rw [decide_eq_false h, Bool.false_and]; rfl
    cases ht : Sm.evs (pSt x) l[k].thn with
    | false =>
      rw [ht] at i1
      have hres : Sm.evs (pSt x) l = false := by
        rw [← Bool.not_eq_true, evs_iff]
        intro h
        have := h l[k] (List.getElem_mem hltk)
        rw [ev_eq, ht] at this
        simp at this
      by_cases hq : l[k].kind = 2
      · have hnx : ¬ l[k].name = x := fun h => hk2 ⟨hq, h⟩
        refine am_ (R_ (M_ r_ (M_ r_ (o_ r_ (br_ r_ (fun hlen => o_ r_ (bw_ r_ r_ (T_ (aq_ r_ u_ (as_ (al_ (B_ (R_ (M_ r_ (M_ r_ (o_ r_ (cc_ r_ r_ g_ (Sm.row_eq _) r_ b_ (o_ r_ (cf_ r_ r_ r_ b_ r_ b_ ?_)))))))))))))))))))
        refine o_ r_ (cb_ r_ r_ (o_ r_ (bn_ r_ r_ (M_ r_ (ah_ r_ u_ b_ (bd_ r_ (ah_ r_ u_ b_ (bd_ r_ (ah_ r_ u_ b_ (cc_ r_ r_ g_ (Sm.row_eq _) r_ b_ (ah_ r_ u_ b_ (cf_ r_ r_ r_ b_ r_ b_ (ah_ r_ u_ b_ (cb_ r_ r_ (ah_ r_ u_ b_ (bd_ r_ (ah_ r_ u_ b_ (cs_ r_ r_ (o_ r_ (bp_ r_ u_ r_ (M_ r_ (ah_ r_ w_ b_ (bd_ r_ (ah_ r_ w_ b_ (bd_ r_ (ah_ r_ w_ b_ (cc_ r_ r_ g_ (Sm.row_eq _) r_ b_ ?_)))))))))))))))))))))))))))
        refine ah_ r_ w_ b_ (cf_ r_ r_ r_ b_ r_ b_ (ah_ r_ w_ b_ (cb_ r_ r_ (ah_ r_ w_ b_ (bd_ r_ (ah_ r_ w_ b_ (bm_ r_ (i1) (o_ r_ (bv_ r_ w_ r_ (M_ r_ (ai_ r_ r_ b_ (ai_ r_ r_ b_ (ai_ r_ r_ b_ (ai_ r_ r_ b_ (ai_ r_ r_ b_ (ai_ r_ r_ b_ (ai_ r_ r_ b_ (o_ r_ (bp_ r_ r_ r_ (T_ (aq_ r_ r_ ?_)))))))))))))))))))))
        refine R_ (E_ r_ (T_ (ar_ (az_ (aw_ (aw_ (az_ (aw_ (jq_ret1 rfl rfl [] rfl (fun K h => by rw [hres] at h; exact h))))))))))
      · refine am_ (R_ (M_ r_ (M_ r_ (o_ r_ (br_ r_ (fun hlen => o_ r_ (bw_ r_ r_ (T_ (aq_ r_ u_ (as_ (al_ (B_ (R_ (M_ r_ (M_ r_ (o_ r_ (cc_ r_ r_ g_ (Sm.row_eq _) r_ b_ (o_ r_ (cf_ r_ r_ r_ b_ r_ b_ ?_)))))))))))))))))))
        refine o_ r_ (cb_ r_ r_ (o_ r_ (bn_ r_ r_ (M_ r_ (ai_ r_ w_ b_ (ai_ r_ w_ b_ (ai_ r_ w_ b_ (ai_ r_ w_ b_ (ai_ r_ w_ b_ (ai_ r_ w_ b_ (ai_ r_ w_ b_ (o_ r_ (bv_ r_ w_ r_ (M_ r_ (ah_ r_ r_ b_ (bd_ r_ (ah_ r_ r_ b_ (bd_ r_ (ah_ r_ r_ b_ (cc_ r_ r_ g_ (Sm.row_eq _) r_ b_ (ah_ r_ r_ b_ (cf_ r_ r_ r_ b_ r_ b_ ?_))))))))))))))))))))))
        refine ah_ r_ r_ b_ (cb_ r_ r_ (ah_ r_ r_ b_ (bd_ r_ (ah_ r_ r_ b_ (bm_ r_ (i1) (o_ r_ (bv_ r_ r_ r_ (M_ r_ (ai_ r_ r_ b_ (ai_ r_ r_ b_ (ai_ r_ r_ b_ (ai_ r_ r_ b_ (ai_ r_ r_ b_ (ai_ r_ r_ b_ (ai_ r_ r_ b_ (o_ r_ (bp_ r_ r_ r_ (T_ (aq_ r_ r_ (R_ ?_))))))))))))))))))))
        refine E_ r_ (T_ (ar_ (az_ (aw_ (aw_ (az_ (aw_ (jq_ret1 rfl rfl [] rfl (fun K h => by rw [hres] at h; exact h)))))))))
    | true =>
      rw [ht] at i1
      cases he : Sm.evs (pSt x) l[k].els with
      | false =>
        rw [he] at i2
        have hres : Sm.evs (pSt x) l = false := by
          rw [← Bool.not_eq_true, evs_iff]
          intro h
          have := h l[k] (List.getElem_mem hltk)
          rw [ev_eq, he] at this
          simp at this
        by_cases hq : l[k].kind = 2
        · have hnx : ¬ l[k].name = x := fun h => hk2 ⟨hq, h⟩
          refine am_ (R_ (M_ r_ (M_ r_ (o_ r_ (br_ r_ (fun hlen => o_ r_ (bw_ r_ r_ (T_ (aq_ r_ u_ (as_ (al_ (B_ (R_ (M_ r_ (M_ r_ (o_ r_ (cc_ r_ r_ g_ (Sm.row_eq _) r_ b_ (o_ r_ (cf_ r_ r_ r_ b_ r_ b_ ?_)))))))))))))))))))
          refine o_ r_ (cb_ r_ r_ (o_ r_ (bn_ r_ r_ (M_ r_ (ah_ r_ u_ b_ (bd_ r_ (ah_ r_ u_ b_ (bd_ r_ (ah_ r_ u_ b_ (cc_ r_ r_ g_ (Sm.row_eq _) r_ b_ (ah_ r_ u_ b_ (cf_ r_ r_ r_ b_ r_ b_ (ah_ r_ u_ b_ (cb_ r_ r_ (ah_ r_ u_ b_ (bd_ r_ (ah_ r_ u_ b_ (cs_ r_ r_ (o_ r_ (bp_ r_ u_ r_ (M_ r_ (ah_ r_ w_ b_ (bd_ r_ (ah_ r_ w_ b_ (bd_ r_ (ah_ r_ w_ b_ (cc_ r_ r_ g_ (Sm.row_eq _) r_ b_ ?_)))))))))))))))))))))))))))
          refine ah_ r_ w_ b_ (cf_ r_ r_ r_ b_ r_ b_ (ah_ r_ w_ b_ (cb_ r_ r_ (ah_ r_ w_ b_ (bd_ r_ (ah_ r_ w_ b_ (bm_ r_ (i1) (o_ r_ (bv_ r_ w_ r_ (M_ r_ (ah_ r_ r_ b_ (bd_ r_ (ah_ r_ r_ b_ (bd_ r_ (ah_ r_ r_ b_ (cc_ r_ r_ g_ (Sm.row_eq _) r_ b_ (ah_ r_ r_ b_ (cf_ r_ r_ r_ b_ r_ b_ (ah_ r_ r_ b_ (cb_ r_ r_ (ah_ r_ r_ b_ (bd_ r_ (ah_ r_ r_ b_ (bm_ r_ (i2) (o_ r_ (bv_ r_ r_ r_ (T_ (aq_ r_ r_ ?_))))))))))))))))))))))))))))
          refine R_ (E_ r_ (T_ (ar_ (az_ (aw_ (aw_ (az_ (aw_ (jq_ret1 rfl rfl [] rfl (fun K h => by rw [hres] at h; exact h))))))))))
        · refine am_ (R_ (M_ r_ (M_ r_ (o_ r_ (br_ r_ (fun hlen => o_ r_ (bw_ r_ r_ (T_ (aq_ r_ u_ (as_ (al_ (B_ (R_ (M_ r_ (M_ r_ (o_ r_ (cc_ r_ r_ g_ (Sm.row_eq _) r_ b_ (o_ r_ (cf_ r_ r_ r_ b_ r_ b_ ?_)))))))))))))))))))
          refine o_ r_ (cb_ r_ r_ (o_ r_ (bn_ r_ r_ (M_ r_ (ai_ r_ w_ b_ (ai_ r_ w_ b_ (ai_ r_ w_ b_ (ai_ r_ w_ b_ (ai_ r_ w_ b_ (ai_ r_ w_ b_ (ai_ r_ w_ b_ (o_ r_ (bv_ r_ w_ r_ (M_ r_ (ah_ r_ r_ b_ (bd_ r_ (ah_ r_ r_ b_ (bd_ r_ (ah_ r_ r_ b_ (cc_ r_ r_ g_ (Sm.row_eq _) r_ b_ (ah_ r_ r_ b_ (cf_ r_ r_ r_ b_ r_ b_ ?_))))))))))))))))))))))
          refine ah_ r_ r_ b_ (cb_ r_ r_ (ah_ r_ r_ b_ (bd_ r_ (ah_ r_ r_ b_ (bm_ r_ (i1) (o_ r_ (bv_ r_ r_ r_ (M_ r_ (ah_ r_ r_ b_ (bd_ r_ (ah_ r_ r_ b_ (bd_ r_ (ah_ r_ r_ b_ (cc_ r_ r_ g_ (Sm.row_eq _) r_ b_ (ah_ r_ r_ b_ (cf_ r_ r_ r_ b_ r_ b_ (ah_ r_ r_ b_ (cb_ r_ r_ (ah_ r_ r_ b_ (bd_ r_ (ah_ r_ r_ b_ (bm_ r_ (i2) (o_ r_ (bv_ r_ r_ r_ (T_ (aq_ r_ r_ (R_ ?_)))))))))))))))))))))))))))
          refine E_ r_ (T_ (ar_ (az_ (aw_ (aw_ (az_ (aw_ (jq_ret1 rfl rfl [] rfl (fun K h => by rw [hres] at h; exact h)))))))))
      | true =>
        rw [he] at i2
        have hev : l[k].ev (pSt x) = true := by rw [ev_eq, hP, ht, he]; rfl
        have hnext : Sm.evs (pSt x) (l.take (k + 1)) = true := by rw [List.take_succ_eq_append_getElem hltk, evs_app, hI, Sm.evs, hev]; rfl
        by_cases hq : l[k].kind = 2
        · have hnx : ¬ l[k].name = x := fun h => hk2 ⟨hq, h⟩
          refine am_ (R_ (M_ r_ (M_ r_ (o_ r_ (br_ r_ (fun hlen => o_ r_ (bw_ r_ r_ (T_ (aq_ r_ u_ (as_ (al_ (B_ (R_ (M_ r_ (M_ r_ (o_ r_ (cc_ r_ r_ g_ (Sm.row_eq _) r_ b_ (o_ r_ (cf_ r_ r_ r_ b_ r_ b_ ?_)))))))))))))))))))
          refine o_ r_ (cb_ r_ r_ (o_ r_ (bn_ r_ r_ (M_ r_ (ah_ r_ u_ b_ (bd_ r_ (ah_ r_ u_ b_ (bd_ r_ (ah_ r_ u_ b_ (cc_ r_ r_ g_ (Sm.row_eq _) r_ b_ (ah_ r_ u_ b_ (cf_ r_ r_ r_ b_ r_ b_ (ah_ r_ u_ b_ (cb_ r_ r_ (ah_ r_ u_ b_ (bd_ r_ (ah_ r_ u_ b_ (cs_ r_ r_ (o_ r_ (bp_ r_ u_ r_ (M_ r_ (ah_ r_ w_ b_ (bd_ r_ (ah_ r_ w_ b_ (bd_ r_ (ah_ r_ w_ b_ (cc_ r_ r_ g_ (Sm.row_eq _) r_ b_ ?_)))))))))))))))))))))))))))
          refine ah_ r_ w_ b_ (cf_ r_ r_ r_ b_ r_ b_ (ah_ r_ w_ b_ (cb_ r_ r_ (ah_ r_ w_ b_ (bd_ r_ (ah_ r_ w_ b_ (bm_ r_ (i1) (o_ r_ (bv_ r_ w_ r_ (M_ r_ (ah_ r_ r_ b_ (bd_ r_ (ah_ r_ r_ b_ (bd_ r_ (ah_ r_ r_ b_ (cc_ r_ r_ g_ (Sm.row_eq _) r_ b_ (ah_ r_ r_ b_ (cf_ r_ r_ r_ b_ r_ b_ (ah_ r_ r_ b_ (cb_ r_ r_ (ah_ r_ r_ b_ (bd_ r_ (ah_ r_ r_ b_ (bm_ r_ (i2) (o_ r_ (bv_ r_ r_ r_ (T_ (ap_ r_ r_ ?_))))))))))))))))))))))))))))
          refine as_ (ay_ (al_ (an_ (M_ r_ (o_ r_ (bj_ r_ r_ g_ (E_ r_ (ak_ (jq_againS (i := k) (k + 1) ⟨hltk, hnext⟩ g_ ?_ ?_)))))))))
          · exact sub_end
          · (repeat (first | exact True.intro | refine ⟨rfl, ?_⟩))
        · refine am_ (R_ (M_ r_ (M_ r_ (o_ r_ (br_ r_ (fun hlen => o_ r_ (bw_ r_ r_ (T_ (aq_ r_ u_ (as_ (al_ (B_ (R_ (M_ r_ (M_ r_ (o_ r_ (cc_ r_ r_ g_ (Sm.row_eq _) r_ b_ (o_ r_ (cf_ r_ r_ r_ b_ r_ b_ ?_)))))))))))))))))))
          refine o_ r_ (cb_ r_ r_ (o_ r_ (bn_ r_ r_ (M_ r_ (ai_ r_ w_ b_ (ai_ r_ w_ b_ (ai_ r_ w_ b_ (ai_ r_ w_ b_ (ai_ r_ w_ b_ (ai_ r_ w_ b_ (ai_ r_ w_ b_ (o_ r_ (bv_ r_ w_ r_ (M_ r_ (ah_ r_ r_ b_ (bd_ r_ (ah_ r_ r_ b_ (bd_ r_ (ah_ r_ r_ b_ (cc_ r_ r_ g_ (Sm.row_eq _) r_ b_ (ah_ r_ r_ b_ (cf_ r_ r_ r_ b_ r_ b_ ?_))))))))))))))))))))))
          refine ah_ r_ r_ b_ (cb_ r_ r_ (ah_ r_ r_ b_ (bd_ r_ (ah_ r_ r_ b_ (bm_ r_ (i1) (o_ r_ (bv_ r_ r_ r_ (M_ r_ (ah_ r_ r_ b_ (bd_ r_ (ah_ r_ r_ b_ (bd_ r_ (ah_ r_ r_ b_ (cc_ r_ r_ g_ (Sm.row_eq _) r_ b_ (ah_ r_ r_ b_ (cf_ r_ r_ r_ b_ r_ b_ (ah_ r_ r_ b_ (cb_ r_ r_ (ah_ r_ r_ b_ (bd_ r_ (ah_ r_ r_ b_ (bm_ r_ (i2) (o_ r_ (bv_ r_ r_ r_ (T_ (ap_ r_ r_ (as_ ?_)))))))))))))))))))))))))))
          refine ay_ (al_ (an_ (M_ r_ (o_ r_ (bj_ r_ r_ g_ (E_ r_ (ak_ (jq_againS (i := k) (k + 1) ⟨hltk, hnext⟩ g_ ?_ ?_))))))))
          · exact sub_end
          · (repeat (first | exact True.intro | refine ⟨rfl, ?_⟩))
  · have hltk2 : ¬ (k : Int) < (((l).map Sm.row).length : Int) := by omega
    rw [List.take_of_length_le (by omega)] at hI
    refine am_ (R_ (M_ r_ (M_ r_ (o_ r_ (br_ r_ (fun hlen => o_ r_ (bw_ r_ r_ (T_ (ap_ r_ w_ (av_ (ax_ (ax_ (ba_ (al_ (R_ (E_ r_ (T_ ?_)))))))))))))))))
    refine ar_ (jq_ret1 rfl rfl [] rfl (fun K h => by rw [hI] at h; exact h))
end Go.Proofs.YtalkkcfojplmdaaGreatDoor
end

section
namespace Go.Proofs.YtalkkcfojplmdaaGreatDoor
open Go.Vc
attribute [local irreducible] JL JC JQ OpWp Con ConN HOk
attribute [local irreducible] StG BlG ckF progT
set_option maxHeartbeats 4000000

def tkH (p : Pg) : Tk := p.tasks.headD tk0
theorem tkH_eq {p : Pg} (h : 0 < p.tasks.length) : p.tasks[0] = tkH p := (hd_get h).symm
theorem EvalApart_c (L : List Int) (hL : InR L) (more : Int) :
    Con Tryz.prog 11 [.cell (.list (L.map Irow)), In .i64 more] [] (fun K => K (Bl true) []) := by
  have ha := awake6_c
  refine con_intro Tryz.func11 rfl rfl (Nat.le_of_ble_eq_true rfl) (fun c hc => ?_)
  by_cases hLn : L.length ≤ 400
  · have hd : (!decide (L.length ≤ 400)) = false := by simp [hLn]
    refine R_ (E_ r_ (T_ (am_ (R_ (M_ r_ (o_ r_ (bm_ r_ (gFew_c _) (o_ r_ (ce_ r_ (T_ (ap_ r_ v_ (as_ (al_ (R_ (M_ r_ (o_ r_ (bt_ [] rfl rfl (gNewT_c L) (fun bd hbd => E_ r_ ?_))))))))))))))))))
    refine T_ (R_ (M_ r_ (o_ r_ (bt_ [0] rfl rfl (gProgram_c hL hLn 1) (fun p hp => ?_)))))
    have hp : PgG 1 300 p := hp
    have hck := made_ck (by decide) (by decide) hp
    have hok := made_ok (by decide) hp
    have hrn := made_rn hp
    have hlen := hp.len
    have hshz := made_shz hp.shared
    have h0 : 0 < p.tasks.length := by omega
    have hiz := made_inz (hp.tasks 0 h0)
    have hR := hrn hck p.tasks[0] (List.getElem_mem h0)
    have hrow0 : (p.tasks.map Tk.row)[0]? = some (p.tasks[0]).row := by rw [List.getElem?_map, List.getElem?_eq_getElem h0]; rfl
    refine o_ r_ (bl_ r_ r_ (fun bl => S_ 0 r_ (T_ (am_ ?_))))
    generalize bl = bp at *
    refine jc_cut (ι := List Int × List (List Int)) [] (fun i => fitB (p.tasks[0]).inputs i.1 = true ∧ filB p.shared i.2 = true) (fun i => [(5, Ptr bd), (6, Ptr bp), (7, .cell (.list (i.1.map Irow))), (8, .cell (.list (i.2.map LRow)))]) (fun i => [.blk bp 31 p.row, Dk bd L]) ?_ ?_
    · refine jc_hp1 10 (n := 11) rfl 0 k_ rfl (fun cs1 hcs1 => ?_)
      obtain ⟨u10, u11, u12, rfl⟩ := len3 hcs1
      refine hp_know 0 rfl mem0 ?_
      dsimp only [List.zipWith, know]
      refine df_ (i := 0) rfl k_ k_ k_ b_ (by (repeat (first | refine pani_then ?_ | refine pani_block ?_)); exact pani_body) (dk_ rfl) ?_
      refine df_ (i := 1) rfl k_ k_ k_ b_ (by (repeat (first | refine pani_then ?_ | refine pani_block ?_)); exact pani_body) (dl_ rfl rfl rfl b_) ?_
      refine df_ (i := 2) rfl k_ k_ k_ b_ (by (repeat (first | refine pani_then ?_ | refine pani_block ?_)); exact pani_body) (hok_loadK 0 rfl rfl rfl mem0 rfl) ?_
      refine df_ (i := 3) rfl k_ k_ k_ b_ (by (repeat (first | refine pani_then ?_ | refine pani_block ?_)); exact pani_body) (hok_indexList rfl rfl g_ hrow0 rfl b_) ?_
      refine df_ (i := 6) rfl k_ k_ k_ b_ (by (repeat (first | refine pani_then ?_ | refine pani_block ?_)); exact pani_body) (dk_ rfl) ?_
      refine df_ (i := 7) rfl k_ k_ k_ b_ (by (repeat (first | refine pani_then ?_ | refine pani_block ?_)); exact pani_body) (hok_loadAllK 0 rfl rfl rfl mem0 rfl) ?_
      refine dg_ (i := 4) r_ k_ b_ (cr_ r_ r_ r_ ⟨?_, ?_⟩)
      exact keepK 0 rfl rfl
      refine dg_ (i := 5) rfl k_ b_ (bt_ [1] rfl rfl (gInputsL_c hL hLn _ hiz) (fun pp hpp => ⟨?_, ?_⟩))
      exact keepK 1 rfl rfl
      refine dg_ (i := 8) rfl k_ b_ (bt_ [0] rfl rfl (gSharedL_c hL hLn p hshz) (fun pp hpp => ⟨?_, ?_⟩))
      exact keepK 1 rfl rfl
      refine df_ (i := 9) rfl k_ k_ k_ b_ (by (repeat (first | refine pani_then ?_ | refine pani_block ?_)); exact pani_body) (hok_assign rfl) ?_
      refine df_ (i := 10) rfl k_ k_ k_ b_ (by (repeat (first | refine pani_then ?_ | refine pani_block ?_)); exact pani_body) (hok_assign rfl) ?_
      refine hp_done k_ (jq_unk [u10, u11, u12] 1 rfl rfl ?_)
      dsimp only [List.map, unk]
      rename_i pI hpI
      refine jq_cutS (pI, pp) ⟨hpI, hpp⟩ ?_ ?_
      · exact bc_ 0 r_ (bc_ 0 r_ sub_end)
      · (repeat (first | exact True.intro | refine ⟨rfl, ?_⟩))
    rintro ⟨I, SS⟩ ⟨hf, hs⟩
    dsimp only at hf hs ⊢
    have hE1 := eRun_c p hok hrn 0 I SS
    have hrun1 : runF p 0 I SS = (runO p p.tasks[0] I SS, 0) := runF_in hck h0 hf hs
    rw [hrun1] at hE1
    have hProg := gProgram_c (bd := bd) hL hLn 1
    have hrow1 : ∀ p2 : Pg, PgG 1 300 p2 → (p2.tasks.map Tk.row)[0]? = some (tkH p2).row := fun p2 h2 => by
      have hl := h2.len
      rw [List.getElem?_map, List.getElem?_eq_getElem (by omega), ← tkH_eq (by omega)]
      rfl
    refine R_ (A_ 0 r_ (M_ r_ (M_ r_ (o_ r_ (bm_ r_ (hE1) (M_ r_ (X_ r_ (X_ r_ (o_ r_ (bl_ r_ r_ (fun bl => S_ 0 r_ (E_ r_ (T_ (R_ (A_ 1 r_ (o_ r_ (bl_ r_ r_ (fun bl => S_ 0 r_ ?_))))))))))))))))))
    refine T_ (am_ ?_)
    rename_i bo
    generalize bl = bq at *
    refine an_ (M_ r_ (o_ r_ (bt_ [3] rfl rfl (hProg) (fun pp hpp => o_ r_ (ow_field1 29 r_ r_ r_ r_ r_ (o_ r_ (ow_indexAddrN 0 r_ r_ r_ (hrow1 pp hpp) r_ b_ (o_ r_ (cr_ r_ r_ r_ (o_ r_ (bl_ r_ r_ (fun bl => S_ 0 r_ (T_ (am_ ?_))))))))))))))
    have hpp : PgG 1 300 pp := hpp
    have hog := hpp.tasks 0 (by have := hpp.len; omega)
    rw [tkH_eq (by have := hpp.len; omega)] at hog
    generalize tkH pp = o at *
    generalize bl = bt at *
    obtain ⟨q0, q1, q2⟩ := ap_right (by decide) hp hog h0 rfl
    have hE2 := eRun_c (apQ p p.tasks[0] o) q1 (fun _ => q2) 1 I SS
    have hrun2 : runF (apQ p p.tasks[0] o) 1 I SS = (runO p p.tasks[0] I SS, 0) := runF_in (p := apQ p p.tasks[0] o) (k := 1) q0 (by show 1 < 2; decide) hf hs
    rw [hrun2] at hE2
    obtain ⟨hsl, hsh⟩ := ap_shr (ins := I) hR (fil_len hs)
    have hSl := fil_len hs
    generalize p.tasks[0] = t at *
    generalize runO p t I SS = O at *
    have hSame := rSame_c O
    obtain ⟨ov, oa, os, oc, ost⟩ := O
    dsimp only [OutRow] at hE1 hE2 hsl hsh hSame ⊢
    clear hpp hProg hrow1 hog q0 q1 q2 hrun1 hrun2 hf hs hE1 hok hrn hck
    refine an_ (F_ r_ (W_ 0 r_ (F_ r_ (W_ 0 r_ (F_ r_ (W_ 0 r_ (T_ (am_ (jc_row 0 (othT o).row rfl ?_ ?_)))))))))
    · (repeat (first | exact RowLe.nil | exact RowsLe.nil | exact CLe.nil | exact CLe.refl _ | refine RowLe.cons ?_ ?_ | refine RowsLe.cons ?_ ?_ | refine CLe.list ?_))
    refine jc_reset [(5, Ptr bd), (6, Ptr bp), (7, .cell (.list (I.map Irow))), (8, .cell (.list (SS.map LRow))), (9, Ptr bo), (10, In .i64 0), (11, Ptr bq), (12, Ptr bt)] [.blk bt 39 (othT o).row, .blk bp 31 p.row, .blk bq 31 p.row, .blk bo 46 [.list (ov.map Irow), .list (oa.map LRow), .list (os.map LRow), .list (oc.map Irow), .val (.int .i64 ost)]] ?_ ?_ ?_
    · (repeat (first | exact True.intro | refine ⟨rfl, ?_⟩))
    · exact bc_ 0 r_ (bc_ 3 r_ (bc_ 1 r_ (bc_ 1 r_ sub_end)))
    refine jc_cut (ι := Unit) [] (fun _ => True) (fun _ => [(6, Ptr bp), (7, .cell (.list (I.map Irow))), (8, .cell (.list (SS.map LRow))), (9, Ptr bo), (10, In .i64 0), (11, Ptr bq)]) (fun _ => [.blk bp 31 p.row, .blk bq 31 (apQ p t o).row, .blk bo 46 [.list (ov.map Irow), .list (oa.map LRow), .list (os.map LRow), .list (oc.map Irow), .val (.int .i64 ost)]]) ?_ ?_
    · refine jc_hpM2 6 (n := 8) rfl 0 1 k_ rfl rfl (fun cs1 cs2 hcs1 hv1 hcs2 hv2 => ?_)
      obtain ⟨u10, u11, u12, u13, u14, u15, u16, u17, u18, u19, u110, rfl⟩ := len11 hcs1
      obtain ⟨u20, u21, u22, rfl⟩ := len3 hcs2
      obtain rfl := Option.some.inj (hv1 0 _ rfl)
      obtain rfl := Option.some.inj (hv1 1 _ rfl)
      obtain rfl := Option.some.inj (hv1 2 _ rfl)
      obtain rfl := Option.some.inj (hv1 3 _ rfl)
      obtain rfl := Option.some.inj (hv1 4 _ rfl)
      refine hp_know 0 rfl mem0 ?_
      dsimp only [List.zipWith, know]
      refine hp_know 1 rfl mem1 ?_
      dsimp only [List.zipWith, know]
      refine df_ (i := 0) rfl k_ k_ k_ b_ (by (repeat (first | refine pani_then ?_ | refine pani_block ?_)); exact pani_body) (hok_loadAllK 1 rfl rfl rfl mem0 rfl) ?_
      refine df_ (i := 1) rfl k_ k_ k_ b_ (by (repeat (first | refine pani_then ?_ | refine pani_block ?_)); exact pani_body) (dl_ rfl rfl rfl b_) ?_
      refine df_ (i := 2) rfl k_ k_ k_ b_ (by (repeat (first | refine pani_then ?_ | refine pani_block ?_)); exact pani_body) (hok_loadK 0 rfl rfl rfl mem1 rfl) ?_
      refine df_ (i := 3) rfl k_ k_ k_ b_ (by (repeat (first | refine pani_then ?_ | refine pani_block ?_)); exact pani_body) (hok_indexList rfl rfl g_ hrow0 rfl b_) ?_
      refine dg_ (i := 4) r_ k_ b_ (cr_ r_ r_ r_ ⟨?_, ?_⟩)
      exact keepK2 1 0 rfl rfl rfl rfl
      refine dg_ (i := 5) r_ k_ b_ (bq_ r_ r_ b_ r_ r_ b_ ⟨?_, ?_⟩)
      exact keepK2 1 0 rfl rfl rfl rfl
      refine df_ (i := 6) rfl k_ k_ k_ b_ (by (repeat (first | refine pani_then ?_ | refine pani_block ?_)); exact pani_body) (dl_ rfl rfl rfl b_) ?_
      refine hp_tail (dj_ (i := 7) rfl k_ (by decide) (ca_ 2 rfl rfl rfl rfl b_ (ht_done k_ (jq_unk [_, _, _, _, _, u15, u16, u17, u18, u19, u110] 2 rfl rfl ?_))))
      dsimp only [List.map, unk]
      refine jq_unk [u20, u21, u22] 2 rfl rfl ?_
      dsimp only [List.map, unk]
      refine jq_row 2 (apQ p t o).row rfl ?_ ?_
      · (repeat (first | exact RowLe.nil | exact RowsLe.nil | exact CLe.nil | exact CLe.refl _ | refine RowLe.cons ?_ ?_ | refine RowsLe.cons ?_ ?_ | refine CLe.list ?_))
      refine jq_cutS () trivial ?_ ?_
      · exact bc_ 1 r_ (bc_ 0 r_ (bc_ 1 r_ sub_end))
      · (repeat (first | exact True.intro | refine ⟨rfl, ?_⟩))
    intro _ _
    have hll : ¬ ((os.map LRow).length : Int) ≠ ((SS.map LRow).length : Int) := by rw [List.length_map, List.length_map]; omega
    have eP : (p.shared.map ShRow).length = p.shared.length := List.length_map _
    have eO : (os.map LRow).length = os.length := List.length_map _
    refine R_ (A_ 1 r_ (M_ r_ (M_ r_ (o_ r_ (bm_ r_ (hE2) (M_ r_ (X_ r_ (X_ r_ (o_ r_ (bl_ r_ r_ (fun bl => S_ 0 r_ (E_ r_ (T_ (am_ (R_ (M_ r_ (o_ r_ (bx_ r_ r_ ?_))))))))))))))))))
    refine M_ r_ (ah_ r_ r_ b_ (bd_ r_ (ah_ r_ r_ b_ (bx_ r_ r_ (o_ r_ (bv_ r_ r_ r_ (M_ r_ (ah_ r_ r_ b_ (bs_ 3 r_ r_ r_ r_ (ah_ r_ r_ b_ (bs_ 0 r_ r_ r_ r_ (ah_ r_ r_ b_ (bm_ r_ (hSame) (ah_ r_ r_ b_ (cd_ r_ (o_ r_ (bv_ r_ r_ r_ (M_ r_ (ah_ r_ r_ b_ (bf_ r_ r_ r_ b_ (ah_ r_ r_ b_ (bg_ 3 r_ r_ r_ r_ (ah_ r_ r_ b_ (br_ r_ (fun hlen => ah_ r_ r_ b_ (bd_ r_ (ah_ r_ r_ b_ (br_ r_ (fun hlen => ?_)))))))))))))))))))))))))))))
    refine ah_ r_ r_ b_ (bx_ r_ r_ (o_ r_ (bv_ r_ r_ r_ (T_ (ap_ r_ w_ (as_ (al_ (am_ (R_ (E_ r_ (T_ (au_ ?_))))))))))))
    refine jc_loopS (ι := Nat) [] (fun i => i ≤ SS.length) (fun i => [(15, In .i64 (i : Int)), (6, Ptr bp), (8, .cell (.list (SS.map LRow))), (9, Ptr bo)]) (fun _ => [.blk bp 31 p.row, .blk bo 46 [.list (ov.map Irow), .list (oa.map LRow), .list (os.map LRow), .list (oc.map Irow), .val (.int .i64 ost)]]) (fun i => SS.length - i) 0 (Nat.zero_le _) ?_ ?_ ?_
    · exact bc_ 1 r_ (bc_ 2 r_ sub_end)
    · (repeat (first | exact True.intro | refine ⟨rfl, ?_⟩))
    rintro i hi
    have eS : (SS.map LRow).length = SS.length := List.length_map _
    by_cases hlt : i < SS.length
    · have hlt2 : (i : Int) < ((SS.map LRow).length : Int) := by omega
      have h1 : i < p.shared.length := by omega
      have h3 : i < os.length := by omega
      have hSt := stores_c (p.shared[i]).1 t.body
      cases hev : Sm.evs (pSt (p.shared[i]).1) t.body with
      | true =>
        have hio := hsh i h1 hlt h3 hev
        rw [hev] at hSt
        have hSI := SameIX_c SS[i]
        have hSI2 : Con Tryz.prog 39 [.cell (.list (os[i].map Irow)), .cell (.list (SS[i].map Irow))] [] (fun K => K (Bl true) []) := by rw [hio]; exact hSI
        refine am_ (R_ (M_ r_ (M_ r_ (o_ r_ (br_ r_ (fun hlen => o_ r_ (bw_ r_ r_ (T_ (aq_ r_ u_ (as_ (al_ (B_ (am_ (ao_ r_ r_ k_ k_ (yF_ r_ (yL_ 0 r_ (aa_ (fun c => ow_indexAddrN 0 r_ r_ r_ hrow0 r_ b_ p_) ?_)))))))))))))))))
        refine aa_ (fun c => cf_ r_ r_ r_ b_ r_ b_ p_) (aa_ (fun c => cb_ r_ r_ p_) (yF_ r_ (yL_ 0 r_ (yM_ r_ (aa_ (fun c => cc_ r_ r_ g_ r_ r_ b_ p_) (aa_ (fun c => cf_ r_ r_ r_ b_ r_ b_ p_) (aa_ (fun c => cf_ r_ r_ r_ b_ r_ b_ p_) (aa_ (fun c => cb_ r_ r_ p_) (aa_ (fun c => bm_ r_ (hSt) p_) (aa_ (fun c => cd_ r_ p_) (yM_ r_ (ab_ r_ r_ (fun c => bf_ r_ r_ r_ b_ p_) (ab_ r_ r_ (fun c => bg_ 1 r_ r_ r_ r_ p_) ?_)))))))))))))
        refine ab_ r_ r_ (fun c => bd_ r_ p_) (ab_ r_ r_ (fun c => cc_ r_ r_ g_ r_ r_ b_ p_) (ab_ r_ r_ (fun c => cb_ r_ r_ p_) (ab_ r_ r_ (fun c => bd_ r_ p_) (ab_ r_ r_ (fun c => bd_ r_ p_) (ab_ r_ r_ (fun c => cc_ r_ r_ g_ r_ r_ b_ p_) (ab_ r_ r_ (fun c => cb_ r_ r_ p_) (ab_ r_ r_ (fun c => bm_ r_ (hSI2) p_) (ab_ r_ r_ (fun c => cd_ r_ p_) (aa_ (fun c => bp_ r_ r_ r_ p_) (ae_ (al_ (ap_ r_ r_ (as_ (ay_ (al_ ?_)))))))))))))))
        refine an_ (M_ r_ (o_ r_ (bj_ r_ r_ g_ (E_ r_ (ak_ (jq_againS (i := i) (i + 1) hlt g_ ?_ ?_))))))
        · exact bc_ 0 r_ (bc_ 0 r_ sub_end)
        · (repeat (first | exact True.intro | refine ⟨rfl, ?_⟩))
      | false =>
        rw [hev] at hSt
        refine am_ (R_ (M_ r_ (M_ r_ (o_ r_ (br_ r_ (fun hlen => o_ r_ (bw_ r_ r_ (T_ (aq_ r_ u_ (as_ (al_ (B_ (am_ (ao_ r_ r_ k_ k_ (yF_ r_ (yL_ 0 r_ (aa_ (fun c => ow_indexAddrN 0 r_ r_ r_ hrow0 r_ b_ p_) ?_)))))))))))))))))
        refine aa_ (fun c => cf_ r_ r_ r_ b_ r_ b_ p_) (aa_ (fun c => cb_ r_ r_ p_) (yF_ r_ (yL_ 0 r_ (yM_ r_ (aa_ (fun c => cc_ r_ r_ g_ r_ r_ b_ p_) (aa_ (fun c => cf_ r_ r_ r_ b_ r_ b_ p_) (aa_ (fun c => cf_ r_ r_ r_ b_ r_ b_ p_) (aa_ (fun c => cb_ r_ r_ p_) (aa_ (fun c => bm_ r_ (hSt) p_) (aa_ (fun c => cd_ r_ p_) (yM_ r_ (ac_ r_ r_ (ac_ r_ r_ (ac_ r_ r_ (ac_ r_ r_ ?_)))))))))))))))
        refine ac_ r_ r_ (ac_ r_ r_ (ac_ r_ r_ (ac_ r_ r_ (ac_ r_ r_ (ac_ r_ r_ (ac_ r_ r_ (aa_ (fun c => bv_ r_ r_ r_ p_) (ae_ (al_ (ap_ r_ r_ (as_ (ay_ (al_ (an_ (M_ r_ ?_)))))))))))))))
        refine o_ r_ (bj_ r_ r_ g_ (E_ r_ (ak_ (jq_againS (i := i) (i + 1) hlt g_ ?_ ?_))))
        · exact bc_ 0 r_ (bc_ 0 r_ sub_end)
        · (repeat (first | exact True.intro | refine ⟨rfl, ?_⟩))
    · have hlt2 : ¬ (i : Int) < ((SS.map LRow).length : Int) := by omega
      refine am_ (R_ (M_ r_ (M_ r_ (o_ r_ (br_ r_ (fun hlen => o_ r_ (bw_ r_ r_ (T_ (ap_ r_ w_ (av_ (ax_ (ax_ (ba_ (al_ (R_ (o_ r_ (bm_ r_ (ha) (E_ r_ ?_))))))))))))))))))
      refine T_ (ar_ (jq_ret1 rfl rfl [] rfl (fun K h => h)))
  · have hd : (!decide (L.length ≤ 400)) = true := by simp [hLn]
    refine R_ (E_ r_ (T_ (am_ (R_ (M_ r_ (o_ r_ (bm_ r_ (gFew_c _) (o_ r_ (ce_ r_ (T_ (aq_ r_ u_ (R_ (o_ r_ (bm_ r_ (ha) (E_ r_ (T_ (ar_ (aw_ ?_))))))))))))))))))
    refine jq_ret1 rfl rfl [] rfl (fun K h => h)
end Go.Proofs.YtalkkcfojplmdaaGreatDoor
end

section
namespace Go.Vc
open Go.ChangeShapes Go.WideShapes Go.ChangeAt Go.RowKit Go.Joins Go.Deep

theorem strs_inj {H : Type} : ∀ {a b : List ByteArray}, (strs a : List (DataW H)) = strs b → a = b
  | [], [], _ => rfl
  | [], _ :: _, h => by simp [strs] at h
  | _ :: _, [], h => by simp [strs] at h
  | x :: a, y :: b, h => by
    simp only [strs, List.map_cons, List.cons.injEq, DataW.lit.injEq, Lit.string.injEq] at h
    have e : x = y := by
      cases x; cases y
      simp only at h
      congr 1
      exact Array.ext' h.1
    subst e
    rw [strs_inj (H := H) (a := a) (b := b) h.2]

section
variable {H : Type} {enc : TypeId × Value → H} {P : Program}
/-- A slice of strings that reads so. -/
theorem rd_strings {W : World} {t e : TypeId} (ht : P.underlying t = some (.slice e)) (he : P.underlying e = some .string) (hc : P.cellsOf e = 1) {cs : List Value} {L : List ByteArray} {ps : List MemPlace} {base : Nat} {sp : Nat → Bool} {held : Bool} {fuel : Nat} (h0 : 0 < L.length)
    (h : DataW.trod enc P W base sp held fuel t cs = some ((.slice (strs L) [] : DataW H), ps)) : ∃ v, cs = [v] ∧ Rd1 W (fun _ => False) (.list (L.map fun s => [.val (.string s)])) v := by
  rcases open_strings ht he hc h with ⟨_, hx⟩ | ⟨a, len, cap, ss, rfl, _, hle, hcap, hz, hx, hcell, _⟩
  · cases hx
  · simp only [Prod.mk.injEq, DataW.slice.injEq] at hx
    have hL : L = ss.take len := strs_inj hx.1.1
    have hlen : L.length = len := by
      rw [hL, List.length_take]
      have : len ≤ ss.length := by rw [hz]; split <;> omega
      omega
    refine ⟨_, rfl, some a, cap, by rw [List.length_map, hlen], by rw [List.length_map, hlen]; exact hle, hcap, ?_⟩
    have hss : len ≤ ss.length := by rw [hz]; split <;> omega
    have h1 := hcell 0 (by omega)
    have hsp : a.spot = none := by simpa [Addr.add] using World.cell?_spot h1
    obtain ⟨b, off, sp⟩ := a
    simp only at hsp
    subst hsp
    refine .inr ⟨b, off, L.map Value.string, 1, rfl, id, ?_, Nat.one_pos, ?_⟩
    · intro j u hj
      rw [List.getElem?_map, Option.map_eq_some_iff] at hj
      obtain ⟨z, hz1, rfl⟩ := hj
      have hjl : j < L.length := (List.getElem?_eq_some_iff.1 hz1).1
      have := hcell j (by omega)
      rw [add_at] at this
      rw [this]
      congr 2
      rw [List.getD_eq_getElem?_getD]
      rw [hL, List.getElem?_take] at hz1
      split at hz1
      · rw [hz1]; rfl
      · cases hz1
    · clear hL hlen h0 h hx
      induction L with
      | nil => rfl
      | cons s L ih => exact ⟨[.string s], _, rfl, rfl, ⟨.string s, [], rfl, ⟨rfl, rfl⟩, rfl⟩, ih⟩
/-- An array of strings that reads so. -/
theorem cells_of_strs {w : World} {base : Nat} {sp : Nat → Bool} {held : Bool} {fuel : Nat} {t e : TypeId} {n : Nat} {cs : List Value} {L : List ByteArray} {p : List MemPlace}
    (ht : P.underlying t = some (.array n e)) (he : P.underlying e = some .string) (hce : P.cellsOf e = 1) (hct : P.cellsOf t = n)
    (h : DataW.trod enc P w base sp held fuel t cs = some ((.agg (strs L) : DataW H), p)) : cs = L.map Value.string := by
  cases fuel with
  | zero => simp [DataW.trod] at h
  | succ fuel =>
    simp only [DataW.trod, ht, hce, hct, Nat.mul_one] at h
    split at h
    · rename_i hl
      obtain ⟨xs, hm, hx⟩ := Option.map_eq_some_iff.1 h
      have hxs : xs.map (·.1) = (strs L : List (DataW H)) := by
        have := congrArg Prod.fst hx
        simpa using this
      have hxl : xs.length = n := by simpa using Lib.mapM_length hm
      have hzl : L.length = n := by
        have := congrArg List.length hxs
        simp [strs] at this
        omega
      apply List.ext_getElem?
      intro i
      by_cases hi : i < n
      · obtain ⟨b, hb, hf⟩ := Lib.mapM_at hm i i (by simp [hi])
        obtain ⟨z, hc, rfl, _⟩ := DataW.trod_string he hf
        have h1 : cs[i]? = some (.string z) := by
          have := congrArg (·[0]?) hc
          simpa [List.getElem?_take, List.getElem?_drop] using this
        have h2 : (xs.map (·.1))[i]? = some (DataW.lit (.string z.data.toList) : DataW H) := by simp [hb]
        rw [hxs] at h2
        simp only [strs, List.getElem?_map, Option.map_eq_some_iff, DataW.lit.injEq, Lit.string.injEq] at h2
        obtain ⟨z', hz', e⟩ := h2
        have e2 : z' = z := by
          cases z; cases z'
          simp only at e
          congr 1
          exact Array.ext' e
        subst e2
        simp [h1, hz']
      · rw [List.getElem?_eq_none (by omega), List.getElem?_eq_none (by simp; omega)]
    · cases h
theorem gv_of_var {W : World} {name : String} {g : Nat} {cs : Array Value} {row : List C} (hg : P.globalNamed name = some g) (hvar : W.var? P name = some cs) (hr : RdRow W (fun _ => False) row cs.toList) : GV W (fun _ => False) g row := by
  unfold World.var? at hvar
  rw [hg] at hvar
  simp only [Option.bind_some] at hvar
  split at hvar
  · rename_i cs' t f hh
    cases hvar
    exact ⟨id, _, t, f, hh, hr⟩
  · cases hvar
end

theorem rdRow_strs {W : World} {A : Nat → Prop} : ∀ L : List ByteArray, RdRow W A (L.map (fun s => .val (.string s))) (L.map Value.string)
  | [] => rfl
  | s :: L => ⟨.string s, _, rfl, ⟨rfl, rfl⟩, rdRow_strs L⟩

section
variable {H : Type} {enc : TypeId × Value → H} {P : Program}
end
end Go.Vc
end

section
namespace Go.Vc
open Go.RowKit Go.ChangeShapes Go.WideShapes

section
variable {H : Type} {enc : TypeId × Value → H} {P : Program}

/-- Arguments read as they did. -/
theorem args_stay (hl : laidOutB P = true) {W W' : World} (hb : Below W.heap.size W W') : ∀ {ts : List TypeId} {vs : List Value} {ds : List (DataW H)} {ps : List MemPlace}, ts.all (fun t => P.readableRec t && decide (t < P.types.size)) = true →
    DataW.TrodAll enc P W 0 (fun _ => true) true ts vs ds ps → (∀ p ∈ ps, p.block < W.heap.size) → DataW.TrodAll enc P W' 0 (fun b => decide (b < W.heap.size)) true ts vs ds ps
  | [], vs, ds, ps, _, h, _ => by
    obtain ⟨rfl, rfl, rfl⟩ := trodAll_nil h
    rfl
  | t :: ts, vs, ds, ps, hr, h, hlt => by
    simp only [List.all_cons, Bool.and_eq_true, decide_eq_true_eq] at hr
    obtain ⟨⟨h1, h2⟩, h3⟩ := hr
    obtain ⟨v, vr, d, dr, p, q, rfl, rfl, rfl, g1, g2⟩ := trodAll_cons h
    exact ⟨p, q, Below.trod hl h1 h2 g1 hb (fun x hx => hlt x (List.mem_append.2 (.inl hx))), args_stay hl hb h3 g2 (fun x hx => hlt x (List.mem_append.2 (.inr hx))), rfl⟩

/-- What a law's row asks behind the call: true, and each argument reads as it did. -/
theorem law_post {f : Func} {s : ChangeSpec} {W W' : World} {args : Array Value} {ds : List (DataW H)} {before : List MemPlace} {bt : TypeId} (hv : s.vars = []) (hW : DataW.Whole enc P f.params.toList s.vars false W args.toList ds [] before)
    (hr : (s.fn H (ds ++ [])).results = [.lit (.bool true)]) (ha : (s.fn H (ds ++ [])).args = ds) (hg : (s.fn H (ds ++ [])).vars = []) (hrt : f.resultTypes = #[bt]) (hbt : P.underlying bt = some .bool)
    (hl : laidOutB P = true) (hrd : f.params.toList.all (fun t => P.readableRec t && decide (t < P.types.size)) = true) (hb : Below W.heap.size W W') : s.post enc P f false true false false W args (.bool true) W' := by
  have hlt := hW.lt
  have hW' := hW
  obtain ⟨p, q, hA, hV, rfl, _, _⟩ := hW'
  rw [hv] at hV
  obtain ⟨_, rfl⟩ := trodVars_none hV
  refine ⟨ds, [], p ++ [], [], p, [], hW, ?_, ?_, ?_, World.keptBut_mono (fun x hx => ⟨hx, .inr (.inl (by simpa using hx))⟩) (hb.frame (· ∈ p ++ [])), fun h => by cases h⟩
  · rw [hr, hrt]
    exact trodAll_mk1 (shut_bool hbt _)
  · rw [ha]
    exact args_stay hl hb hrd hA (fun x hx => hlt x (by simpa using hx))
  · rw [hg, hv]
    rfl

/-- A slice of integers that came in. -/
theorem rd_ints {W : World} {t e : TypeId} {k : IntKind} (ht : P.underlying t = some (.slice e)) (he : P.underlying e = some (.int k)) (hc : P.cellsOf e = 1) {v : Value} {d : DataW H} {ps : List MemPlace} (hs : ∃ a len cap, v = .slice a len cap)
    (h : DataW.Trod enc P W 0 (fun _ => true) true t v d ps) : ∃ L : List Int, Rd1 W (fun _ => False) (.list (L.map (fun n => [.val (.int k n)]))) v ∧ ∀ n ∈ L, (Lit.int k n).wf = true := by
  obtain ⟨a0, len0, cap0, rfl⟩ := hs
  obtain ⟨fuel, hf⟩ := h
  rcases open_ints ht he hc hf with ⟨hn, _⟩ | ⟨a, len, cap, zs, hcs, _, hle, hcap, hz, _, hcell, hwf⟩
  · simp only [Value.cells, List.cons.injEq, Value.slice.injEq, and_true] at hn
    obtain ⟨rfl, rfl, rfl⟩ := hn
    exact ⟨[], ⟨none, 0, rfl, Nat.le_refl _, Nat.zero_le _, .inl rfl⟩, by simp⟩
  · simp only [Value.cells, List.cons.injEq, Value.slice.injEq, and_true] at hcs
    obtain ⟨rfl, rfl, rfl⟩ := hcs
    simp only [if_true] at hz
    have hlen : (zs.take len0).length = len0 := by simp; omega
    refine ⟨zs.take len0, ⟨some a, cap0, by rw [List.length_map, hlen], by rw [List.length_map, hlen]; exact hle, hcap, ?_⟩, fun n hn => hwf n (List.mem_of_mem_take hn)⟩
    by_cases h0 : len0 = 0
    · exact .inl (by rw [List.length_map, hlen]; exact h0)
    · have h1 := hcell 0 (by omega)
      have hsp : a.spot = none := by simpa [Addr.add] using World.cell?_spot h1
      obtain ⟨b, off, sp⟩ := a
      simp only at hsp
      subst hsp
      refine .inr ⟨b, off, (zs.take len0).map (Value.int k), 1, rfl, id, ?_, Nat.one_pos, ?_⟩
      · intro j u hj
        rw [List.getElem?_map, Option.map_eq_some_iff] at hj
        obtain ⟨z, hz1, rfl⟩ := hj
        rw [List.getElem?_take] at hz1
        split at hz1
        · have hjl : j < zs.length := by omega
          have := hcell j hjl
          rw [add_at] at this
          rw [this]
          congr 2
          rw [List.getD_eq_getElem?_getD, hz1]
          rfl
        · cases hz1
      · generalize zs.take len0 = L
        induction L with
        | nil => rfl
        | cons n L ih => exact ⟨[.int k n], L.map (Value.int k), rfl, rfl, ⟨_, _, rfl, ⟨rfl, rfl⟩, rfl⟩, ih⟩

/-- From a contract to a run. -/
theorem con_run [Gl P] {f : FuncId} {ss : List S} {vs : List Value} {W : World} (con : Con P f ss [] (fun K => K (Bl true) [])) (hs : SOks W (fun _ => False) ss vs) (hgl : Gl.ok P W (fun _ => False) := by exact trivial) : Calls P f vs.toArray W (fun e W' => e = .returned (.bool true) ∧ Below W.heap.size W W') := by
  refine (con vs W (fun _ => False) (fun _ h => h.elim) (by simp [hb]) (by simp [hb]) hs (by simp) hgl).mono ?_
  rintro e W' ⟨v, s, Ho, rfl, hK, hv, _, _, _, hg⟩
  obtain ⟨rfl, rfl⟩ := hK (fun s' H' => s' = Bl true ∧ H' = []) ⟨rfl, rfl⟩
  obtain ⟨rfl, _⟩ := hv
  exact ⟨rfl, hg.os, hg.tape, hg.output, hg.size, fun k hk => hg.block k hk (by simp [hb])⟩
end
end Go.Vc
end

section
namespace Go.Proofs.YtalkkcfojplmdaaGreatDoor
open Go.ChangeShapes Go.WideShapes Go.ChangeAt Go.RowKit Go.Vc Go.Joins Go.Deep

theorem own : ownKnob Tryz.prog.godebug = none := by kernel_rfl
theorem laidOut : laidOutB Tryz.prog = true := by kernel_rfl
theorem cells3 : Tryz.prog.cellsOf 3 = 1 := by kernel_rfl
theorem cellsS : Tryz.prog.cellsOf 9 = 1 := by kernel_rfl
theorem gTab : Tryz.prog.globalNamed "internal/strconv.uint64pow10" = some 3 := by kernel_rfl
theorem gTabType : (Tryz.prog.globals[3]?).map (·.type) = some 239 := by kernel_rfl
theorem cellsTab : Tryz.prog.cellsOf 239 = 20 := by kernel_rfl
theorem cellsU64 : Tryz.prog.cellsOf 202 = 1 := by kernel_rfl
theorem tabData_eq : (Rows.laid_internal_strconv_uint64pow10 : DataW Unit) = Lib.tabData .u64 Lib.pow10Tab := by kernel_rfl
theorem wordsData_eq : (Rows.laid_timebound_tree_words : DataW Unit) = .slice (strs words) [] := by kernel_rfl
theorem signsData_eq : (Rows.laid_timebound_tree_signs : DataW Unit) = .agg (strs signL) := by kernel_rfl
theorem gWords : Tryz.prog.globalNamed "timebound/tree.words" = some 0 := by kernel_rfl
theorem gWordsType : (Tryz.prog.globals[0]?).map (·.type) = some 27 := by kernel_rfl
theorem gSigns : Tryz.prog.globalNamed "timebound/tree.signs" = some 1 := by kernel_rfl
theorem gSignsType : (Tryz.prog.globals[1]?).map (·.type) = some 230 := by kernel_rfl
theorem cellsSigns : Tryz.prog.cellsOf 230 = 14 := by kernel_rfl
theorem gl_of {W : World} (h : laidMetH Tryz.prog Rows.evalCountsRow.laid W) : Gl.ok Tryz.prog W (fun _ => False) := by
  have h1 : laidMet Tryz.prog Rows.evalCountsRow.laid W := h
  have h2 := laidMet.tail (laidMet.tail h1)
  have h3 := laidMet.tail h2
  have h4 := laidMet.tail h3
  rw [tabData_eq] at h2
  rw [wordsData_eq] at h3
  rw [signsData_eq] at h4
  refine ⟨⟨3, gTab, id, Lib.tabIs_of_head gTab gTabType Tryz.underlying239 Tryz.underlying202 cellsU64 cellsTab h2⟩, ?_, ?_⟩
  · obtain ⟨ps, ⟨g', t', cs, fuel, p, q, hg', ht', hvar, hd, _, _⟩, _⟩ := h3
    obtain rfl := Option.some.inj (gWords.symm.trans hg')
    obtain rfl := Option.some.inj (gWordsType.symm.trans ht')
    obtain ⟨v, hcs, hr⟩ := rd_strings Tryz.underlying27 Tryz.underlying9 cellsS (by decide) hd
    exact gv_of_var gWords hvar (by rw [hcs]; exact ⟨v, [], rfl, hr, rfl⟩)
  · obtain ⟨ps, ⟨g', t', cs, fuel, p, q, hg', ht', hvar, hd, _, _⟩, _⟩ := h4
    obtain rfl := Option.some.inj (gSigns.symm.trans hg')
    obtain rfl := Option.some.inj (gSignsType.symm.trans ht')
    have e := cells_of_strs Tryz.underlying230 Tryz.underlying9 cellsS cellsSigns hd
    exact gv_of_var gSigns hvar (by rw [e]; exact rdRow_strs signL)
/-- A world for the witness: as the program's start lays it. -/
noncomputable def laidWorld (os : Os) : World := World.doorLaid Tryz.prog 400 os
theorem laid_met (os : Os) (args : Array Value) : laidMet Tryz.prog Rows.evalCountsRow.laid ((laidWorld os).forCall (fun _ _ => 0) ⟨#[], args, []⟩).memory :=
  laidMet_of_run' 8 (by kernel_rfl) (by kernel_rfl)
end Go.Proofs.YtalkkcfojplmdaaGreatDoor
end

section
namespace Go.Proofs.YtalkkcfojplmdaaGreatDoor.evalApart
open Go.ChangeShapes Go.WideShapes Go.ChangeAt Go.RowKit Go.Vc Go.Joins

set_option maxRecDepth 100000 in
theorem contract (H : Type) (enc : TypeId × Value → H) (W : World) (base : Nat) (args : Array Value) (ds gs : List (DataW H)) (before : List MemPlace)
    (hval : ∀ (j : Nat) t v, Tryz.f11.params[j]? = some t → args[j]? = some v → Value.okWide Tryz.prog W .any base t v)
    (hW : DataW.Whole enc Tryz.prog Tryz.f11.params.toList Rows.evalApartSpec.vars false W args.toList ds gs before) (hL : laidMetH Tryz.prog Rows.evalApartRow.laid W) :
    Calls Tryz.prog 11 args W fun e W' => ∃ v, e = .returned v ∧ Rows.evalApartSpec.post enc Tryz.prog Tryz.f11 false true false false W args v W' := by
  have hW' := hW
  obtain ⟨p, q, hA0, hV, rfl, hfz, hnd⟩ := hW
  have hA : DataW.TrodAll enc Tryz.prog W 0 (fun _ => true) true Tryz.f11.params.toList args.toList ds p := hA0
  rw [Tryz.params11] at hA hval
  obtain ⟨v0, vs0, d0, ds0, p0, q0, hargs, rfl, rfl, h0, r0⟩ := trodAll_cons hA
  obtain ⟨v1, vs1, d1, ds1, p1, q1, rfl, rfl, rfl, h1, r1⟩ := trodAll_cons r0
  obtain ⟨rfl, rfl, rfl⟩ := trodAll_nil r1
  obtain rfl : args = #[v0, v1] := by cases args; simp_all
  obtain ⟨rfl, rfl⟩ := trodVars_none hV
  obtain ⟨L0, hL0, hwf0⟩ := rd_ints Tryz.underlying22 Tryz.underlying3 cells3 (okWide_slice Tryz.underlying22 (hval 0 22 v0 rfl rfl)) h0
  have hn0 : ∀ n ∈ L0, -9223372036854775808 ≤ n ∧ n ≤ 9223372036854775807 := fun n hn => by simpa [Lit.wf, IntKind.min, IntKind.max, IntKind.signed, IntKind.bits] using hwf0 n hn
  obtain ⟨n1, rfl, rfl, rfl, w1⟩ := open_int Tryz.underlying3 (hval 1 3 v1 rfl rfl) h1
  have hn1 : -9223372036854775808 ≤ n1 ∧ n1 ≤ 9223372036854775807 := by simpa [Lit.wf, IntKind.min, IntKind.max, IntKind.signed, IntKind.bits] using w1
  refine (con_run (vs := [v0, .int .i64 n1]) (EvalApart_c L0 hn0 n1) ⟨_, _, rfl, hL0, _, _, rfl, ⟨rfl, rfl⟩, rfl⟩ (gl_of hL)).mono ?_
  rintro e W' ⟨rfl, hb⟩
  exact ⟨_, rfl, law_post rfl hW' rfl rfl rfl rfl Tryz.underlying4 laidOut (by kernel_rfl) hb⟩

theorem reads (os : Os) {H : Type} (enc : TypeId × Value → H) : ∃ places, DataW.whole enc Tryz.prog ((laidWorld os).forCall (fun _ _ => 0) ⟨#[], #[.slice none 0 0, .int .i64 0], []⟩).memory Tryz.f11.params.toList Rows.evalApartSpec.vars false #[Value.slice none 0 0, .int .i64 0].toList 8 = some ([.nil, .lit (.int .i64 0)], [], places) :=
  ⟨[], by kernel_rfl⟩

set_option maxRecDepth 100000 in
theorem lifted (os : Os) (started : os.Started) (H : Type) (enc : TypeId × Value → H) (F : Stop.Interp) :
    ReturnsInHanded {} Tryz.checked os 11 .any ((OpenSpec.ofChange Rows.evalApartSpec).preRow enc Tryz.prog Tryz.f11 Rows.evalApartRow.domain false Rows.evalApartRow.laid) (((OpenSpec.ofChange Rows.evalApartSpec).at F).post enc Tryz.prog Tryz.f11 false true false false) := by
  obtain ⟨places, hx⟩ := reads os enc
  refine returnsInHanded_of_row (C := Tryz.checked) (s := OpenSpec.ofChange Rows.evalApartSpec) own started (by kernel_rfl) Tryz.func11
    (witness_row_atRef (enc := enc) (C := Tryz.checked) false (laidWorld os) _ rfl (by kernel_rfl) (by kernel_rfl) (by kernel_rfl)
      (OpenSpec.preRow_of_cond 8 hx (by kernel_rfl) (fun k hk => by cases hk) (by kernel_rfl) (laid_met os _))) ?_
  intro W base args ds gs before hval hW _ _ _ hL _ _
  exact contract H enc W base args ds gs before hval hW hL

theorem said : Rows.EvalApartSaid :=
  OpenClaim.holds_of_cond 11 Tryz.f11 rfl rfl rfl rfl rfl rfl rfl ⟨rfl, rfl, rfl, rfl, rfl⟩ rfl rfl rfl rfl rfl (by kernel_rfl) Tryz.func11 (by kernel_rfl)
    (of_decide_eq_true (by kernel_rfl)) (by unfold Func.isWrapper; first | (rw [if_pos (by decide +kernel)]; kernel_rfl) | (rw [if_neg (by decide +kernel)]; exact ⟨rfl, rfl⟩))
    (fun os started H enc _ F => by rw [OpenClaim.pre_eq_preRow]; exact lifted os started H enc F)

theorem plain (f : FuncId) (fn : Func) (hf : Tryz.pinned.checked.prog.funcNamed "timebound/timeboundlaw06.EvalApart" = some f) (hfn : Tryz.pinned.checked.prog.funcs[f]? = some fn) :
    false = Tryz.pinned.checked.prog.looks [] ∧ ∀ (j : Nat) t, fn.params[j]? = some t → Tryz.pinned.checked.prog.wantsStandIn t = false := by
  obtain rfl : f = 11 := Option.some.inj ((show Tryz.prog.funcNamed "timebound/timeboundlaw06.EvalApart" = some 11 by kernel_rfl).symm.trans hf) |>.symm
  obtain rfl : fn = Tryz.f11 := (Option.some.inj (Tryz.func11.symm.trans hfn)).symm
  refine ⟨by kernel_rfl, fun j t ht => ?_⟩
  have hall : (Tryz.f11.params.toList.all fun u => !Tryz.prog.wantsStandIn u) = true := by kernel_rfl
  have hm : t ∈ Tryz.f11.params.toList := by simpa using Array.mem_of_getElem? ht
  exact (show Tryz.prog.wantsStandIn t = false by simpa using List.all_eq_true.1 hall t hm)

theorem card : Rows.EvalApartCardSaid :=
  Claim7.holds_tied_plain_at .later [] _ _ _ _ said (fun _ h => by cases h) (by kernel_rfl) (fun _ h => by cases h) evalApart_row_tie rfl ⟨rfl, rfl⟩ (by kernel_rfl) rfl plain (by kernel_rfl)
end Go.Proofs.YtalkkcfojplmdaaGreatDoor.evalApart
end
