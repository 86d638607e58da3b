/- What is proved: EvalLoops of the package timeboundlaw06 returns true for all its arguments, and its arguments read as before. The card ties the listed tables (two of math/bits, the powers of ten, the keywords, the signs) to the text of the program. -/
import Derived.Test.YtalkkcfojplmdaaGreatDoorMo7
import Derived.Test.YtalkkcfojplmdaaGreatDoorCards
import Derived.Test.YtalkkcfojplmdaaGreatDoorTie
import Derived.SliceStrings
import Derived.WalkKit
import Derived.ProofKit
import Derived.OpenShut
import Derived.LaidMore
import Derived.Stop.Joined
import Derived.Stop.LaidErr
import Derived.Deep.DeepHandedRow
import Derived.Lib.LaidTab
import Derived.Lib.SmallJoins
import Derived.Carry
import Derived.Deep.DeepWitnessRowRef
section
namespace Go.Proofs.YtalkkcfojplmdaaGreatDoor
open Go.Vc
attribute [local irreducible] JL JC JQ OpWp Con ConN HOk
attribute [local irreducible] evJ evF Jb.arr
set_option maxHeartbeats 4000000

theorem eRun_c (p : Pg) (hp : PgOk p) (hr : ckF p = 0 → ∀ t ∈ p.tasks, Rn p t) (task : Int) (ins : List Int) (ss : List (List Int)) :
    Con Tryz.prog 31 [.row p.row, In .i64 task, .cell (.list (ins.map Irow)), .cell (.list (ss.map LRow))] [] (fun K => K (.tup [.row (OutRow (runF p task ins ss).1), In .i64 (runF p task ins ss).2]) []) := by
  have hC := cProgram5_c p hp
  refine con_intro Tryz.func31 rfl rfl (Nat.le_of_ble_eq_true rfl) (fun c hc => ?_)
  by_cases hne : ckF p ≠ 0
  · have hres : runF p task ins ss = (outZ, ckF p) := by unfold runF; rw [if_pos hne]
    refine R_ (o_ r_ (ci_ r_ (fun bx => o_ r_ (bl_ r_ r_ (fun bl => E_ r_ (T_ (am_ (R_ (A_ 1 r_ (o_ r_ (bm_ r_ (hC) (E_ r_ (T_ (R_ (M_ r_ (o_ r_ (bx_ r_ r_ (T_ (aq_ r_ u_ ?_)))))))))))))))))))
    refine R_ (o_ r_ (bu_ r_ r_ r_ r_ r_ (M_ r_ (S_ 0 r_ (E_ r_ (T_ (ar_ (aw_ (jq_row 0 (OutRow outZ) rfl ?_ ?_)))))))))
    · (repeat (first | exact RowLe.nil | refine RowLe.cons (CLe.refl _) ?_ | refine RowLe.cons CLe.nil ?_))
    · exact jq_retRowT rfl rfl rfl rfl rfl 0 rfl (fun K h => by rw [hres] at h; exact h) sub_end
  have h0 : ckF p = 0 := Classical.not_not.1 hne
  have eT : (p.tasks.map Tk.row).length = p.tasks.length := List.length_map _
  by_cases ht : ¬ (0 ≤ task ∧ task < (p.tasks.length : Int))
  · have hres : runF p task ins ss = (outZ, 8) := by unfold runF; rw [if_neg hne, if_neg ht]
    by_cases ht0 : task < 0
    · refine R_ (o_ r_ (ci_ r_ (fun bx => o_ r_ (bl_ r_ r_ (fun bl => E_ r_ (T_ (am_ (R_ (A_ 1 r_ (o_ r_ (bm_ r_ (hC) (E_ r_ (T_ (R_ (M_ r_ (o_ r_ (bx_ r_ r_ (T_ (ap_ r_ w_ ?_)))))))))))))))))))
      refine as_ (al_ (am_ (R_ (M_ r_ (o_ r_ (bw_ r_ r_ (M_ r_ (ai_ r_ u_ b_ (ai_ r_ u_ b_ (ai_ r_ u_ b_ (ai_ r_ u_ b_ (ai_ r_ u_ b_ (o_ r_ (bp_ r_ u_ r_ (T_ (aq_ r_ r_ (R_ ?_)))))))))))))))))
      refine o_ r_ (bu_ r_ r_ r_ r_ r_ (S_ 0 r_ (E_ r_ (T_ (ar_ (aw_ (jq_row 0 (OutRow outZ) rfl ?_ ?_)))))))
      · (repeat (first | exact RowLe.nil | refine RowLe.cons (CLe.refl _) ?_ | refine RowLe.cons CLe.nil ?_))
      · exact jq_retRowT rfl rfl rfl rfl rfl 0 rfl (fun K h => by rw [hres] at h; exact h) sub_end
    · have ht1 : task ≥ ((p.tasks.map Tk.row).length : Int) := by omega
      refine R_ (o_ r_ (ci_ r_ (fun bx => o_ r_ (bl_ r_ r_ (fun bl => E_ r_ (T_ (am_ (R_ (A_ 1 r_ (o_ r_ (bm_ r_ (hC) (E_ r_ (T_ (R_ (M_ r_ (o_ r_ (bx_ r_ r_ (T_ (ap_ r_ w_ ?_)))))))))))))))))))
      refine as_ (al_ (am_ (R_ (M_ r_ (o_ r_ (bw_ r_ r_ (M_ r_ (ah_ r_ w_ b_ (bd_ r_ (ah_ r_ w_ b_ (bf_ r_ r_ r_ b_ (ah_ r_ w_ b_ (bg_ 1 r_ r_ r_ r_ (ah_ r_ w_ b_ (br_ r_ (fun hlen => ah_ r_ w_ b_ (cn_ r_ r_ (o_ r_ (bv_ r_ w_ r_ (T_ (aq_ r_ u_ (R_ ?_))))))))))))))))))))))
      refine o_ r_ (bu_ r_ r_ r_ r_ r_ (S_ 0 r_ (E_ r_ (T_ (ar_ (aw_ (jq_row 0 (OutRow outZ) rfl ?_ ?_)))))))
      · (repeat (first | exact RowLe.nil | refine RowLe.cons (CLe.refl _) ?_ | refine RowLe.cons CLe.nil ?_))
      · exact jq_retRowT rfl rfl rfl rfl rfl 0 rfl (fun K h => by rw [hres] at h; exact h) sub_end
  have ht := Classical.not_not.1 ht
  obtain ⟨n, rfl⟩ : ∃ n : Nat, task = (n : Int) := ⟨task.toNat, by omega⟩
  have hn : n < p.tasks.length := by omega
  have hn1 : ¬ (n : Int) < 0 := by omega
  have hn2 : ¬ (n : Int) ≥ ((p.tasks.map Tk.row).length : Int) := by omega
  have hRn := hr h0 p.tasks[n] (List.getElem_mem hn)
  have htz := hp.sz.tasks p.tasks[n] (List.getElem_mem hn)
  have hF : runF p (n : Int) ins ss = if fitB (p.tasks[n]).inputs ins = false then (outZ, 9) else if filB p.shared ss = false then (outZ, 10) else (runO p p.tasks[n] ins ss, 0) := by
    unfold runF
    rw [if_neg hne, if_pos ht, show ((n : Int)).toNat = n by omega, List.getD_eq_getElem?_getD, List.getElem?_eq_getElem hn]
    rfl
  have hI := pfits_c (p.tasks[n]).inputs ins
  have hS := pfilled_c p.shared ss
  cases hf : fitB (p.tasks[n]).inputs ins with
  | false =>
    rw [hf] at hI
    have hres : runF p (n : Int) ins ss = (outZ, 9) := by rw [hF, if_pos hf]
    refine R_ (o_ r_ (ci_ r_ (fun bx => o_ r_ (bl_ r_ r_ (fun bl => E_ r_ (T_ (am_ (R_ (A_ 1 r_ (o_ r_ (bm_ r_ (hC) (E_ r_ (T_ (R_ (M_ r_ (o_ r_ (bx_ r_ r_ (T_ (ap_ r_ w_ ?_)))))))))))))))))))
    refine as_ (al_ (am_ (R_ (M_ r_ (o_ r_ (bw_ r_ r_ (M_ r_ (ah_ r_ w_ b_ (bd_ r_ (ah_ r_ w_ b_ (bf_ r_ r_ r_ b_ (ah_ r_ w_ b_ (bg_ 1 r_ r_ r_ r_ (ah_ r_ w_ b_ (br_ r_ (fun hlen => ah_ r_ w_ b_ (cn_ r_ r_ (o_ r_ (bv_ r_ r_ r_ (T_ (ap_ r_ w_ (as_ ?_))))))))))))))))))))))
    refine al_ (R_ (F_ r_ (L_ 1 r_ (M_ r_ (o_ r_ (cc_ r_ r_ g_ r_ r_ b_ (o_ r_ (cr_ r_ r_ r_ (o_ r_ (bl_ r_ r_ (fun bl => S_ 0 r_ (T_ (B_ (R_ (F_ r_ (L_ 0 r_ (M_ r_ (o_ r_ (bm_ r_ (hI) ?_)))))))))))))))))))
    refine o_ r_ (cd_ r_ (E_ r_ (T_ (aq_ r_ r_ (R_ (o_ r_ (bu_ r_ r_ r_ r_ r_ (S_ 1 r_ (E_ r_ (T_ (ar_ (az_ (aw_ (jq_row 0 (OutRow outZ) rfl ?_ ?_))))))))))))))
    · (repeat (first | exact RowLe.nil | refine RowLe.cons (CLe.refl _) ?_ | refine RowLe.cons CLe.nil ?_))
    · exact jq_retRowT rfl rfl rfl rfl rfl 0 rfl (fun K h => by rw [hres] at h; exact h) sub_end
  | true =>
    rw [hf] at hI
    cases hfl : filB p.shared ss with
    | false =>
      rw [hfl] at hS
      have hres : runF p (n : Int) ins ss = (outZ, 10) := by rw [hF, if_neg (by rw [hf]; decide), if_pos hfl]
      refine R_ (o_ r_ (ci_ r_ (fun bx => o_ r_ (bl_ r_ r_ (fun bl => E_ r_ (T_ (am_ (R_ (A_ 1 r_ (o_ r_ (bm_ r_ (hC) (E_ r_ (T_ (R_ (M_ r_ (o_ r_ (bx_ r_ r_ (T_ (ap_ r_ w_ ?_)))))))))))))))))))
      refine as_ (al_ (am_ (R_ (M_ r_ (o_ r_ (bw_ r_ r_ (M_ r_ (ah_ r_ w_ b_ (bd_ r_ (ah_ r_ w_ b_ (bf_ r_ r_ r_ b_ (ah_ r_ w_ b_ (bg_ 1 r_ r_ r_ r_ (ah_ r_ w_ b_ (br_ r_ (fun hlen => ah_ r_ w_ b_ (cn_ r_ r_ (o_ r_ (bv_ r_ r_ r_ (T_ (ap_ r_ w_ (as_ ?_))))))))))))))))))))))
      refine al_ (R_ (F_ r_ (L_ 1 r_ (M_ r_ (o_ r_ (cc_ r_ r_ g_ r_ r_ b_ (o_ r_ (cr_ r_ r_ r_ (o_ r_ (bl_ r_ r_ (fun bl => S_ 0 r_ (T_ (B_ (R_ (F_ r_ (L_ 0 r_ (M_ r_ (o_ r_ (bm_ r_ (hI) ?_)))))))))))))))))))
      refine o_ r_ (cd_ r_ (E_ r_ (T_ (ap_ r_ r_ (R_ (F_ r_ (L_ 2 r_ (M_ r_ (o_ r_ (bm_ r_ (hS) (o_ r_ (cd_ r_ (E_ r_ (T_ (aq_ r_ r_ (R_ (o_ r_ (bu_ r_ r_ r_ r_ r_ (S_ 1 r_ ?_)))))))))))))))))))
      refine E_ r_ (T_ (ar_ (az_ (aw_ (jq_row 0 (OutRow outZ) rfl ?_ ?_)))))
      · (repeat (first | exact RowLe.nil | refine RowLe.cons (CLe.refl _) ?_ | refine RowLe.cons CLe.nil ?_))
      · exact jq_retRowT rfl rfl rfl rfl rfl 0 rfl (fun K h => by rw [hres] at h; exact h) sub_end
    | true =>
      rw [hfl] at hS
      have hres : runF p (n : Int) ins ss = (runO p p.tasks[n] ins ss, 0) := by rw [hF, if_neg (by rw [hf]; decide), if_neg (by rw [hfl]; decide)]
      clear hF
      refine R_ (o_ r_ (ci_ r_ (fun bx => o_ r_ (bl_ r_ r_ (fun bl => E_ r_ (T_ (am_ (R_ (A_ 1 r_ (o_ r_ (bm_ r_ (hC) (E_ r_ (T_ (R_ (M_ r_ (o_ r_ (bx_ r_ r_ (T_ (ap_ r_ w_ ?_)))))))))))))))))))
      refine as_ (al_ (am_ (R_ (M_ r_ (o_ r_ (bw_ r_ r_ (M_ r_ (ah_ r_ w_ b_ (bd_ r_ (ah_ r_ w_ b_ (bf_ r_ r_ r_ b_ (ah_ r_ w_ b_ (bg_ 1 r_ r_ r_ r_ (ah_ r_ w_ b_ (br_ r_ (fun hlen => ah_ r_ w_ b_ (cn_ r_ r_ (o_ r_ (bv_ r_ r_ r_ (T_ (ap_ r_ w_ (as_ ?_))))))))))))))))))))))
      refine al_ (R_ (F_ r_ (L_ 1 r_ (M_ r_ (o_ r_ (cc_ r_ r_ g_ r_ r_ b_ (o_ r_ (cr_ r_ r_ r_ (o_ r_ (bl_ r_ r_ (fun bl => S_ 0 r_ (T_ (B_ (am_ ?_))))))))))))))
      generalize p.tasks[n] = t at *
      refine an_ (F_ r_ (L_ 0 r_ (M_ r_ (o_ r_ (bm_ r_ (hI) (o_ r_ (cd_ r_ (E_ r_ (T_ (ap_ r_ r_ (R_ (F_ r_ (L_ 2 r_ (M_ r_ (o_ r_ (bm_ r_ (hS) (o_ r_ (cd_ r_ (E_ r_ ?_)))))))))))))))))))
      refine T_ (ap_ r_ r_ (as_ (ay_ (al_ (am_ ?_)))))
      rename_i ht2 bo
      generalize bx = bp at *
      refine an_ (o_ r_ (ow_makeMapE ByteArray Int (Value.int .i64) (fun bv hbv => o_ r_ (ow_makeMapE ByteArray Int (Value.int .i64) (fun bv hbv => A_ 2 r_ (o_ r_ (bm_ r_ (pPoints_c _) (o_ r_ (ow_makeSliceI 39 rfl rfl rfl rfl rfl rfl g_ (fun vc hvc fvc => o_ r_ (bu_ r_ r_ r_ r_ r_ (o_ r_ (ci_ r_ (fun bx => E_ r_ (T_ (R_ (E_ r_ (T_ (am_ (R_ (F_ r_ ?_)))))))))))))))))))))
      refine L_ 4 r_ (o_ r_ (br_ r_ (fun hlen => M_ r_ (T_ ?_))))
      rename_i bV hbV
      generalize bl = bt at *
      generalize bx = bj at *
      have zi := htz.inputs
      have zv := htz.vars
      have hA1 := hRn.a1
      have hS1 := hRn.s1
      refine au_ (jc_ownNil 9 1 g_ ?_)
      have hfl2 : t.inputs.length = ins.length := by
        unfold fitB at hf
        simp only [Bool.and_eq_true, decide_eq_true_eq] at hf
        exact hf.1
      refine jc_loopS (ι := Nat × Value × List ByteArray) [] (fun i => i.1 ≤ (t.inputs).length ∧ i.2.2 = (t.inputs.take i.1).map (·.1)) (fun i => (72, In .i64 (i.1 : Int)) :: (13, .cell (.val i.2.1)) :: [(70, .cell (.list (t.inputs.map InRow))), (71, In .i64 ((t.inputs.map InRow).length : Int)), (2, .cell (.list (ins.map Irow))), (11, .cell (.val (.pointer (some ⟨bt, 0, none⟩)))), (4, .cell (.val (.pointer (some ⟨bp, 0, none⟩)))), (12, .cell (.val (.pointer (some ⟨bj, 0, none⟩)))), (3, .cell (.list (ss.map LRow))), (8, .cell (.val (.pointer (some ⟨bo, 0, none⟩))))]) (fun i => (.own i.2.1 9 1 (i.2.2.map Wrow)) :: [.mapc bV (mapE (Value.int .i64) (fillF [] (((t.inputs.map (·.1)).zip ins).take i.1))), .mapc bv (mapE (fun v : Value => v) ([] : List (ByteArray × Value))), .blk bj 115 [.val (.map (some bV)), .val (.map (some bv)), .val vc, .val (.int .i64 0)], .own vc 3 1 ((List.replicate 39 (0 : Int)).map Irow), .blk bt 39 t.row, .blk bp 31 p.row, .blk bo 46 [.val (.slice none 0 0), .val (.slice none 0 0), .val (.slice none 0 0), .val (.slice none 0 0), .val (.int .i64 0)]]) (fun i => (t.inputs).length - i.1) (0, .slice none 0 0, []) ⟨Nat.zero_le _, rfl⟩ ?_ ?_ ?_
      · exact bc_ 0 r_ (bc_ 3 r_ (bc_ 2 r_ (bc_ 0 r_ (bc_ 0 r_ (bc_ 0 r_ (bc_ 1 r_ (bc_ 0 r_ sub_end)))))))
      · (repeat (first | exact True.intro | refine ⟨rfl, ?_⟩))
      rintro ⟨k, v, B⟩ hz
      dsimp only at hz ⊢
      obtain ⟨hk, hB⟩ := hz
      have eLk : ((t.inputs).map InRow).length = (t.inputs).length := List.length_map _
      by_cases hltk : k < (t.inputs).length
      · have hltk2 : (k : Int) < (((t.inputs).map InRow).length : Int) := by omega
        have hBl := congrArg List.length hB
        simp only [List.length_map, List.length_take] at hBl
        have hkv : k < ins.length := by omega
        have hkv2 : (k : Int) < ((ins.map Irow).length : Int) := by rw [List.length_map]; omega
        have hkz : k < ((t.inputs.map (·.1)).zip ins).length := by rw [List.length_zip, List.length_map]; omega
        have hgz : ((t.inputs.map (·.1)).zip ins)[k] = ((t.inputs[k]).1, ins[k]) := by rw [List.getElem_zip, List.getElem_map]
        refine R_ (o_ r_ (bw_ r_ r_ (T_ (am_ (aq_ r_ u_ (as_ (al_ (B_ (R_ (M_ r_ (o_ r_ (cc_ r_ r_ g_ r_ r_ b_ (o_ r_ (cr_ r_ r_ r_ (o_ r_ (bl_ r_ r_ (fun bl => E_ r_ (S_ 0 r_ (T_ ?_)))))))))))))))))))
        refine R_ (M_ r_ (F_ r_ (L_ 0 r_ (o_ r_ (bq_ r_ r_ b_ r_ r_ b_ (o_ r_ (ow_append1 1 ((t.inputs[k]).1) rfl rfl rfl rfl rfl rfl rfl (fun _ => rfl) (by show (_ + _) * 16 ≤ _; first | omega | (simp only [List.length_append]; omega)) (by first | omega | (simp only [List.length_append]; omega)) (fun v1 hv1 => E_ r_ (T_ (jc_anyB 10 none rfl k_ k_ (yM_ r_ (yN_ r_ (yF_ r_ (yL_ 4 r_ (yF_ r_ (yL_ 1 r_ (yM_ r_ ?_)))))))))))))))))
        refine yM_ r_ (aa_ (fun c => cc_ r_ r_ g_ r_ r_ b_ p_) (aa_ (fun c => cb_ r_ r_ p_) (ae_ (afin_none (ag_ (ow_mapPut (κ := ByteArray) (vv := Value.int .i64) (M := fillF [] (((t.inputs.map (·.1)).zip ins).take k)) 2 r_ r_ r_ r_ r_ (ak_ (ay_ (al_ (an_ (o_ r_ (bj_ r_ r_ g_ (M_ r_ (ak_ ?_))))))))))))))
        refine jq_againS (i := (k, v, B)) (k + 1, v1, B ++ [(t.inputs[k]).1]) ⟨hltk, by dsimp only; rw [hB, List.take_succ_eq_append_getElem hltk, List.map_append]; rfl⟩ (by dsimp only; omega) ?_ ?_
        · rw [List.take_succ_eq_append_getElem hkz, hgz, fill_snoc]
          exact bc_ 1 r_ (bc_ 0 r_ (bc_ 1 r_ (bc_ 1 r_ (bc_ 1 r_ (bc_ 1 r_ (bc_ 1 r_ (bc_ 1 r_ sub_end)))))))
        · (repeat (first | exact True.intro | refine ⟨rfl, ?_⟩))
      · have hltk2 : ¬ (k : Int) < (((t.inputs).map InRow).length : Int) := by omega
        rw [List.take_of_length_le (by omega)] at hB
        have hzl : ((t.inputs.map (·.1)).zip ins).length ≤ k := by rw [List.length_zip, List.length_map]; omega
        rw [List.take_of_length_le hzl]
        subst hB
        have eVl : (t.vars.map Wrow).length = t.vars.length := List.length_map _
        have eBl : (t.inputs.map (·.1)).length = t.inputs.length := List.length_map _
        refine R_ (o_ r_ (bw_ r_ r_ (T_ (am_ (ap_ r_ w_ (av_ (ax_ (ax_ (ba_ (al_ (R_ (M_ r_ (F_ r_ (L_ 5 r_ (o_ r_ (ow_appendM 0 rfl rfl rfl rfl rfl rfl rfl (fun _ => rfl) (by show (_ + _) * 16 ≤ _; first | omega | (simp only [List.length_append]; omega)) (by first | omega | (simp only [List.length_append]; omega)) (fun v1 hv1 => E_ r_ ?_)))))))))))))))))
        refine T_ (am_ (am_ (jc_freeze 13 0 rfl rfl (by rw [hc]; simp [hb]) ?_)))
        clear hltk hltk2 hk eVl eBl hzl
        refine jc_ownNil 3 1 g_ (jc_ownNil 3 1 g_ (an_ (F_ r_ (L_ 6 r_ (o_ r_ (br_ r_ (fun hlen => M_ r_ (T_ (au_ ?_)))))))))
        refine jc_loopS (ι := Nat × Value) [] (fun i => i.1 ≤ (t.arrays).length ∧ i.2.oneCell' = true) (fun i => (100, In .i64 (i.1 : Int)) :: [(98, .cell (.list (t.arrays.map ArRow))), (99, In .i64 ((t.arrays.map ArRow).length : Int)), (13, .cell (.list ((t.inputs.map (·.1) ++ t.vars).map Wrow))), (11, .cell (.val (.pointer (some ⟨bt, 0, none⟩)))), (4, .cell (.val (.pointer (some ⟨bp, 0, none⟩)))), (12, .cell (.val (.pointer (some ⟨bj, 0, none⟩)))), (3, .cell (.list (ss.map LRow))), (8, .cell (.val (.pointer (some ⟨bo, 0, none⟩))))]) (fun i => (.own i.2 3 1 ((kIf i.1 (List.replicate (t.arrays.headD (⟨#[]⟩, 0)).2.toNat (0 : Int))).map Irow)) :: [.own (.slice none 0 0) 3 1 (([] : List Int).map Irow), .mapc bV (mapE (Value.int .i64) (fillF [] ((t.inputs.map (·.1)).zip ins))), .mapc bv (mapE (fun v : Value => v) (fillF [] ((t.arrays.take i.1).map (fun x => (x.1, i.2))))), .blk bj 115 [.val (.map (some bV)), .val (.map (some bv)), .val vc, .val (.int .i64 0)], .own vc 3 1 ((List.replicate 39 (0 : Int)).map Irow), .blk bt 39 t.row, .blk bp 31 p.row, .blk bo 46 [.val (.slice none 0 0), .val (.slice none 0 0), .val (.slice none 0 0), .val (.slice none 0 0), .val (.int .i64 0)]]) (fun i => (t.arrays).length - i.1) (0, .slice none 0 0) ⟨Nat.zero_le _, rfl⟩ ?_ ?_ ?_
        · exact bc_ 0 r_ (bc_ 0 r_ (bc_ 0 r_ (bc_ 0 r_ (bc_ 0 r_ (bc_ 0 r_ (bc_ 0 r_ (bc_ 0 r_ (bc_ 0 r_ sub_end))))))))
        · (repeat (first | exact True.intro | refine ⟨rfl, ?_⟩))
        rintro ⟨k, v⟩ hz
        dsimp only at hz ⊢
        obtain ⟨hk, hva⟩ := hz
        have eLk : ((t.arrays).map ArRow).length = (t.arrays).length := List.length_map _
        by_cases hltk : k < (t.arrays).length
        · have hltk2 : (k : Int) < (((t.arrays).map ArRow).length : Int) := by omega
          obtain rfl : k = 0 := by omega
          have hsz : (t.arrays[0]).2 = (((t.arrays.headD (⟨#[]⟩, 0)).2.toNat : Nat) : Int) ∧ (t.arrays.headD (⟨#[]⟩, 0)).2.toNat ≤ 16 := by
            have h1 := hRn.asz t.arrays[0] (List.getElem_mem hltk)
            rw [hd_get hltk]
            omega
          obtain ⟨hsz, hszl⟩ := hsz
          have hone : ∀ v : Value, fillF [] ((t.arrays.take 1).map (fun x => (x.1, v))) = aset [] (t.arrays[0]).1 v := by intro v; rw [one_take hltk]; rfl
          refine R_ (o_ r_ (bw_ r_ r_ (T_ (am_ (aq_ r_ u_ (as_ (al_ (B_ (R_ (o_ r_ (cc_ r_ r_ g_ r_ r_ b_ (o_ r_ (cr_ r_ r_ r_ (o_ r_ (bl_ r_ r_ (fun bl => S_ 0 r_ (T_ (jc_hpV2 9 (n := 10) rfl 0 4 [.string (t.arrays[0]).1, .int .i64 (t.arrays[0]).2] [.map (some bV), .map (some bv), vc, .int .i64 0] k_ rfl rfl rfl ?_))))))))))))))))))
          refine df_ (i := 0) rfl k_ k_ k_ b_ (by (repeat (first | refine pani_then ?_ | refine pani_block ?_)); exact pani_body) (dk_ rfl) ?_
          refine df_ (i := 1) rfl k_ k_ k_ b_ (by (repeat (first | refine pani_then ?_ | refine pani_block ?_)); exact pani_body) (dr_ rfl) ?_
          refine df_ (i := 2) rfl k_ k_ k_ b_ (by (repeat (first | refine pani_then ?_ | refine pani_block ?_)); exact pani_body) (dl_ rfl rfl rfl b_) ?_
          refine df_ (i := 3) rfl k_ k_ k_ b_ (by (repeat (first | refine pani_then ?_ | refine pani_block ?_)); exact pani_body) (dm_ 5 rfl rfl rfl mem1 rfl) ?_
          refine df_ (i := 4) rfl k_ k_ k_ b_ (by (repeat (first | refine pani_then ?_ | refine pani_block ?_)); exact pani_body) (dl_ rfl rfl rfl b_) ?_
          refine df_ (i := 5) rfl k_ k_ k_ b_ (by (repeat (first | refine pani_then ?_ | refine pani_block ?_)); exact pani_body) (dm_ 0 rfl rfl rfl mem0 rfl) ?_
          refine df_ (i := 6) rfl k_ k_ k_ b_ (by (repeat (first | refine pani_then ?_ | refine pani_block ?_)); exact pani_body) (dl_ rfl rfl rfl b_) ?_
          refine df_ (i := 7) rfl k_ k_ k_ b_ (by (repeat (first | refine pani_then ?_ | refine pani_block ?_)); exact pani_body) (dm_ 0 rfl rfl rfl mem0 rfl) ?_
          refine dg_ (i := 8) rfl k_ b_ (ow_makeSliceI (t.arrays.headD (⟨#[]⟩, 0)).2.toNat rfl rfl rfl rfl rfl hsz g_ (fun va1 hva1 fva1 => ⟨?_, ?_⟩))
          exact keep2 1 6 rfl rfl
          refine hp_tail (dj_ (i := 9) rfl k_ (by decide) (ow_mapPut (κ := ByteArray) (vv := fun v : Value => v) (M := ([] : List (ByteArray × Value))) 5 rfl rfl rfl rfl rfl (ht_done k_ (ay_ (al_ (an_ (o_ r_ (bj_ r_ r_ g_ (M_ r_ (ak_ (jq_againS (i := (0, v)) (1, va1) ⟨by omega, hva1⟩ (by dsimp only; omega) ?_ ?_)))))))))))
          · dsimp only
            rw [hone]
            exact bc_ 1 r_ (bc_ 3 r_ (bc_ 3 r_ (bc_ 0 r_ (bc_ 2 r_ (bc_ 2 r_ (bc_ 2 r_ (bc_ 2 r_ (bc_ 2 r_ sub_end))))))))
          · (repeat (first | exact True.intro | refine ⟨rfl, ?_⟩))
        · have hltk2 : ¬ (k : Int) < (((t.arrays).map ArRow).length : Int) := by omega
          rw [show t.arrays.take k = t.arrays from List.take_of_length_le (by omega)]
          obtain rfl : k = t.arrays.length := by omega
          have hsl0 : ∀ h : 0 < ss.length, (ss[0]).length ≤ 1000000 := fil_hd hfl hRn.ssz
          have hsl : p.shared.length = ss.length := by
            unfold filB at hfl
            rw [Bool.and_eq_true, decide_eq_true_eq] at hfl
            exact hfl.1
          generalize v = va at *
          clear hltk hltk2 hk
          refine R_ (o_ r_ (bw_ r_ r_ (T_ (am_ (ap_ r_ v_ (av_ (ax_ (ax_ (ba_ (al_ (am_ (R_ (F_ r_ (L_ 7 r_ (o_ r_ (br_ r_ (fun hlen => M_ r_ ?_)))))))))))))))))
          refine T_ (au_ ?_)
          refine jc_loopS (ι := Nat × Value) [] (fun i => i.1 ≤ (p.shared).length ∧ i.2.oneCell' = true) (fun i => (117, In .i64 (i.1 : Int)) :: [(115, .cell (.list (p.shared.map ShRow))), (116, In .i64 ((p.shared.map ShRow).length : Int)), (13, .cell (.list ((t.inputs.map (·.1) ++ t.vars).map Wrow))), (11, .cell (.val (.pointer (some ⟨bt, 0, none⟩)))), (4, .cell (.val (.pointer (some ⟨bp, 0, none⟩)))), (12, .cell (.val (.pointer (some ⟨bj, 0, none⟩)))), (3, .cell (.list (ss.map LRow))), (8, .cell (.val (.pointer (some ⟨bo, 0, none⟩))))]) (fun i => (.own i.2 3 1 ((kIf i.1 (ss.headD [])).map Irow)) :: [.own va 3 1 ((ca0 t.arrays).map Irow), .mapc bV (mapE (Value.int .i64) (fillF [] ((t.inputs.map (·.1)).zip ins))), .mapc bv (mapE (fun v : Value => v) (fillF (fillF [] (t.arrays.map (fun x => (x.1, va)))) ((p.shared.take i.1).map (fun x => (x.1, i.2))))), .blk bj 115 [.val (.map (some bV)), .val (.map (some bv)), .val vc, .val (.int .i64 0)], .own vc 3 1 ((List.replicate 39 (0 : Int)).map Irow), .blk bt 39 t.row, .blk bp 31 p.row, .blk bo 46 [.val (.slice none 0 0), .val (.slice none 0 0), .val (.slice none 0 0), .val (.slice none 0 0), .val (.int .i64 0)]]) (fun i => (p.shared).length - i.1) (0, .slice none 0 0) ⟨Nat.zero_le _, rfl⟩ ?_ ?_ ?_
          · exact bc_ 1 r_ (bc_ 0 r_ (bc_ 0 r_ (bc_ 0 r_ (bc_ 0 r_ (bc_ 0 r_ (bc_ 0 r_ (bc_ 0 r_ (bc_ 0 r_ sub_end))))))))
          · (repeat (first | exact True.intro | refine ⟨rfl, ?_⟩))
          rintro ⟨k, v⟩ hz
          dsimp only at hz ⊢
          obtain ⟨hk, hvb⟩ := hz
          have eLk : ((p.shared).map ShRow).length = (p.shared).length := List.length_map _
          by_cases hltk : k < (p.shared).length
          · have hltk2 : (k : Int) < (((p.shared).map ShRow).length : Int) := by omega
            have hS2 := hRn.s1
            obtain rfl : k = 0 := by omega
            have hs0 : 0 < ss.length := by omega
            have hs02 : (0 : Int) < ((ss.map LRow).length : Int) := by rw [List.length_map]; omega
            have hhd : ss.headD [] = ss[0] := hd_get hs0
            have hcl := CloneI_c ss[0] (hsl0 hs0)
            have hone : ∀ (M : List (ByteArray × Value)) (v : Value), fillF M ((p.shared.take 1).map (fun x => (x.1, v))) = aset M (p.shared[0]).1 v := by intro M v; rw [one_take hltk]; rfl
            refine R_ (o_ r_ (bw_ r_ r_ (T_ (am_ (aq_ r_ u_ (as_ (al_ (B_ (R_ (M_ r_ (o_ r_ (cc_ r_ r_ g_ r_ r_ b_ (o_ r_ (cr_ r_ r_ r_ (o_ r_ (bl_ r_ r_ (fun bl => E_ r_ (S_ 0 r_ (T_ ?_)))))))))))))))))))
            refine jc_hpV2 12 (n := 13) rfl 0 4 [.string (p.shared[0]).1, .int .i64 (p.shared[0]).2.1, .string (p.shared[0]).2.2] [.map (some bV), .map (some bv), vc, .int .i64 0] k_ rfl rfl rfl (df_ (i := 0) rfl k_ k_ k_ b_ (by (repeat (first | refine pani_then ?_ | refine pani_block ?_)); exact pani_body) (dk_ rfl) ?_)
            refine df_ (i := 1) rfl k_ k_ k_ b_ (by (repeat (first | refine pani_then ?_ | refine pani_block ?_)); exact pani_body) (dr_ rfl) ?_
            refine df_ (i := 2) rfl k_ k_ k_ b_ (by (repeat (first | refine pani_then ?_ | refine pani_block ?_)); exact pani_body) (dl_ rfl rfl rfl b_) ?_
            refine df_ (i := 3) rfl k_ k_ k_ b_ (by (repeat (first | refine pani_then ?_ | refine pani_block ?_)); exact pani_body) (dm_ 5 rfl rfl rfl mem1 rfl) ?_
            refine df_ (i := 4) rfl k_ k_ k_ b_ (by (repeat (first | refine pani_then ?_ | refine pani_block ?_)); exact pani_body) (dl_ rfl rfl rfl b_) ?_
            refine df_ (i := 5) rfl k_ k_ k_ b_ (by (repeat (first | refine pani_then ?_ | refine pani_block ?_)); exact pani_body) (dl_ rfl rfl rfl b_) ?_
            refine df_ (i := 6) rfl k_ k_ k_ b_ (by (repeat (first | refine pani_then ?_ | refine pani_block ?_)); exact pani_body) (dm_ 0 rfl rfl rfl mem0 rfl) ?_
            refine df_ (i := 7) rfl k_ k_ k_ b_ (by (repeat (first | refine pani_then ?_ | refine pani_block ?_)); exact pani_body) (dk_ rfl) ?_
            refine df_ (i := 8) rfl k_ k_ k_ b_ (by (repeat (first | refine pani_then ?_ | refine pani_block ?_)); exact pani_body) (dk_ rfl) ?_
            refine dg_ (i := 9) r_ k_ b_ (cc_ r_ r_ g_ r_ r_ b_ ⟨?_, ?_⟩)
            exact keep2 0 5 rfl rfl
            refine dg_ (i := 10) r_ k_ b_ (cb_ r_ r_ ⟨?_, ?_⟩)
            exact keep2 0 5 rfl rfl
            refine dg_ (i := 11) rfl k_ b_ (bt_ [] rfl rfl (hcl) (fun pp hpp => ⟨?_, ?_⟩))
            exact keep2 1 6 rfl rfl
            refine hp_tail (dj_ (i := 12) rfl k_ (by decide) (ow_mapPut (κ := ByteArray) (vv := fun v : Value => v) (M := fillF [] (t.arrays.map (fun x => (x.1, va)))) 5 rfl rfl rfl rfl rfl (ht_done k_ (ay_ (al_ (an_ (o_ r_ (bj_ r_ r_ g_ (M_ r_ (ak_ (jq_againS (i := (0, v)) (1, pp) ⟨by omega, hpp⟩ (by dsimp only; omega) ?_ ?_)))))))))))
            · dsimp only
              rw [hone, kIf, hhd]
              exact bc_ 1 r_ (bc_ 3 r_ (bc_ 3 r_ (bc_ 0 r_ (bc_ 2 r_ (bc_ 2 r_ (bc_ 2 r_ (bc_ 2 r_ (bc_ 2 r_ sub_end))))))))
            · (repeat (first | exact True.intro | refine ⟨rfl, ?_⟩))
          · have hltk2 : ¬ (k : Int) < (((p.shared).map ShRow).length : Int) := by omega
            rw [show p.shared.take k = p.shared from List.take_of_length_le (by omega)]
            obtain rfl : k = p.shared.length := by omega
            generalize v = vb at *
            clear hltk hltk2 hk
            have hV := arV_eq p t va vb
            unfold arV at hV
            rw [hV]
            have hl39 : (List.replicate 39 (0 : Int)).length = 39 := List.length_replicate
            refine R_ (o_ r_ (bw_ r_ r_ (T_ (am_ (ap_ r_ v_ (av_ (ax_ (ax_ (ba_ (al_ (R_ (M_ r_ (N_ r_ (F_ r_ (L_ 4 r_ (o_ r_ (ow_indexI 5 r_ r_ r_ g_ r_ ?_)))))))))))))))))
            refine ag_ (ow_storeI 5 r_ r_ r_ g_ r_ (T_ (am_ ?_)))
            refine jc_reset [(13, .cell (.list ((t.inputs.map (·.1) ++ t.vars).map Wrow))), (11, .cell (.val (.pointer (some ⟨bt, 0, none⟩)))), (4, .cell (.val (.pointer (some ⟨bp, 0, none⟩)))), (12, .cell (.val (.pointer (some ⟨bj, 0, none⟩)))), (8, .cell (.val (.pointer (some ⟨bo, 0, none⟩))))] (JobHE bj bV bv va vb vc (AMof p t) (jb0 p t ins ss) ++ [.blk bt 39 t.row, .blk bp 31 p.row, .blk bo 46 [.val (.slice none 0 0), .val (.slice none 0 0), .val (.slice none 0 0), .val (.slice none 0 0), .val (.int .i64 0)]]) ?_ ?_ ?_
            · (repeat (first | exact True.intro | refine ⟨rfl, ?_⟩))
            · exact bc_ 5 r_ (bc_ 0 r_ (bc_ 2 r_ (bc_ 2 r_ (bc_ 1 r_ (bc_ 0 r_ (bc_ 0 r_ (bc_ 0 r_ (bc_ 0 r_ sub_end))))))))
            have cR := pstmts_c (bj := bj) (bv := bV) (ba := bv) (va := va) (vb := vb) (vc := vc) (AM := AMof p t) _ (am_has hRn hfl) (ca0_le hRn) (cb0_le hRn hfl) hva hvb t.body hRn.rok 1 (jb0 p t ins ss) jb0_ok (by have := hRn.cst; omega)
            refine an_ (M_ r_ (F_ r_ (L_ 6 r_ (o_ r_ (bi_ [0, 0, 0, 0, 0, 0] r_ r_ cR (T_ (am_ ?_)))))))
            refine jc_reset [(13, .cell (.list ((t.inputs.map (·.1) ++ t.vars).map Wrow))), (11, .cell (.val (.pointer (some ⟨bt, 0, none⟩)))), (4, .cell (.val (.pointer (some ⟨bp, 0, none⟩)))), (12, .cell (.val (.pointer (some ⟨bj, 0, none⟩)))), (8, .cell (.val (.pointer (some ⟨bo, 0, none⟩))))] (JobHE bj bV bv va vb vc (AMof p t) (runL (AMof p t) t.body (jb0 p t ins ss)) ++ [.blk bt 39 t.row, .blk bp 31 p.row, .blk bo 46 [.val (.slice none 0 0), .val (.slice none 0 0), .val (.slice none 0 0), .val (.slice none 0 0), .val (.int .i64 0)]]) ?_ ?_ ?_
            · (repeat (first | exact True.intro | refine ⟨rfl, ?_⟩))
            · exact bc_ 0 r_ (bc_ 0 r_ (bc_ 0 r_ (bc_ 0 r_ (bc_ 0 r_ (bc_ 0 r_ (bc_ 0 r_ (bc_ 0 r_ (bc_ 0 r_ sub_end))))))))
            have hrun : runO p t ins ss = ⟨(scaL t).map (fun s => (aget (runL (AMof p t) t.body (jb0 p t ins ss)).V s).getD 0), t.arrays.map (fun _ => (runL (AMof p t) t.body (jb0 p t ins ss)).ca), p.shared.map (fun _ => (runL (AMof p t) t.body (jb0 p t ins ss)).cb), (runL (AMof p t) t.body (jb0 p t ins ss)).cn, (runL (AMof p t) t.body (jb0 p t ins ss)).st⟩ := rfl
            rw [hrun] at hres
            clear cR hrun
            generalize (runL (AMof p t) t.body (jb0 p t ins ss)) = J at hres ⊢
            have eNl : ((t.inputs.map (·.1) ++ t.vars).map Wrow).length = t.inputs.length + t.vars.length := by rw [List.length_map, List.length_append, List.length_map]
            refine jc_anyB 10 (some 9) rfl k_ k_ (yM_ r_ (yN_ r_ (yF_ r_ (yL_ 0 r_ (yM_ r_ (yN_ r_ (yF_ r_ (yL_ 0 r_ (aa_ (fun c => bu_ r_ r_ r_ r_ r_ p_) (af_ (ae_ (afin_some rfl rfl rfl (fun bl => S_ 0 r_ (T_ (am_ ?_)))))))))))))))
            refine R_ (M_ r_ (o_ r_ (br_ r_ (fun hlen => M_ r_ (T_ (au_ ?_))))))
            generalize bl = b2 at *
            refine jc_ownNil 3 1 g_ ?_
            refine jc_loopS (ι := Nat × Value × List Int) [] (fun i => i.1 ≤ ((t.inputs.map (·.1) ++ t.vars)).length ∧ i.2.2 = (((t.inputs.map (·.1) ++ t.vars)).take i.1).map (fun s => (aget J.V s).getD 0)) (fun i => (155, In .i64 (i.1 : Int)) :: (153, .cell (.list ((t.inputs.map (·.1) ++ t.vars).map Wrow))) :: [(154, In .i64 (((t.inputs.map (·.1) ++ t.vars).map Wrow).length : Int)), (20, .cell (.val (.pointer (some ⟨b2, 0, none⟩)))), (11, .cell (.val (.pointer (some ⟨bt, 0, none⟩)))), (4, .cell (.val (.pointer (some ⟨bp, 0, none⟩)))), (12, .cell (.val (.pointer (some ⟨bj, 0, none⟩)))), (8, .cell (.val (.pointer (some ⟨bo, 0, none⟩))))]) (fun i => (.own i.2.1 3 1 (i.2.2.map Irow)) :: .blk b2 46 [.val i.2.1, .val (.slice none 0 0), .val (.slice none 0 0), .val vc, .val (.int .i64 J.st)] :: (JobHE bj bV bv va vb vc (AMof p t) J ++ [.blk bt 39 t.row, .blk bp 31 p.row, .blk bo 46 [.val (.slice none 0 0), .val (.slice none 0 0), .val (.slice none 0 0), .val (.slice none 0 0), .val (.int .i64 0)]])) (fun i => ((t.inputs.map (·.1) ++ t.vars)).length - i.1) (0, .slice none 0 0, []) ⟨Nat.zero_le _, rfl⟩ ?_ ?_ ?_
            · exact bc_ 0 r_ (bc_ 0 r_ (bc_ 0 r_ (bc_ 0 r_ (bc_ 0 r_ (bc_ 0 r_ (bc_ 0 r_ (bc_ 0 r_ (bc_ 0 r_ (bc_ 0 r_ (bc_ 0 r_ sub_end))))))))))
            · (repeat (first | exact True.intro | refine ⟨rfl, ?_⟩))
            rintro ⟨k, v, B⟩ hz
            dsimp only at hz ⊢
            obtain ⟨hk, hB⟩ := hz
            have eLk : (((t.inputs.map (·.1) ++ t.vars)).map Wrow).length = ((t.inputs.map (·.1) ++ t.vars)).length := List.length_map _
            by_cases hltk : k < ((t.inputs.map (·.1) ++ t.vars)).length
            · have hltk2 : (k : Int) < ((((t.inputs.map (·.1) ++ t.vars)).map Wrow).length : Int) := by omega
              have hBl := congrArg List.length hB
              simp only [List.length_map, List.length_take] at hBl
              refine R_ (o_ r_ (bw_ r_ r_ (T_ (am_ (aq_ r_ u_ (as_ (al_ (B_ (R_ (o_ r_ (cc_ r_ r_ g_ r_ r_ b_ (o_ r_ (cb_ r_ r_ (E_ r_ (T_ (jc_hpV2 10 (n := 12) rfl 1 1 [v, .slice none 0 0, .slice none 0 0, vc, .int .i64 J.st] [.map (some bV), .map (some bv), vc, .int .i64 J.st] k_ rfl rfl rfl ?_))))))))))))))))
              refine df_ (i := 0) rfl k_ k_ k_ b_ (by (repeat (first | refine pani_then ?_ | refine pani_block ?_)); exact pani_body) (dl_ rfl rfl rfl b_) ?_
              refine df_ (i := 1) rfl k_ k_ k_ b_ (by (repeat (first | refine pani_then ?_ | refine pani_block ?_)); exact pani_body) (dm_ 1 rfl rfl rfl mem0 rfl) ?_
              refine df_ (i := 2) rfl k_ k_ k_ b_ (by (repeat (first | refine pani_then ?_ | refine pani_block ?_)); exact pani_body) (dk_ rfl) ?_
              refine df_ (i := 3) rfl k_ k_ k_ b_ (by (repeat (first | refine pani_then ?_ | refine pani_block ?_)); exact pani_body) (dr_ rfl) ?_
              refine df_ (i := 4) rfl k_ k_ k_ b_ (by (repeat (first | refine pani_then ?_ | refine pani_block ?_)); exact pani_body) (dl_ rfl rfl rfl b_) ?_
              refine df_ (i := 5) rfl k_ k_ k_ b_ (by (repeat (first | refine pani_then ?_ | refine pani_block ?_)); exact pani_body) (dm_ 2 rfl rfl rfl mem1 rfl) ?_
              refine df_ (i := 6) rfl k_ k_ k_ b_ (by (repeat (first | refine pani_then ?_ | refine pani_block ?_)); exact pani_body) (dk_ rfl) ?_
              refine dg_ (i := 7) r_ k_ b_ (ow_mapGetOI 4 r_ r_ r_ r_ r_ ⟨?_, ?_⟩)
              exact keep2 1 2 rfl rfl
              refine dg_ (i := 8) r_ k_ b_ (bq_ r_ r_ b_ r_ r_ b_ ⟨?_, ?_⟩)
              exact keep2 1 2 rfl rfl
              refine dg_ (i := 9) rfl k_ b_ (ow_append1 0 ((aget J.V ((t.inputs.map (·.1) ++ t.vars))[k]).getD 0) rfl rfl rfl rfl rfl rfl rfl (fun _ => rfl) (by show (_ + 1) * 8 ≤ _ ; first | omega | (simp ; done)) (by first | omega | (simp ; done)) (fun v1 hv1 => ⟨?_, ?_⟩))
              exact keep2 1 2 rfl rfl
              refine df_ (i := 10) rfl k_ k_ k_ b_ (by (repeat (first | refine pani_then ?_ | refine pani_block ?_)); exact pani_body) (dl_ rfl rfl rfl b_) ?_
              refine hp_tail (dj_ (i := 11) rfl k_ (by decide) (ca_ 1 rfl rfl rfl rfl b_ (ht_done k_ (ay_ (al_ (an_ (o_ r_ (bj_ r_ r_ g_ (M_ r_ (ak_ (jq_againS (i := (k, v, B)) (k + 1, v1, B ++ [(aget J.V ((t.inputs.map (·.1) ++ t.vars))[k]).getD 0]) ⟨hltk, by dsimp only; rw [hB, List.take_succ_eq_append_getElem hltk, List.map_append]; rfl⟩ (by dsimp only; omega) ?_ ?_)))))))))))
              · exact bc_ 1 r_ (bc_ 0 r_ (bc_ 0 r_ (bc_ 0 r_ (bc_ 0 r_ (bc_ 0 r_ (bc_ 0 r_ (bc_ 0 r_ (bc_ 0 r_ (bc_ 0 r_ (bc_ 0 r_ sub_end))))))))))
              · (repeat (first | exact True.intro | refine ⟨rfl, ?_⟩))
            · have hltk2 : ¬ (k : Int) < ((((t.inputs.map (·.1) ++ t.vars)).map Wrow).length : Int) := by omega
              rw [show ((t.inputs.map (·.1) ++ t.vars)).take k = (t.inputs.map (·.1) ++ t.vars) from List.take_of_length_le (by omega)] at hB
              generalize v = vV at *
              refine R_ (o_ r_ (bw_ r_ r_ (T_ (am_ (ap_ r_ w_ (av_ (ax_ (ax_ (ba_ (al_ (am_ (R_ (F_ r_ (L_ 8 r_ (o_ r_ (br_ r_ (fun hlen => M_ r_ ?_)))))))))))))))))
              refine T_ (au_ ?_)
              subst hB
              clear hltk hltk2 hk eLk
              refine jc_ownNil 22 1 g_ ?_
              refine jc_loopS (ι := Nat × Value) [] (fun i => i.1 ≤ (t.arrays).length) (fun i => (174, In .i64 (i.1 : Int)) :: [(172, .cell (.list (t.arrays.map ArRow))), (173, In .i64 ((t.arrays.map ArRow).length : Int)), (20, .cell (.val (.pointer (some ⟨b2, 0, none⟩)))), (11, .cell (.val (.pointer (some ⟨bt, 0, none⟩)))), (4, .cell (.val (.pointer (some ⟨bp, 0, none⟩)))), (12, .cell (.val (.pointer (some ⟨bj, 0, none⟩)))), (8, .cell (.val (.pointer (some ⟨bo, 0, none⟩))))]) (fun i => (.own i.2 22 1 ((t.arrays.take i.1).map (fun _ => [C.val va]))) :: .blk b2 46 [.val vV, .val i.2, .val (.slice none 0 0), .val vc, .val (.int .i64 J.st)] :: .own vV 3 1 (((t.inputs.map (·.1) ++ t.vars).map (fun s => (aget J.V s).getD 0)).map Irow) :: (JobHE bj bV bv va vb vc (AMof p t) J ++ [.blk bt 39 t.row, .blk bp 31 p.row, .blk bo 46 [.val (.slice none 0 0), .val (.slice none 0 0), .val (.slice none 0 0), .val (.slice none 0 0), .val (.int .i64 0)]])) (fun i => (t.arrays).length - i.1) (0, .slice none 0 0) (Nat.zero_le _) ?_ ?_ ?_
              · exact bc_ 0 r_ (bc_ 1 r_ (bc_ 0 r_ (bc_ 0 r_ (bc_ 0 r_ (bc_ 0 r_ (bc_ 0 r_ (bc_ 0 r_ (bc_ 0 r_ (bc_ 0 r_ (bc_ 0 r_ (bc_ 0 r_ sub_end)))))))))))
              · (repeat (first | exact True.intro | refine ⟨rfl, ?_⟩))
              rintro ⟨k, v⟩ hz
              dsimp only at hz ⊢
              obtain hk := hz
              have eLk : ((t.arrays).map ArRow).length = (t.arrays).length := List.length_map _
              by_cases hltk : k < (t.arrays).length
              · have hltk2 : (k : Int) < (((t.arrays).map ArRow).length : Int) := by omega
                obtain rfl : k = 0 := by omega
                have hAM := am_arr hRn hltk
                refine R_ (o_ r_ (bw_ r_ r_ (T_ (am_ (aq_ r_ u_ (as_ (al_ (B_ (R_ (o_ r_ (cc_ r_ r_ g_ r_ r_ b_ (o_ r_ (cr_ r_ r_ r_ (o_ r_ (bl_ r_ r_ (fun bl => S_ 0 r_ (T_ (jc_hpV3 11 (n := 13) rfl 0 2 4 [.string (t.arrays[0]).1, .int .i64 (t.arrays[0]).2] [vV, v, .slice none 0 0, vc, .int .i64 J.st] [.map (some bV), .map (some bv), vc, .int .i64 J.st] k_ rfl rfl rfl rfl rfl rfl ?_))))))))))))))))))
                refine df_ (i := 0) rfl k_ k_ k_ b_ (by (repeat (first | refine pani_then ?_ | refine pani_block ?_)); exact pani_body) (dl_ rfl rfl rfl b_) ?_
                refine df_ (i := 1) rfl k_ k_ k_ b_ (by (repeat (first | refine pani_then ?_ | refine pani_block ?_)); exact pani_body) (dm_ 2 rfl rfl rfl mem1 rfl) ?_
                refine df_ (i := 2) rfl k_ k_ k_ b_ (by (repeat (first | refine pani_then ?_ | refine pani_block ?_)); exact pani_body) (dk_ rfl) ?_
                refine df_ (i := 3) rfl k_ k_ k_ b_ (by (repeat (first | refine pani_then ?_ | refine pani_block ?_)); exact pani_body) (dr_ rfl) ?_
                refine df_ (i := 4) rfl k_ k_ k_ b_ (by (repeat (first | refine pani_then ?_ | refine pani_block ?_)); exact pani_body) (dl_ rfl rfl rfl b_) ?_
                refine df_ (i := 5) rfl k_ k_ k_ b_ (by (repeat (first | refine pani_then ?_ | refine pani_block ?_)); exact pani_body) (dm_ 4 rfl rfl rfl mem2 rfl) ?_
                refine df_ (i := 6) rfl k_ k_ k_ b_ (by (repeat (first | refine pani_then ?_ | refine pani_block ?_)); exact pani_body) (dl_ rfl rfl rfl b_) ?_
                refine df_ (i := 7) rfl k_ k_ k_ b_ (by (repeat (first | refine pani_then ?_ | refine pani_block ?_)); exact pani_body) (dm_ 0 rfl rfl rfl mem0 rfl) ?_
                refine dg_ (i := 8) rfl k_ b_ (ow_mapGetOW (κ := ByteArray) (vv := fun q => cond q va vb) (M := AMof p t) (w := true) (u := va) 7 rfl rfl hAM rfl hva rfl rfl rfl ⟨?_, ?_⟩)
                refine keep3 ?_ ?_ ?_
                exact List.mem_of_getElem? (i := 0) rfl
                exact List.mem_of_getElem? (i := 2) rfl
                exact List.mem_of_getElem? (i := 4) rfl
                refine dg_ (i := 9) r_ k_ b_ (bq_ r_ r_ b_ r_ r_ b_ ⟨?_, ?_⟩)
                refine keep3 ?_ ?_ ?_
                exact List.mem_of_getElem? (i := 0) rfl
                exact List.mem_of_getElem? (i := 2) rfl
                exact List.mem_of_getElem? (i := 4) rfl
                refine dg_ (i := 10) rfl k_ b_ (ow_append1 1 (t.arrays[0]) rfl rfl rfl rfl rfl rfl rfl (fun _ => rfl) (by show (_ + 1) * 24 ≤ _ ; first | omega | (simp ; done)) (by first | omega | (simp ; done)) (fun v1 hv1 => ⟨?_, ?_⟩))
                refine keep3 ?_ ?_ ?_
                exact List.mem_of_getElem? (i := 1) rfl
                exact List.mem_of_getElem? (i := 2) rfl
                exact List.mem_of_getElem? (i := 4) rfl
                refine df_ (i := 11) rfl k_ k_ k_ b_ (by (repeat (first | refine pani_then ?_ | refine pani_block ?_)); exact pani_body) (dl_ rfl rfl rfl b_) ?_
                refine hp_tail (dj_ (i := 12) rfl k_ (by decide) (ca_ 2 rfl rfl rfl rfl b_ (ht_done k_ (ay_ (al_ (an_ (o_ r_ (bj_ r_ r_ g_ (M_ r_ (ak_ (jq_againS (i := (0, v)) (1, v1) (by first | omega | (dsimp only; omega)) (by first | omega | (dsimp only; omega)) ?_ ?_)))))))))))
                · dsimp only
                  rw [one_take hltk]
                  exact bc_ 1 r_ (bc_ 0 r_ (bc_ 1 r_ (bc_ 1 r_ (bc_ 1 r_ (bc_ 1 r_ (bc_ 1 r_ (bc_ 1 r_ (bc_ 1 r_ (bc_ 1 r_ (bc_ 1 r_ (bc_ 1 r_ sub_end)))))))))))
                · (repeat (first | exact True.intro | refine ⟨rfl, ?_⟩))
              · have hltk2 : ¬ (k : Int) < (((t.arrays).map ArRow).length : Int) := by omega
                rw [show t.arrays.take k = t.arrays from List.take_of_length_le (by omega)]
                generalize v = vA at *
                refine R_ (o_ r_ (bw_ r_ r_ (T_ (am_ (ap_ r_ w_ (av_ (ax_ (ax_ (ba_ (al_ (am_ (R_ (F_ r_ (L_ 10 r_ (o_ r_ (br_ r_ (fun hlen => M_ r_ ?_)))))))))))))))))
                refine T_ (au_ (jc_ownNil 22 1 g_ ?_))
                refine jc_loopS (ι := Nat × Value) [] (fun i => i.1 ≤ (p.shared).length) (fun i => (194, In .i64 (i.1 : Int)) :: [(192, .cell (.list (p.shared.map ShRow))), (193, In .i64 ((p.shared.map ShRow).length : Int)), (20, .cell (.val (.pointer (some ⟨b2, 0, none⟩)))), (11, .cell (.val (.pointer (some ⟨bt, 0, none⟩)))), (4, .cell (.val (.pointer (some ⟨bp, 0, none⟩)))), (12, .cell (.val (.pointer (some ⟨bj, 0, none⟩)))), (8, .cell (.val (.pointer (some ⟨bo, 0, none⟩))))]) (fun i => (.own i.2 22 1 ((p.shared.take i.1).map (fun _ => [C.val vb]))) :: .blk b2 46 [.val vV, .val vA, .val i.2, .val vc, .val (.int .i64 J.st)] :: .own vA 22 1 (t.arrays.map (fun _ => [C.val va])) :: .own vV 3 1 (((t.inputs.map (·.1) ++ t.vars).map (fun s => (aget J.V s).getD 0)).map Irow) :: (JobHE bj bV bv va vb vc (AMof p t) J ++ [.blk bt 39 t.row, .blk bp 31 p.row, .blk bo 46 [.val (.slice none 0 0), .val (.slice none 0 0), .val (.slice none 0 0), .val (.slice none 0 0), .val (.int .i64 0)]])) (fun i => (p.shared).length - i.1) (0, .slice none 0 0) (Nat.zero_le _) ?_ ?_ ?_
                · exact bc_ 0 r_ (bc_ 1 r_ (bc_ 0 r_ (bc_ 0 r_ (bc_ 0 r_ (bc_ 0 r_ (bc_ 0 r_ (bc_ 0 r_ (bc_ 0 r_ (bc_ 0 r_ (bc_ 0 r_ (bc_ 0 r_ (bc_ 0 r_ sub_end))))))))))))
                · (repeat (first | exact True.intro | refine ⟨rfl, ?_⟩))
                rintro ⟨k, v⟩ hz
                dsimp only at hz ⊢
                obtain hk := hz
                have eLk : ((p.shared).map ShRow).length = (p.shared).length := List.length_map _
                by_cases hltk : k < (p.shared).length
                · have hltk2 : (k : Int) < (((p.shared).map ShRow).length : Int) := by omega
                  obtain rfl : k = 0 := by omega
                  have hAM := am_shr hRn hltk
                  refine R_ (o_ r_ (bw_ r_ r_ (T_ (am_ (aq_ r_ u_ (as_ (al_ (B_ (R_ (o_ r_ (cc_ r_ r_ g_ r_ r_ b_ (o_ r_ (cr_ r_ r_ r_ (o_ r_ (bl_ r_ r_ (fun bl => S_ 0 r_ (T_ (jc_hpV3 12 (n := 14) rfl 0 2 5 [.string (p.shared[0]).1, .int .i64 (p.shared[0]).2.1, .string (p.shared[0]).2.2] [vV, vA, v, vc, .int .i64 J.st] [.map (some bV), .map (some bv), vc, .int .i64 J.st] k_ rfl rfl rfl rfl rfl rfl ?_))))))))))))))))))
                  refine df_ (i := 0) rfl k_ k_ k_ b_ (by (repeat (first | refine pani_then ?_ | refine pani_block ?_)); exact pani_body) (dl_ rfl rfl rfl b_) ?_
                  refine df_ (i := 1) rfl k_ k_ k_ b_ (by (repeat (first | refine pani_then ?_ | refine pani_block ?_)); exact pani_body) (dm_ 2 rfl rfl rfl mem1 rfl) ?_
                  refine df_ (i := 2) rfl k_ k_ k_ b_ (by (repeat (first | refine pani_then ?_ | refine pani_block ?_)); exact pani_body) (dk_ rfl) ?_
                  refine df_ (i := 3) rfl k_ k_ k_ b_ (by (repeat (first | refine pani_then ?_ | refine pani_block ?_)); exact pani_body) (dr_ rfl) ?_
                  refine df_ (i := 4) rfl k_ k_ k_ b_ (by (repeat (first | refine pani_then ?_ | refine pani_block ?_)); exact pani_body) (dl_ rfl rfl rfl b_) ?_
                  refine df_ (i := 5) rfl k_ k_ k_ b_ (by (repeat (first | refine pani_then ?_ | refine pani_block ?_)); exact pani_body) (dm_ 5 rfl rfl rfl mem2 rfl) ?_
                  refine df_ (i := 6) rfl k_ k_ k_ b_ (by (repeat (first | refine pani_then ?_ | refine pani_block ?_)); exact pani_body) (dl_ rfl rfl rfl b_) ?_
                  refine df_ (i := 7) rfl k_ k_ k_ b_ (by (repeat (first | refine pani_then ?_ | refine pani_block ?_)); exact pani_body) (dl_ rfl rfl rfl b_) ?_
                  refine df_ (i := 8) rfl k_ k_ k_ b_ (by (repeat (first | refine pani_then ?_ | refine pani_block ?_)); exact pani_body) (dm_ 0 rfl rfl rfl mem0 rfl) ?_
                  refine dg_ (i := 9) rfl k_ b_ (ow_mapGetOW (κ := ByteArray) (vv := fun q => cond q va vb) (M := AMof p t) (w := false) (u := vb) 8 rfl rfl hAM rfl hvb rfl rfl rfl ⟨?_, ?_⟩)
                  refine keep3 ?_ ?_ ?_
                  exact List.mem_of_getElem? (i := 0) rfl
                  exact List.mem_of_getElem? (i := 2) rfl
                  exact List.mem_of_getElem? (i := 5) rfl
                  refine dg_ (i := 10) r_ k_ b_ (bq_ r_ r_ b_ r_ r_ b_ ⟨?_, ?_⟩)
                  refine keep3 ?_ ?_ ?_
                  exact List.mem_of_getElem? (i := 0) rfl
                  exact List.mem_of_getElem? (i := 2) rfl
                  exact List.mem_of_getElem? (i := 5) rfl
                  refine dg_ (i := 11) rfl k_ b_ (ow_append1 1 (p.shared[0]) rfl rfl rfl rfl rfl rfl rfl (fun _ => rfl) (by show (_ + 1) * 24 ≤ _ ; first | omega | (simp ; done)) (by first | omega | (simp ; done)) (fun v1 hv1 => ⟨?_, ?_⟩))
                  refine keep3 ?_ ?_ ?_
                  exact List.mem_of_getElem? (i := 1) rfl
                  exact List.mem_of_getElem? (i := 2) rfl
                  exact List.mem_of_getElem? (i := 5) rfl
                  refine df_ (i := 12) rfl k_ k_ k_ b_ (by (repeat (first | refine pani_then ?_ | refine pani_block ?_)); exact pani_body) (dl_ rfl rfl rfl b_) ?_
                  refine hp_tail (dj_ (i := 13) rfl k_ (by decide) (ca_ 2 rfl rfl rfl rfl b_ (ht_done k_ (ay_ (al_ (an_ (o_ r_ (bj_ r_ r_ g_ (M_ r_ (ak_ (jq_againS (i := (0, v)) (1, v1) (by first | omega | (dsimp only; omega)) (by first | omega | (dsimp only; omega)) ?_ ?_)))))))))))
                  · dsimp only
                    rw [one_take hltk]
                    exact bc_ 1 r_ (bc_ 0 r_ (bc_ 1 r_ (bc_ 1 r_ (bc_ 1 r_ (bc_ 1 r_ (bc_ 1 r_ (bc_ 1 r_ (bc_ 1 r_ (bc_ 1 r_ (bc_ 1 r_ (bc_ 1 r_ (bc_ 1 r_ sub_end))))))))))))
                  · (repeat (first | exact True.intro | refine ⟨rfl, ?_⟩))
                · have hltk2 : ¬ (k : Int) < (((p.shared).map ShRow).length : Int) := by omega
                  rw [show p.shared.take k = p.shared from List.take_of_length_le (by omega)]
                  generalize v = vS at *
                  refine R_ (o_ r_ (bw_ r_ r_ (T_ (am_ (ap_ r_ w_ (av_ (ax_ (ax_ (ba_ (al_ (am_ (jc_freezeO1 (l := p.shared) hRn.s1 9 0 rfl (by rw [hc]; simp [hb]) (jc_freezeO1 (l := t.arrays) hRn.a1 8 2 rfl (by rw [hc]; simp [hb]) ?_)))))))))))))
                  rw [show t.arrays.map (fun _ => [C.list (J.ca.map Irow)]) = (t.arrays.map (fun _ => J.ca)).map LRow by rw [List.map_map]; rfl, show p.shared.map (fun _ => [C.list (J.cb.map Irow)]) = (p.shared.map (fun _ => J.cb)).map LRow by rw [List.map_map]; rfl]
                  exact jc_freezeBi 0 1 1 rfl rfl rfl (by rw [hc]; simp [hb]) (jc_freezeBi 1 0 2 rfl rfl rfl (by rw [hc]; simp [hb]) (jc_freezeBi 1 0 0 rfl rfl rfl (by rw [hc]; simp [hb]) (jc_freezeBi 2 0 3 rfl rfl rfl (by rw [hc]; simp [hb]) (an_ (A_ 0 r_ (S_ 6 r_ (E_ r_ (T_ (ar_ (jq_retRowT rfl rfl rfl rfl rfl 0 rfl (fun K h => by rw [hres] at h; exact h) sub_end))))))))))
end Go.Proofs.YtalkkcfojplmdaaGreatDoor
end

section
namespace Go.Proofs.YtalkkcfojplmdaaGreatDoor
open Go.Vc
attribute [local irreducible] JL JC JQ OpWp Con ConN HOk
set_option maxHeartbeats 4000000

theorem SameInts_c (a b : List Int) : Con Tryz.prog 39 [.cell (.list (a.map Irow)), .cell (.list (b.map Irow))] [] (fun K => K (Bl (decide (a = b))) []) := by
  have eA : (a.map Irow).length = a.length := List.length_map _
  have eB : (b.map Irow).length = b.length := List.length_map _
  refine con_intro Tryz.func39 rfl rfl (Nat.le_of_ble_eq_true rfl) (fun c hc => R_ (E_ r_ (T_ (am_ (R_ (M_ r_ (o_ r_ (br_ r_ (fun hlen => M_ r_ (o_ r_ (br_ r_ (fun hlen => o_ r_ (bx_ r_ r_ (T_ (jc_condd rfl (fun hne => ?_) (fun heq => ?_))))))))))))))))
  · refine R_ (E_ r_ (T_ (ar_ (aw_ (jq_ret1 rfl rfl [] rfl (fun K h => ?_))))))
    rw [show decide (a = b) = false from decide_eq_false (fun e => hne (by rw [e]))] at h
    exact h
  refine as_ (al_ (am_ (R_ (E_ r_ (T_ (au_ ?_))))))
  have hab : a.length = b.length := by omega
  refine jc_loop [0, 1] (fun k => k ≤ a.length ∧ a.take k = b.take k) (fun k => [(5, In .i64 (k : Int))]) (fun _ => []) (fun k => a.length - k) 0 [] ⟨Nat.zero_le _, rfl⟩ rfl ?_ ?_
  · (repeat (first | exact True.intro | refine ⟨rfl, ?_⟩))
  · rintro k ⟨hk, hke⟩
    refine am_ (R_ (M_ r_ (M_ r_ (o_ r_ (br_ r_ (fun hlen => o_ r_ (bw_ r_ r_ (T_ (jc_condd rfl (fun hlt => ?_) (fun hge => ?_))))))))))
    · have hlt : k < a.length := by omega
      have hltb : k < b.length := by omega
      refine as_ (al_ (B_ (am_ (ao_ r_ r_ k_ k_ (yM_ r_ (yM_ r_ (aa_ (fun c => cc_ r_ r_ g_ r_ r_ b_ p_) (aa_ (fun c => cb_ r_ r_ p_) (yM_ r_ (yM_ r_ (aa_ (fun c => cc_ r_ r_ g_ r_ r_ b_ p_) (aa_ (fun c => cb_ r_ r_ p_) (aa_ (fun c => bx_ r_ r_ p_) (ae_ (al_ ?_)))))))))))))))
      refine jc_condd rfl (fun hne => ?_) (fun hee => ?_)
      · refine R_ (E_ r_ (T_ (ar_ (az_ (aw_ (aw_ (az_ (aw_ (jq_ret1 rfl rfl [] rfl (fun K h => ?_))))))))))
        rw [show decide (a = b) = false from decide_eq_false (fun e => hne (by subst e; rfl))] at h
        exact h
      · have hee' : a[k] = b[k] := by omega
        refine as_ (ay_ (al_ (an_ (M_ r_ (o_ r_ (bj_ r_ r_ g_ (E_ r_ (ak_ (jq_again (k + 1) [] ⟨hlt, by rw [List.take_succ_eq_append_getElem hlt, List.take_succ_eq_append_getElem hltb, hke, hee']⟩ g_ rfl ?_)))))))))
        (repeat (first | exact True.intro | refine ⟨rfl, ?_⟩))
    · rw [List.take_of_length_le (by omega), List.take_of_length_le (by omega)] at hke
      subst hke
      refine av_ (ax_ (ax_ (ba_ (al_ (R_ (E_ r_ (T_ (ar_ (jq_ret1 rfl rfl [] rfl (fun K h => by simpa using h))))))))))
theorem SameIX_c (a : List Int) : Con Tryz.prog 39 [.cell (.list (a.map Irow)), .cell (.list (a.map Irow))] [] (fun K => K (Bl true) []) := by
  have := SameInts_c a a
  rwa [decide_eq_true rfl] at this
end Go.Proofs.YtalkkcfojplmdaaGreatDoor
end

section
namespace Go.Proofs.YtalkkcfojplmdaaGreatDoor
open Go.Vc
set_option maxHeartbeats 1000000

mutual
/-- All statements, those inside as well, are as p says of their kinds, names, labels and maxima. -/
def Sm.ev (p : Int → ByteArray → Int → Int → Bool) : Sm → Bool
  | .mk k nm _ _ mx lb t e => p k nm lb mx && Sm.evs p t && Sm.evs p e
def Sm.evs (p : Int → ByteArray → Int → Int → Bool) : List Sm → Bool
  | [] => true
  | s :: l => s.ev p && Sm.evs p l
end
section
variable {p q : Int → ByteArray → Int → Int → Bool}
def cnt (j : Jb) (m : Nat) : Int := j.cn.getD m 0
theorem cnt_up (j : Jb) (i : Int) {m : Nat} (h : m < j.cn.length) : cnt (j.up i) m = cnt j m + (if i.toNat = m then 1 else 0) := by
  unfold cnt Jb.up
  dsimp only
  rw [List.getD_eq_getElem?_getD, List.getD_eq_getElem?_getD, List.getD_eq_getElem?_getD, List.getElem?_set]
  by_cases hi : i.toNat = m
  · subst hi; simp [h]
  · simp [hi]
theorem up_len (j : Jb) (i : Int) : (j.up i).cn.length = j.cn.length := List.length_set
theorem cnt_step (j : Jb) (m : Nat) : cnt j.step m = cnt j m := rfl
theorem step_len (j : Jb) : j.step.cn.length = j.cn.length := rfl
/-- The counts as they are, but for how they belong together. -/
def Rl (F : (Nat → Int) → (Nat → Int) → Prop) (j j' : Jb) : Prop := j.cn.length = 39 → j'.cn.length = 39 ∧ F (cnt j) (cnt j')
theorem Rl.refl {F : (Nat → Int) → (Nat → Int) → Prop} (hF : ∀ a, F a a) (j : Jb) : Rl F j j := fun h => ⟨h, hF _⟩
theorem Rl.trans {F : (Nat → Int) → (Nat → Int) → Prop} (hF : ∀ a b c, F a b → F b c → F a c) (i j k : Jb) (h : Rl F i j) (h' : Rl F j k) : Rl F i k := fun hl => ⟨(h' (h hl).1).1, hF _ _ _ (h hl).2 (h' (h hl).1).2⟩
theorem Rl.same {F : (Nat → Int) → (Nat → Int) → Prop} (hF : ∀ a, F a a) {j j' : Jb} (h : j'.cn = j.cn) : Rl F j j' := fun hl => ⟨by rw [h]; exact hl, (show cnt j' = cnt j by funext m; unfold cnt; rw [h]) ▸ hF _⟩
theorem cnt_up39 {j : Jb} (h : j.cn.length = 39) (i : Int) : ∀ m, m < 39 → cnt (j.up i) m = cnt j m + (if i.toNat = m then 1 else 0) := fun m hm => cnt_up j i (by omega)
/-- An if's count is what its sides' are. -/
def FIf (k : Nat) (a b : Nat → Int) : Prop := b (3 * k) - b (3 * k + 1) - b (3 * k + 2) = a (3 * k) - a (3 * k + 1) - a (3 * k + 2)
/-- A while is left as often as it is reached, and begun at most 32 times as often. -/
def FWh (k : Nat) (a b : Nat → Int) : Prop := b (3 * k) - b (3 * k + 2) = a (3 * k) - a (3 * k + 2) ∧ 32 * a (3 * k) - a (3 * k + 1) ≤ 32 * b (3 * k) - b (3 * k + 1)
def F0 (a b : Nat → Int) : Prop := ∀ m, m < 3 → b m = a m
theorem FIf.refl (k : Nat) (a : Nat → Int) : FIf k a a := rfl
theorem FIf.trans (k : Nat) (a b c : Nat → Int) (h : FIf k a b) (h' : FIf k b c) : FIf k a c := by unfold FIf at *; omega
theorem FWh.refl (k : Nat) (a : Nat → Int) : FWh k a a := ⟨rfl, Int.le_refl _⟩
theorem FWh.trans (k : Nat) (a b c : Nat → Int) (h : FWh k a b) (h' : FWh k b c) : FWh k a c := by unfold FWh at *; omega
theorem F0.trans (a b c : Nat → Int) (h : F0 a b) (h' : F0 b c) : F0 a c := fun m hm => (h' m hm).trans (h m hm)
def p0 (kd : Int) (_ : ByteArray) (lb _ : Int) : Bool := if kd = 3 ∨ kd = 4 then decide (1 ≤ lb) && decide (lb ≤ 12) else true
end
end Go.Proofs.YtalkkcfojplmdaaGreatDoor
end

section
namespace Go.Proofs.YtalkkcfojplmdaaGreatDoor
open Go.Vc
set_option maxHeartbeats 1000000

/-- A made program is right. -/
structure Right (p : Pg) : Prop where
  lim : limB p = true
  nam : namB p = true
  ran : ranB p = true
  lab : ∀ t ∈ p.tasks, labT t = true
  lck : ∀ t ∈ p.tasks, Sm.lcks p.shared ⟨#[]⟩ t.body = true
  wgt : ∀ t ∈ p.tasks, wAll 20 t.body 0 ≤ 2000
end Go.Proofs.YtalkkcfojplmdaaGreatDoor
end

section
namespace Go.Proofs.YtalkkcfojplmdaaGreatDoor
open Go.Vc
attribute [local irreducible] progT StG BlG
set_option maxHeartbeats 1000000

theorem md_lns : ∀ (n : Nat) (l : List Sm), (∀ s ∈ l, mdS n s) → Sm.lnss l
  | _, [], _ => trivial
  | 0, s :: l, h => (h s (List.mem_cons_self ..)).elim
  | n + 1, s :: l, h => by
    have h1 := h s (List.mem_cons_self ..)
    have h2 := md_lns (n + 1) l (fun u hu => h u (List.mem_cons_of_mem _ hu))
    rw [Sm.lnss]
    refine ⟨?_, h2⟩
    unfold mdS at h1
    rcases h1 with ⟨v, x, _, _, rfl⟩ | ⟨v, y, x, _, _, _, rfl⟩ | ⟨x, lab, t, e, _, _, ht, he, rfl⟩ | ⟨x, mx, lab, t, _, _, _, ht, rfl⟩ | ⟨v, t, _, ht, rfl⟩
    · rw [Sm.lns]; exact ⟨by simp, by simp, md_lns n [] (by simp), md_lns n [] (by simp)⟩
    · rw [Sm.lns]; exact ⟨by simp, by simp, md_lns n [] (by simp), md_lns n [] (by simp)⟩
    · rw [Sm.lns]; exact ⟨by simp, by simp, md_lns n t ht, md_lns n e he⟩
    · rw [Sm.lns]; exact ⟨by simp, by simp, md_lns n t ht, md_lns n [] (by simp)⟩
    · rw [Sm.lns]; exact ⟨by simp, by simp, md_lns n t ht, md_lns n [] (by simp)⟩
/-- A program that is right, and can be printed, has no error. -/
theorem ck_right {p : Pg} (h1 : okPg p = true) (h2 : p.tasks.any (fun t => dpF 8 t.body) = false) (h3 : (progT p).size ≤ 8192) (hR : Right p) : ckF p = 0 := by
  have h0 : (progF p).2 = 0 := by
    unfold progF
    rw [if_neg (by rw [h1]; decide), if_neg (by rw [h2]; decide), if_neg (by omega)]
  have hlab : p.tasks.all labF = true := by
    rw [List.all_eq_true]
    intro t ht
    rw [List.any_eq_false] at h2
    have hd := h2 t ht
    rw [labF_labT (by revert hd; cases dpF 8 t.body <;> simp)]
    exact hR.lab t ht
  have hlck : p.tasks.all (fun t => Sm.lcks p.shared ⟨#[]⟩ t.body) = true := List.all_eq_true.2 hR.lck
  have hwgt : p.tasks.all (fun t => decide (wAll 20 t.body 0 ≤ 2000)) = true := List.all_eq_true.2 (fun t ht => decide_eq_true (hR.wgt t ht))
  unfold ckF
  rw [if_neg (by rw [h0]; decide), if_neg (by rw [hR.lim]; decide), if_neg (by rw [hR.nam]; decide), if_neg (by rw [hR.ran]; decide), if_neg (by rw [hlab]; decide), if_neg (by rw [hlck]; decide), if_neg (by rw [hwgt]; decide)]
theorem runF_in {p : Pg} {k : Nat} (h0 : ckF p = 0) (hk : k < p.tasks.length) {ins : List Int} {ss : List (List Int)} (hi : fitB (p.tasks[k]).inputs ins = true) (hs : filB p.shared ss = true) : runF p (k : Int) ins ss = (runO p p.tasks[k] ins ss, 0) := by
  have e : p.tasks.getD ((k : Int)).toNat tk0 = p.tasks[k] := by
    rw [show ((k : Int)).toNat = k by omega, List.getD_eq_getElem?_getD, List.getElem?_eq_getElem hk]
    rfl
  unfold runF
  rw [if_neg (fun h => h h0), if_pos ⟨by omega, by omega⟩, e, if_neg (by rw [hi]; decide), if_neg (by rw [hs]; decide)]
end Go.Proofs.YtalkkcfojplmdaaGreatDoor
end

section
namespace Go.Proofs.YtalkkcfojplmdaaGreatDoor
open Go.Vc
attribute [local irreducible] progT StG BlG
set_option maxHeartbeats 1000000

abbrev Nt : ByteArray := ⟨#[116]⟩
def tkOf (l : List Sm) : Tk := ⟨Nt, 9, 9, 1, 0, [], VS, [], [], [], l⟩
def pgOf (l : List Sm) : Pg := ⟨[], [], [tkOf l]⟩
/-- An expression of at most five parts. -/
structure Ez (x : T) : Prop where
  fm : Fm x
  use : useB VS [] x = true
  wd : wdT x = true
  txt : (textT x).size ≤ 40
  wp : wPartsL [x] 20 0 ≤ 5
  fr : ∀ h, freeB [] h x = true
structure Ql (n w z c : Nat) (labs : List Int) (l : List Sm) : Prop where
  md : ∀ s ∈ l, mdS n s
  txt : ∀ sp : ByteArray, sp.size + 2 * n ≤ 20 → (stsT sp l).size ≤ z
  szs : Sm.szs l ≤ c
  nms : Sm.nmss VS [] [] l = true
  wds : Sm.wdss l = true
  lbs : Sm.lbss isIW l = labs
  lck : ∀ h, Sm.lcks [] h l = true
  wgt : ∀ f (m : Int), n ≤ f → 0 ≤ m → wAll f l m ≤ m + w
theorem lim_le (n : Int) : lim n ≤ n := by unfold lim; omega
theorem wAll_app (f : Nat) : ∀ (l m : List Sm) (n : Int), wAll f (l ++ m) n = wAll f m (wAll f l n)
  | [], m, n => by rw [List.nil_append, wAll]
  | s :: l, m, n => by rw [List.cons_append, wAll, wAll, wAll_app f l m]
theorem wAll_nn (f : Nat) : ∀ (l : List Sm) (n : Int), 0 ≤ n → 0 ≤ wAll f l n
  | [], n, h => by rw [wAll]; exact h
  | s :: l, n, h => by rw [wAll]; exact wAll_nn f l _ (lim_bd _ (by have := wOne_bd f s; omega)).1
theorem mdS_mono : ∀ (n : Nat) (s : Sm), mdS n s → mdS (n + 1) s
  | 0, _, h => h.elim
  | n + 1, s, h => by
    unfold mdS at h ⊢
    rcases h with h | h | ⟨x, lab, t, e, hx, hl, ht, he, rfl⟩ | ⟨x, mx, lab, t, hx, hm, hl, ht, rfl⟩ | ⟨v, t, hv, ht, rfl⟩
    · exact .inl h
    · exact .inr (.inl h)
    · exact .inr (.inr (.inl ⟨x, lab, t, e, hx, hl, fun u hu => mdS_mono n u (ht u hu), fun u hu => mdS_mono n u (he u hu), rfl⟩))
    · exact .inr (.inr (.inr (.inl ⟨x, mx, lab, t, hx, hm, hl, fun u hu => mdS_mono n u (ht u hu), rfl⟩)))
    · exact .inr (.inr (.inr (.inr ⟨v, t, hv, fun u hu => mdS_mono n u (ht u hu), rfl⟩)))
theorem Ql.nil (n : Nat) : Ql n 0 0 0 [] [] := ⟨by simp, fun _ _ => by rw [stsT]; exact Nat.le_refl _, Nat.le_refl _, rfl, rfl, rfl, fun _ => rfl, fun f m _ _ => by rw [wAll]; omega⟩
theorem Ql.app {n w1 z1 c1 w2 z2 c2 : Nat} {la lb : List Int} {l m : List Sm} (h : Ql n w1 z1 c1 la l) (g : Ql n w2 z2 c2 lb m) : Ql n (w1 + w2) (z1 + z2) (c1 + c2) (la ++ lb) (l ++ m) := by
  refine ⟨fun s hs => ?_, fun sp hsp => ?_, ?_, ?_, ?_, ?_, fun hd => ?_, fun f k hf hk => ?_⟩
  · rcases List.mem_append.1 hs with hs | hs
    · exact h.md s hs
    · exact g.md s hs
  · rw [stsT_app, ByteArray.size_append]
    have := h.txt sp hsp
    have := g.txt sp hsp
    omega
  · rw [Sm.szs_app]; have := h.szs; have := g.szs; omega
  · have := h.nms; have := g.nms
    rw [Sm.nmss_all, List.all_append, ← Sm.nmss_all, ← Sm.nmss_all, h.nms, g.nms]; rfl
  · rw [Sm.wdss_all, List.all_append, ← Sm.wdss_all, ← Sm.wdss_all, h.wds, g.wds]; rfl
  · rw [Sm.lbss_app, h.lbs, g.lbs]
  · rw [Sm.lcks_all, List.all_append, ← Sm.lcks_all, ← Sm.lcks_all, h.lck, g.lck]; rfl
  · rw [wAll_app]
    have h1 := h.wgt f k hf hk
    have h2 := g.wgt f (wAll f l k) hf (wAll_nn f l k hk)
    omega
theorem Ql.up {n w z c : Nat} {la : List Int} {l : List Sm} (h : Ql n w z c la l) : Ql (n + 1) w z c la l :=
  ⟨fun s hs => mdS_mono n s (h.md s hs), fun sp hsp => h.txt sp (by omega), h.szs, h.nms, h.wds, h.lbs, h.lck, fun f m hf hm => h.wgt f m (by omega) hm⟩
theorem Ql.mono {n w z c w' z' c' : Nat} {la : List Int} {l : List Sm} (h : Ql n w z c la l) (hw : w ≤ w') (hz : z ≤ z') (hc : c ≤ c') : Ql n w' z' c' la l :=
  ⟨h.md, fun sp hsp => Nat.le_trans (h.txt sp hsp) hz, Nat.le_trans h.szs hc, h.nms, h.wds, h.lbs, h.lck, fun f m hf hm => by have := h.wgt f m hf hm; omega⟩
theorem VS_ok {s : ByteArray} (h : s ∈ VS) : nmOk s ∧ s.size = 1 ∧ hasB VS s = true := by
  simp only [List.mem_cons, List.not_mem_nil, or_false] at h
  rcases h with rfl | rfl | rfl <;> exact ⟨nmOk_lit (by decide +kernel), by decide, by decide +kernel⟩
theorem wP0 (x : T) : 0 ≤ wPartsL [x] 20 0 := (wPartsL_bd 20 (wParts_bd 20) [x] 0 (by omega)).1
theorem one_le (f : Nat) (s : Sm) (m : Int) : wAll f [s] m ≤ m + wOne f s := by rw [wAll, wAll]; exact lim_le _
theorem Ql.set {v : ByteArray} {x : T} (n : Nat) (hv : v ∈ VS) (hx : Ez x) : Ql (n + 1) 6 66 1 [] [.mk 1 v [] [x] 0 0 [] []] := by
  have hv := VS_ok hv
  refine ⟨fun s hs => ?_, fun sp hsp => ?_, by simp [Sm.szs, Sm.sz], ?_, ?_, rfl, fun hd => ?_, fun f m hf hm => ?_⟩
  · rw [List.mem_singleton.1 hs]; exact .inl ⟨v, x, hv.1, hx.fm, rfl⟩
  · rw [stsT, stsT, stT_leaf sp (.inl rfl), ByteArray.size_append, ByteArray.size_append]
    have := hx.txt
    simp only [hdT, Sm.kind, Sm.name, Sm.value, tx1, if_true, ByteArray.size_append, show Kst.size = 3 from rfl, show Knl.size = 1 from rfl, ba_lit, List.length_nil]
    omega
  · simp [Sm.nmss, Sm.nms, hv.2.2, hx.use]
  · simp [Sm.wdss, Sm.wds, hx.wd]
  · simp [Sm.lcks, Sm.lck, hx.fr]
  · obtain ⟨g, rfl⟩ : ∃ g, f = g + 1 := ⟨f - 1, by omega⟩
    refine Int.le_trans (one_le _ _ _) ?_
    rw [wOne, if_pos (.inl rfl)]
    have h1 := lim_le (1 + wPartsL (Sm.mk 1 v [] [x] 0 0 [] []).index 20 0 + wPartsL (Sm.mk 1 v [] [x] 0 0 [] []).value 20 0)
    have h2 : wPartsL (Sm.mk 1 v [] [x] 0 0 [] []).index 20 0 = 0 := rfl
    have h3 : wPartsL (Sm.mk 1 v [] [x] 0 0 [] []).value 20 0 = wPartsL [x] 20 0 := rfl
    have := hx.wp
    omega
theorem Ql.iff {n w z c : Nat} {la : List Int} {t : List Sm} {x : T} {lb : Int} (hx : Ez x) (hl : 1 ≤ lb ∧ lb ≤ 12) (h : Ql n w z c la t) : Ql (n + 1) (w + 7) (z + 110) (c + 1) (lb :: la) [.mk 3 E0 [] [x] 0 lb t []] := by
  refine ⟨fun s hs => ?_, fun sp hsp => ?_, ?_, ?_, ?_, ?_, fun hd => ?_, fun f m hf hm => ?_⟩
  · rw [List.mem_singleton.1 hs]; exact .inr (.inr (.inl ⟨x, lb, t, [], hx.fm, ⟨by omega, by omega⟩, h.md, by simp, rfl⟩))
  · have hs2 : (sp ++ Ksp).size + 2 * n ≤ 20 := by rw [ByteArray.size_append, show Ksp.size = 2 from rfl]; omega
    have h1 := h.txt _ hs2
    have h3 := numS_dig (n := lb) (k := 2) (by omega) (by omega) (by show lb < 100; omega)
    have h5 := (node_sz (sp := sp) (s := .mk 3 E0 [] [x] 0 lb t []) (by show ¬ ((3 : Int) = 1 ∨ (3 : Int) = 2); decide)).2 rfl
    have := hx.txt
    rw [stsT, stsT, ByteArray.size_append, h5]
    simp only [hdT_3, Sm.thn, tx1, ByteArray.size_append, show Kif2.size = 3 from rfl, show Klab.size = 7 from rfl, show Kopen.size = 3 from rfl, ba_lit, List.length_nil]
    omega
  · have := h.szs; simp only [Sm.szs, Sm.sz]; omega
  · simp [Sm.nmss, Sm.nms, h.nms, hx.use]
  · simp [Sm.wdss, Sm.wds, h.wds, hx.wd]
  · simp [Sm.lbss, Sm.lbs, h.lbs, isIW]
  · simp [Sm.lcks, Sm.lck, h.lck, hx.fr]
  · obtain ⟨g, rfl⟩ : ∃ g, f = g + 1 := ⟨f - 1, by omega⟩
    refine Int.le_trans (one_le _ _ _) ?_
    rw [wOne, if_neg (by show ¬ ((3 : Int) = 1 ∨ (3 : Int) = 2); decide), if_pos (show (Sm.mk 3 E0 [] [x] 0 lb t []).kind = 3 from rfl)]
    have h1 := lim_le (2 + wPartsL [x] 20 0 + wAll g t 0 + wAll g [] 0)
    have h2 := h.wgt g 0 (by omega) (by omega)
    have h3 : wAll g [] 0 = 0 := by rw [wAll]
    have := hx.wp
    show m + lim (2 + wPartsL [x] 20 0 + wAll g t 0 + wAll g [] 0) ≤ _
    omega
theorem Ql.whl {n w z c : Nat} {la : List Int} {t : List Sm} {x : T} {lb : Int} {mx : Nat} (hx : Ez x) (hl : 1 ≤ lb ∧ lb ≤ 12) (hm : mx ≤ 6) (h : Ql n w z c la t) : Ql (n + 1) (2 + 7 * (w + 7)) (z + 120) (c + 1) (lb :: la) [.mk 4 E0 [] [x] mx lb t []] := by
  refine ⟨fun s hs => ?_, fun sp hsp => ?_, ?_, ?_, ?_, ?_, fun hd => ?_, fun f m hf hm2 => ?_⟩
  · rw [List.mem_singleton.1 hs]; exact .inr (.inr (.inr (.inl ⟨x, mx, lb, t, hx.fm, ⟨by omega, by omega⟩, ⟨by omega, by omega⟩, h.md, rfl⟩)))
  · have hs2 : (sp ++ Ksp).size + 2 * n ≤ 20 := by rw [ByteArray.size_append, show Ksp.size = 2 from rfl]; omega
    have h1 := h.txt _ hs2
    have h3 := numS_dig (n := lb) (k := 2) (by omega) (by omega) (by show lb < 100; omega)
    have h4 := numS_dig (n := mx) (k := 1) (by omega) (by omega) (by show (mx : Int) < 10; omega)
    have h5 := (node_sz (sp := sp) (s := .mk 4 E0 [] [x] mx lb t []) (by show ¬ ((4 : Int) = 1 ∨ (4 : Int) = 2); decide)).2 rfl
    have := hx.txt
    rw [stsT, stsT, ByteArray.size_append, h5]
    simp only [hdT_4, Sm.thn, tx1, ByteArray.size_append, show Kwh.size = 6 from rfl, show Kmx.size = 5 from rfl, show Klab.size = 7 from rfl, show Kopen.size = 3 from rfl, ba_lit, List.length_nil]
    omega
  · have := h.szs; simp only [Sm.szs, Sm.sz]; omega
  · simp [Sm.nmss, Sm.nms, h.nms, hx.use]
  · simp only [Sm.wdss, Sm.wds, h.wds, List.all_cons, List.all_nil, hx.wd, Bool.and_true, Bool.and_eq_true, decide_eq_true_eq]
    omega
  · simp [Sm.lbss, Sm.lbs, h.lbs, isIW]
  · simp [Sm.lcks, Sm.lck, h.lck, hx.fr]
  · obtain ⟨g, rfl⟩ : ∃ g, f = g + 1 := ⟨f - 1, by omega⟩
    refine Int.le_trans (one_le _ _ _) ?_
    rw [wOne, if_neg (by show ¬ ((4 : Int) = 1 ∨ (4 : Int) = 2); decide), if_neg (by show ¬ ((4 : Int) = 3); decide), if_pos (show (Sm.mk 4 E0 [] [x] mx lb t []).kind = 4 from rfl)]
    have h1 := lim_le (2 + wPartsL [x] 20 0 + wAll g t 0)
    have h2 := h.wgt g 0 (by omega) (by omega)
    have h3 := wAll_nn g t 0 (by omega)
    have h4 := wP0 x
    have h5 := (lim_bd (2 + wPartsL [x] 20 0 + wAll g t 0) (by omega)).1
    have h6 := lim_le (2 + (Max.max 0 (min (mx : Int) 33) + 1) * lim (2 + wPartsL [x] 20 0 + wAll g t 0))
    have := hx.wp
    show m + lim (2 + (Max.max 0 (min (mx : Int) 33) + 1) * lim (2 + wPartsL [x] 20 0 + wAll g t 0)) ≤ _
    rw [show Max.max 0 (min (mx : Int) 33) = (mx : Int) by omega] at h6 ⊢
    generalize lim (2 + wPartsL [x] 20 0 + wAll g t 0) = a at h1 h5 h6 ⊢
    have h7 : ((mx : Int) + 1) * a ≤ 7 * a := Int.mul_le_mul_of_nonneg_right (by omega) h5
    omega
/-- Such programs have no error. -/
theorem ql_ck {w z c : Nat} {labs : List Int} {l : List Sm} (h : Ql 8 w z c labs l) (hw : w ≤ 2000) (hz : z ≤ 8000) (hc : c ≤ 60) (hl : ∀ x ∈ labs, 1 ≤ x ∧ x ≤ 12) (hd : dupI labs = false) : ckF (pgOf l) = 0 ∧ PgOk (pgOf l) ∧ (∀ t ∈ (pgOf l).tasks, Rn (pgOf l) t) := by
  have hdp : dpF 8 l = false := md_deep 8 8 l (Nat.le_refl _) h.md
  have hszs := h.szs
  have hok : okPg (pgOf l) = true := by
    unfold okPg pgOf
    simp only [List.all_nil, List.all_cons, Bool.and_true, Bool.true_and]
    unfold okTk
    have h1 : okSs 20 l = true := md_okS 8 20 l (by omega) h.md
    have h2 : hdB (tkOf l) = true := by
      show (nameB Nt && plainB 9 && plainB 9 && plainB 1 && plainB 0) = true
      decide +kernel
    have h3 : VS.all nameB = true := by decide +kernel
    rw [h2]
    show (true && okSs 20 l && [].all inB && VS.all nameB && [].all arB && [].all mdB && [].all clB) = true
    rw [h1, h3]
    rfl
  have hsz : (progT (pgOf l)).size ≤ 8192 := by
    have z5 : (stsT Ksp l).size ≤ z := h.txt Ksp (by decide)
    have a1 := numS_11 (n := 9) (by omega) (by omega)
    have a3 := numS_11 (n := 1) (by omega) (by omega)
    have a4 := numS_11 (n := 0) (by omega) (by omega)
    have e1 : (catL inT ([] : List Inp)).size = 0 := rfl
    have e2 : (catL arT ([] : List Arr)).size = 0 := rfl
    have e3 : (catL mdT ([] : List Md)).size = 0 := rfl
    have e4 : (catL clT ([] : List Clm)).size = 0 := rfl
    have e5 : (catL vaT VS).size ≤ VS.length * 6 := catL_size (fun x hx => by
      have := VS_ok hx
      simp only [vaT, ByteArray.size_append, ba_lit, List.length_cons, List.length_nil]
      omega)
    have e6 : (catL tkT [tkOf l]).size ≤ [tkOf l].length * (z + 180) := catL_size (fun t ht => by
      rw [List.mem_singleton.1 ht]
      unfold tkOf
      simp only [tkT, tkHd, ByteArray.size_append, ba_lit, List.length_cons, List.length_nil]
      simp only [List.length_cons, List.length_nil] at e5
      omega)
    have e7 : (catL resT ([] : List ByteArray)).size = 0 := rfl
    have e8 : (catL shT ([] : List Shd)).size = 0 := rfl
    unfold progT pgOf
    simp only [ByteArray.size_append]
    simp only [List.length_cons, List.length_nil] at e6
    omega
  have hdp2 : (pgOf l).tasks.any (fun t => dpF 8 t.body) = false := by
    unfold pgOf tkOf
    simp only [List.any_cons, List.any_nil, hdp, Bool.or_false]
  have hR : Right (pgOf l) := by
    refine ⟨?_, ?_, ?_, fun t ht => ?_, fun t ht => ?_, fun t ht => ?_⟩
    · unfold limB pgOf
      simp only [List.all_cons, List.all_nil, Bool.and_true]
      unfold limT tkOf
      simp only [List.length_cons, List.length_nil, Bool.and_eq_true, decide_eq_true_eq]
      omega
    · unfold namB pgOf
      simp only [List.all_cons, List.all_nil, Bool.and_true, List.map_cons, List.map_nil]
      unfold namT tkOf
      show (!false && !(hasB [] Nt || dupB []) && ([].all (fun m : Md => hasB (([] : List Inp).map (·.1)) m.2.1) && !dupB [] && !dupB (VS ++ []) && Sm.nmss VS [] [] l)) = true
      rw [h.nms]
      decide +kernel
    · unfold ranB pgOf
      simp only [List.all_cons, List.all_nil, Bool.and_true]
      unfold ranT tkOf
      simp [h.wds]
    · rw [show t = tkOf l from List.mem_singleton.1 ht]
      unfold labT tkOf
      simp only [h.lbs, hd, List.all_nil, Bool.and_true, Bool.not_false, List.all_eq_true, Bool.and_eq_true, decide_eq_true_eq]
      exact hl
    · rw [show t = tkOf l from List.mem_singleton.1 ht]
      exact h.lck _
    · rw [show t = tkOf l from List.mem_singleton.1 ht]
      have := h.wgt 20 0 (by omega) (by omega)
      show wAll 20 l 0 ≤ 2000
      omega
  have h0 := ck_right hok hdp2 hsz hR
  refine ⟨h0, ⟨⟨by show 0 ≤ 1000; omega, by show 0 ≤ 1000; omega, by show 1 ≤ 1000; omega, fun t ht => ?_⟩, fun t ht => ?_⟩, fun t ht => ?_⟩
  · rw [show t = tkOf l from List.mem_singleton.1 ht]
    exact ⟨by show 0 ≤ 1000; omega, by show 3 ≤ 1000; omega, by show 0 ≤ 1000; omega, by show 0 ≤ 1000; omega, by show 0 ≤ 1000; omega, by show Sm.szs l ≤ _; omega⟩
  · rw [show t = tkOf l from List.mem_singleton.1 ht]
    exact md_lns 8 l h.md
  · refine rn_of h0 ht ?_ (by show 0 ≤ 1; omega)
    rw [show t = tkOf l from List.mem_singleton.1 ht]
    show 0 ≤ 1; omega
def nm3 (x : Int) : ByteArray := VS.getD (x % 3).toNat ⟨#[]⟩
theorem nm3_mem (x : Int) : nm3 x ∈ VS := by
  unfold nm3
  have : (x % 3).toNat = 0 ∨ (x % 3).toNat = 1 ∨ (x % 3).toNat = 2 := by omega
  rcases this with e | e | e <;> rw [e] <;> simp
def setX (b : Int) (i : Nat) : T := .bn (1 + b % 14) (.nm (nm3 b)) (.bn 1 (.nm (nm3 (b / 16))) (.nu (b * ((i : Int) + 1))))
def setS (b : Int) (i : Nat) : Sm := .mk 1 (nm3 (b / 5)) [] [setX b i] 0 0 [] []
/-- The assignments that a list of bytes stands for: the first n. -/
def setsF (l : List Int) (n : Nat) : List Sm := (List.range n).map (fun i => setS (l.getD i 0) i)
theorem setsF_succ (l : List Int) (n : Nat) : setsF l (n + 1) = setsF l n ++ [setS (l.getD n 0) n] := by unfold setsF; rw [List.range_succ, List.map_append]; rfl
theorem setsF_len (l : List Int) (n : Nat) : (setsF l n).length = n := by unfold setsF; rw [List.length_map, List.length_range]
theorem nu_txt {n : Int} (h0 : -2147483647 ≤ n) (h1 : n ≤ 2147483647) : (textT (.nu n)).size ≤ 13 := by
  have := numS_11 h0 h1
  unfold textT
  split
  · rw [ByteArray.size_append, ByteArray.size_append, one_size, one_size]; omega
  · omega
theorem nm_txt {s : ByteArray} (h : s ∈ VS) : (textT (.nm s)).size = 1 := by have := VS_ok h; unfold textT; exact this.2.1
theorem bn_txt {o : Int} {a b : T} (h : 1 ≤ o ∧ o ≤ 14) : (textT (.bn o a b)).size ≤ (textT a).size + (textT b).size + 6 := by
  have := sign_size h
  rw [textT]
  simp only [ByteArray.size_append, one_size]
  omega
theorem setX_ok {b : Int} {i : Nat} (hb : 0 ≤ b ∧ b ≤ 255) (hi : i ≤ 1000) : Ez (setX b i) := by
  have h1 : 0 ≤ b * ((i : Int) + 1) := Int.mul_nonneg hb.1 (by omega)
  have h2 : b * ((i : Int) + 1) ≤ 255 * 1001 := Int.mul_le_mul hb.2 (by omega) (by omega) (by omega)
  have m1 := nm3_mem b
  have m2 := nm3_mem (b / 16)
  unfold setX
  refine ⟨⟨⟨by omega, (VS_ok m1).1, ⟨by omega, (VS_ok m2).1, by show _ ∧ _; omega⟩⟩, by simp [T.dep]⟩, ?_, ?_, ?_, ?_, fun h => rfl⟩
  · simp only [useB, (VS_ok m1).2.2, (VS_ok m2).2.2]; rfl
  · rw [wdT, wdT, wdT, wdT, wdT]; simp only [Bool.true_and, Bool.and_eq_true, decide_eq_true_eq]; omega
  · have t1 := bn_txt (o := 1 + b % 14) (a := .nm (nm3 b)) (b := .bn 1 (.nm (nm3 (b / 16))) (.nu (b * ((i : Int) + 1)))) (by omega)
    have t2 := bn_txt (o := 1) (a := .nm (nm3 (b / 16))) (b := .nu (b * ((i : Int) + 1))) (by omega)
    have t3 := nu_txt (n := b * ((i : Int) + 1)) (by omega) (by omega)
    have t4 := nm_txt m1
    have t5 := nm_txt m2
    omega
  · exact Int.le_refl (5 : Int)
theorem setsF_ql (l : List Int) (hl : ∀ x ∈ l, 0 ≤ x ∧ x ≤ 255) (d : Nat) : ∀ n : Nat, n ≤ 1000 → Ql (d + 1) (n * 6) (n * 66) n [] (setsF l n)
  | 0, _ => Ql.nil _
  | n + 1, hn => by
    have hb : 0 ≤ l.getD n 0 ∧ l.getD n 0 ≤ 255 := by
      rw [List.getD_eq_getElem?_getD]
      cases h : l[n]? with
      | none => exact ⟨Int.le_refl _, by show (0 : Int) ≤ 255; omega⟩
      | some x => exact hl x (List.mem_of_getElem? h)
    have := (setsF_ql l hl d n (by omega)).app (Ql.set d (nm3_mem (l.getD n 0 / 5)) (setX_ok hb (i := n) (by omega)))
    rw [setsF_succ, Nat.add_mul, Nat.add_mul, Nat.one_mul, Nat.one_mul]
    exact this
def isSet (s : Sm) : Prop := ∃ nm x, s = .mk 1 nm [] [x] 0 0 [] []
def runV (l : List Sm) (V : List (ByteArray × Int)) : List (ByteArray × Int) := l.foldl (fun V s => aset V s.name (evF V [] 20 (hd0 s.value))) V
theorem evJ_nil (j : Jb) (e : T) : evJ [] j e = evF j.V [] 20 e := rfl
theorem run_sets : ∀ (l : List Sm), (∀ s ∈ l, isSet s) → ∀ j : Jb, runL [] l j = { j with V := runV l j.V, st := j.st + l.length }
  | [], _, j => by rw [runL]; show j = { j with V := j.V, st := j.st + 0 }; rw [Int.add_zero]
  | s :: l, h, j => by
    obtain ⟨nm, x, rfl⟩ := h s (List.mem_cons_self ..)
    rw [runL, runS, if_pos rfl, run_sets l (fun u hu => h u (List.mem_cons_of_mem _ hu))]
    show ({ j with V := runV l (aset j.V nm (evJ [] j x)), st := j.st + 1 + l.length } : Jb) = _
    rw [List.length_cons, show j.st + 1 + (l.length : Int) = j.st + ((l.length + 1 : Nat) : Int) by omega]
    rfl
theorem setsF_set (l : List Int) (n : Nat) : ∀ s ∈ setsF l n, isSet s := by
  intro s hs
  unfold setsF at hs
  obtain ⟨i, _, rfl⟩ := List.mem_map.1 hs
  exact ⟨_, _, rfl⟩
/-- The same values, by every name. -/
def VEq (V V' : List (ByteArray × Int)) : Prop := ∀ s, (aget V s).getD 0 = (aget V' s).getD 0
theorem VEq.set {V V' : List (ByteArray × Int)} (h : VEq V V') (k : ByteArray) (v : Int) : VEq (aset V k v) (aset V' k v) := fun s => by
  rw [aget_aset, aget_aset]
  split
  · rfl
  · exact h s
/-- The variables of a job of assignments, from the beginning. -/
def varsF (l : List Sm) : List Int := VS.map (fun s => (aget (runV l []) s).getD 0)
theorem run_pg {l : List Sm} (h : ckF (pgOf l) = 0) : runF (pgOf l) 0 [] [] = (⟨VS.map (fun s => (aget (runL [] l (jb0 (pgOf l) (tkOf l) [] [])).V s).getD 0), [], [], (runL [] l (jb0 (pgOf l) (tkOf l) [] [])).cn, (runL [] l (jb0 (pgOf l) (tkOf l) [] [])).st⟩, 0) :=
  runF_in (p := pgOf l) (k := 0) h (by show 0 < 1; omega) rfl rfl
abbrev cn0 : List Int := (List.replicate 39 (0 : Int)).set 0 1
theorem jb0_pg (l : List Sm) : jb0 (pgOf l) (tkOf l) [] [] = ⟨[], [], [], cn0, 0⟩ := rfl
def nestF (c : T) (b : List Sm) (k : Int) : Nat → List Sm
  | 0 => []
  | m + 1 => [.mk 3 E0 [] [c] 0 k (b ++ nestF c b (k + 1) m) []]
def sumC (j : Jb) : Nat → Int
  | 0 => 0
  | n + 1 => sumC j n + cnt j (3 * (n + 1) + 1)
theorem sumC_up {j : Jb} (hl : j.cn.length = 39) {i : Int} (hi : 0 ≤ i ∧ i ≤ 38) : ∀ n, n ≤ 12 → sumC (j.up i) n = sumC j n + (if i % 3 = 1 ∧ 1 < i ∧ i ≤ 3 * n + 1 then 1 else 0)
  | 0, _ => by rw [sumC, sumC, if_neg (by omega)]; rfl
  | n + 1, hn => by
    rw [sumC, sumC, sumC_up hl hi n (by omega), cnt_up39 hl i _ (by omega)]
    by_cases h1 : i.toNat = 3 * (n + 1) + 1
    · rw [if_pos h1, if_neg (by omega), if_pos (by omega)]; omega
    · by_cases h2 : i % 3 = 1 ∧ 1 < i ∧ i ≤ 3 * n + 1
      · rw [if_neg h1, if_pos h2, if_pos (by omega)]; omega
      · rw [if_neg h1, if_neg h2, if_neg (by omega)]; omega
theorem sumC_cn {j j' : Jb} (h : j'.cn = j.cn) : ∀ n, sumC j' n = sumC j n
  | 0 => rfl
  | n + 1 => by rw [sumC, sumC, sumC_cn h n]; unfold cnt; rw [h]
theorem nest_run {c : T} {b : List Sm} (hb : ∀ s ∈ b, isSet s) {N : Nat} (hN : N ≤ 12) : ∀ (m : Nat) (k : Nat) (j j' : Jb), 1 ≤ k → k + m ≤ N + 1 → j.cn.length = 39 → j'.cn.length = 39 → j.V = j'.V →
    (runL [] (nestF c b k m) j).V = (whI [] c 1 (runL [] b) m j').V ∧ (runL [] (nestF c b k m) j).st - j.st = (whI [] c 1 (runL [] b) m j').st - j'.st ∧
    sumC (runL [] (nestF c b k m) j) N - sumC j N = cnt (whI [] c 1 (runL [] b) m j') 4 - cnt j' 4 ∧ (runL [] (nestF c b k m) j).cn.length = 39 ∧ (whI [] c 1 (runL [] b) m j').cn.length = 39
  | 0, k, j, j', _, _, h1, h2, hV => by rw [nestF, runL, whI]; exact ⟨hV, by omega, by omega, h1, h2⟩
  | m + 1, k, j, j', hk, hkm, h1, h2, hV => by
    rw [nestF, runL, runL, runS, if_neg (by decide), if_neg (by decide), if_pos rfl, whI]
    have e1 : evJ [] ((j.up (3 * (k : Int))).step) (hd0 [c]) = evJ [] j'.step c := by
      rw [evJ_nil, evJ_nil]
      show evF j.V [] 20 c = evF j'.V [] 20 c
      rw [hV]
    have l1 : (j.up (3 * (k : Int))).step.cn.length = 39 := by rw [step_len, up_len]; exact h1
    have s1 : sumC ((j.up (3 * (k : Int))).step) N = sumC j N := by
      rw [sumC_cn (j := j.up (3 * (k : Int))) (j' := (j.up (3 * (k : Int))).step) rfl, sumC_up h1 (by omega) N hN, if_neg (by omega), Int.add_zero]
    rw [e1]
    by_cases h0 : evJ [] j'.step c = 0
    · rw [if_neg (fun h => h h0), if_pos h0, runL]
      refine ⟨hV, ?_, ?_, by rw [up_len]; exact l1, h2⟩
      · show j.st + 1 - j.st = j'.st + 1 - j'.st; omega
      · rw [sumC_up l1 (by omega) N hN, if_neg (by omega), s1, cnt_step]; omega
    · rw [if_pos h0, if_neg h0, runL_app]
      have g1 : ((j.up (3 * (k : Int))).step.up (3 * (k : Int) + 1)).cn.length = 39 := by rw [up_len]; exact l1
      have g2 : (j'.step.up (3 * 1 + 1)).cn.length = 39 := by rw [up_len]; exact h2
      have hrs : ∀ X : Jb, ∃ a, runL [] b X = a ∧ a.V = runV b X.V ∧ a.cn = X.cn ∧ a.st = X.st + b.length := fun X => ⟨_, rfl, by rw [run_sets b hb], by rw [run_sets b hb], by rw [run_sets b hb]⟩
      obtain ⟨a, ea, aV, ac, aS⟩ := hrs ((j.up (3 * (k : Int))).step.up (3 * (k : Int) + 1))
      obtain ⟨a', ea', aV', ac', aS'⟩ := hrs (j'.step.up (3 * 1 + 1))
      have t1 : ((j.up (3 * (k : Int))).step.up (3 * (k : Int) + 1)).V = j.V := rfl
      have t2 : (j'.step.up (3 * 1 + 1)).V = j'.V := rfl
      have t3 : ((j.up (3 * (k : Int))).step.up (3 * (k : Int) + 1)).st = j.st + 1 := rfl
      have t4 : (j'.step.up (3 * 1 + 1)).st = j'.st + 1 := rfl
      have s2 : sumC a N = sumC j N + 1 := by
        rw [sumC_cn ac, sumC_up l1 (by omega) N hN, if_pos (by omega), s1]
      have c2 : cnt a' 4 = cnt j' 4 + 1 := by
        have : cnt a' 4 = cnt (j'.step.up (3 * 1 + 1)) 4 := by unfold cnt; rw [ac']
        rw [this, cnt_up39 (j := j'.step) h2 _ 4 (by omega), if_pos (by decide), cnt_step]
      rw [ea, ea']
      obtain ⟨i1, i2, i3, i4, i5⟩ := nest_run (c := c) hb hN m (k + 1) a a' (by omega) (by omega) (by rw [ac]; exact g1) (by rw [ac']; exact g2) (by rw [aV, aV', t1, t2, hV])
      rw [show (((k + 1 : Nat)) : Int) = (k : Int) + 1 by omega] at i1 i2 i3 i4
      exact ⟨i1, by omega, by omega, i4, i5⟩
def seqL (k : Int) : Nat → List Int
  | 0 => []
  | m + 1 => k :: seqL (k + 1) m
theorem seqL_mem {x : Int} : ∀ {m : Nat} {k : Int}, x ∈ seqL k m → k ≤ x ∧ x < k + m
  | 0, _, h => by cases h
  | m + 1, k, h => by
    rcases List.mem_cons.1 h with rfl | h
    · omega
    · have := seqL_mem h; omega
theorem seqL_dup : ∀ (m : Nat) (k : Int), dupI (seqL k m) = false
  | 0, _ => rfl
  | m + 1, k => by
    rw [seqL, dupI, seqL_dup m (k + 1), Bool.or_false, ← Bool.not_eq_true, hasI_iff]
    intro h
    have := seqL_mem h
    omega
theorem nest_ql {c : T} {b : List Sm} (hc : Ez c) {w z cc : Nat} (hb : Ql 1 w z cc [] b) : ∀ (m : Nat) (k : Int), 1 ≤ k → k + m ≤ 13 → Ql (m + 1) (m * (w + 7)) (m * (z + 110)) (m * (cc + 1)) (seqL k m) (nestF c b k m)
  | 0, _, _, _ => by rw [Nat.zero_mul, Nat.zero_mul, Nat.zero_mul]; exact Ql.nil _
  | m + 1, k, h1, h2 => by
    have ih := nest_ql hc hb m (k + 1) (by omega) (by omega)
    have hb2 : ∀ d, Ql (d + 1) w z cc [] b := fun d => by
      induction d with
      | zero => exact hb
      | succ d ih => exact ih.up
    have := Ql.iff (lb := k) hc (by omega) ((hb2 m).app ih)
    rw [nestF, seqL]
    refine this.mono ?_ ?_ ?_
    · rw [Nat.add_mul, Nat.one_mul]; omega
    · rw [Nat.add_mul, Nat.one_mul]; omega
    · rw [Nat.add_mul, Nat.one_mul]; omega
theorem Ql.ups {n w z c : Nat} {la : List Int} {l : List Sm} (h : Ql n w z c la l) : ∀ d, Ql (n + d) w z c la l
  | 0 => h
  | d + 1 => (h.ups d).up
def condX (cond : Int) : T := .bn (11 + cond % 4) (.nm (nm3 (cond / 4))) (.nu (cond / 16))
theorem condX_ok {cond : Int} (h : 0 ≤ cond ∧ cond ≤ 255) : Ez (condX cond) := by
  have m1 := nm3_mem (cond / 4)
  unfold condX
  refine ⟨⟨⟨by omega, (VS_ok m1).1, by show _ ∧ _; omega⟩, by simp [T.dep]⟩, ?_, ?_, ?_, ?_, fun h => rfl⟩
  · simp only [useB, (VS_ok m1).2.2]; rfl
  · rw [wdT, wdT, wdT]; simp only [Bool.true_and, Bool.and_eq_true, decide_eq_true_eq]; omega
  · have t1 := bn_txt (o := 11 + cond % 4) (a := .nm (nm3 (cond / 4))) (b := .nu (cond / 16)) (by omega)
    have t3 := nu_txt (n := cond / 16) (by omega) (by omega)
    have t4 := nm_txt m1
    omega
  · show (3 : Int) ≤ 5; omega
def loopS (c : T) (n : Nat) (b : List Sm) : Sm := .mk 4 E0 [] [c] n 1 b []
theorem loops_law (a b : List Int) (ma mb : Nat) (c : T) (n : Nat) (hn : n ≤ 6) (hc : Ez c) (ha : ∀ x ∈ a, 0 ≤ x ∧ x ≤ 255) (hb : ∀ x ∈ b, 0 ≤ x ∧ x ≤ 255) (hma : ma ≤ 8) (hmb : mb ≤ 4) :
    ∃ x y : Out, runF (pgOf (setsF a ma ++ [loopS c n (setsF b mb)])) 0 [] [] = (x, 0) ∧ runF (pgOf (setsF a ma ++ nestF c (setsF b mb) 1 n)) 0 [] [] = (y, 0) ∧ x.vars = y.vars ∧ x.steps = y.steps ∧ x.vars.length = 3 ∧ x.counts.length = 39 ∧ y.counts.length = 39 ∧ (∀ k, y.counts.getD k 0 ≤ 1000 ∧ 0 ≤ y.counts.getD k 0) ∧ (∃ J : Jb, J.cn = y.counts ∧ x.counts.getD 4 0 = sumC J n) ∧
      PgOk (pgOf (setsF a ma ++ [loopS c n (setsF b mb)])) ∧ PgOk (pgOf (setsF a ma ++ nestF c (setsF b mb) 1 n)) ∧ (∀ t ∈ (pgOf (setsF a ma ++ [loopS c n (setsF b mb)])).tasks, Rn (pgOf (setsF a ma ++ [loopS c n (setsF b mb)])) t) ∧ (∀ t ∈ (pgOf (setsF a ma ++ nestF c (setsF b mb) 1 n)).tasks, Rn (pgOf (setsF a ma ++ nestF c (setsF b mb) 1 n)) t) := by
  have hA := setsF_ql a ha 7 ma (by omega)
  have hB := setsF_ql b hb 0 mb (by omega)
  have hx := hA.app (((Ql.whl (lb := 1) (mx := n) hc (by omega) hn hB)).ups 6)
  have hy0 := ((nest_ql hc hB n 1 (by omega) (by omega)).ups (7 - n)).mono (w' := 6 * (mb * 6 + 7)) (z' := 6 * (mb * 66 + 110)) (c' := 6 * (mb + 1)) (Nat.mul_le_mul_right _ hn) (Nat.mul_le_mul_right _ hn) (Nat.mul_le_mul_right _ hn)
  rw [show n + 1 + (7 - n) = 7 + 1 by omega] at hy0
  have hy := hA.app hy0
  obtain ⟨x0, x1, x2⟩ := ql_ck hx (by omega) (by omega) (by omega) (by simp) (by rfl)
  obtain ⟨y0, y1, y2⟩ := ql_ck hy (by omega) (by omega) (by omega) (fun x hx => by rw [List.nil_append] at hx; have := seqL_mem hx; omega) (by rw [List.nil_append]; exact seqL_dup _ _)
  refine ⟨_, _, run_pg x0, run_pg y0, ?_⟩
  rw [jb0_pg, jb0_pg]
  dsimp only
  have hok := runL_ok (ma := 0) (mb := 0) (AM := []) (setsF a ma ++ nestF c (setsF b mb) 1 n) 1 ⟨[], [], [], cn0, 0⟩ ⟨⟨Int.le_refl _, by show (0 : Int) ≤ 1; omega⟩, fun x hx => by revert x; decide, rfl, rfl, rfl⟩
  have hcst : Sm.csts (setsF a ma ++ nestF c (setsF b mb) 1 n) ≤ 900 := by
    have h1 := csts_le (n := 8) (f := 20) (l := setsF a ma ++ nestF c (setsF b mb) 1 n) (by omega) (fun s hs => (hy.md s hs).fine) hy.wds (by have := hy.wgt 20 0 (by omega) (by omega); omega)
    have h2 := hy.wgt 20 0 (by omega) (by omega)
    omega
  obtain ⟨j0, hj0, hcn⟩ : ∃ j0 : Jb, runL [] (setsF a ma) ⟨[], [], [], cn0, 0⟩ = j0 ∧ j0.cn = cn0 := ⟨_, rfl, by rw [run_sets _ (setsF_set a ma)]⟩
  have hl0 : j0.cn.length = 39 := by rw [hcn]; rfl
  have hry : runL [] (setsF a ma ++ nestF c (setsF b mb) 1 n) ⟨[], [], [], cn0, 0⟩ = runL [] (nestF c (setsF b mb) 1 n) j0 := by rw [runL_app, hj0]
  have hrx : runL [] (setsF a ma ++ [loopS c n (setsF b mb)]) ⟨[], [], [], cn0, 0⟩ = (whI [] c 1 (runL [] (setsF b mb)) n (j0.up (3 * 1))).up (3 * 1 + 2) := by
    rw [runL_app, hj0, runL, runL]
    unfold loopS
    rw [runS, if_neg (by decide), if_neg (by decide), if_neg (by decide), if_pos rfl]
    rfl
  rw [hrx, hry]
  rw [hry] at hok
  obtain ⟨j1, j2, j3, j4, j5⟩ := nest_run (c := c) (setsF_set b mb) (N := n) (by omega) n 1 j0 (j0.up (3 * 1)) (Nat.le_refl _) (by omega) hl0 (by rw [up_len]; exact hl0) rfl
  have sz : ∀ m, m ≤ 12 → sumC j0 m = 0 := by
    intro m
    induction m with
    | zero => intro _; rfl
    | succ m ih =>
      intro hm
      rw [sumC, ih (by omega)]
      show (0 : Int) + j0.cn.getD (3 * (m + 1) + 1) 0 = 0
      rw [hcn, List.getD_eq_getElem?_getD, List.getElem?_set, if_neg (by omega), List.getElem?_replicate, if_pos (by omega)]
      rfl
  refine ⟨?_, ?_, by simp, ?_, j4, ?_, ⟨_, rfl, ?_⟩, x1, y1, x2, y2⟩
  · refine List.map_congr_left (fun s _ => ?_)
    exact congrArg (fun V => (aget V s).getD 0) j1.symm
  · have e : (j0.up (3 * 1)).st = j0.st := rfl
    rw [e] at j2
    show (whI [] c 1 (runL [] (setsF b mb)) n (j0.up (3 * 1))).st = _
    have j2 : (runL [] (nestF c (setsF b mb) 1 n) j0).st - j0.st = (whI [] c 1 (runL [] (setsF b mb)) n (j0.up (3 * 1))).st - j0.st := j2
    omega
  · rw [up_len]; exact j5
  · intro k
    have h3 := getD_ok hok k
    omega
  · rw [sz n (by omega)] at j3
    have e1 := cnt_up39 j5 (3 * 1 + 2) 4 (by omega)
    rw [if_neg (by decide), Int.add_zero] at e1
    have e2 := cnt_up39 hl0 (3 * 1) 4 (by omega)
    rw [if_neg (by decide), Int.add_zero, show cnt j0 4 = 0 by unfold cnt; rw [hcn]; rfl] at e2
    rw [e2] at j3
    have j3 : sumC (runL [] (nestF c (setsF b mb) 1 n) j0) n - 0 = cnt (whI [] c 1 (runL [] (setsF b mb)) n (j0.up (3 * 1))) 4 - 0 := j3
    show cnt ((whI [] c 1 (runL [] (setsF b mb)) n (j0.up (3 * 1))).up (3 * 1 + 2)) 4 = _
    omega
end Go.Proofs.YtalkkcfojplmdaaGreatDoor
end

section
namespace Go.Vc
open Go.RowKit
def SLes : List S → List S → Prop
  | [], [] => True
  | s :: ss, t :: tt => SLe s t ∧ SLes ss tt
  | _, _ => False
theorem sles_ok {w : World} {A : Nat → Prop} : ∀ {ss tt : List S}, SLes ss tt → ∀ vs, SOks w A ss vs → SOks w A tt vs
  | [], [], _, _, h => h
  | s :: ss, t :: tt, hh, vs, h => by
    obtain ⟨v, r, rfl, h1, h2⟩ := h
    exact ⟨v, r, rfl, hh.1 _ _ _ h1, sles_ok hh.2 r h2⟩
  | [], _ :: _, hh, _, _ => hh.elim
  | _ :: _, [], hh, _, _ => hh.elim
theorem con_args {P : Program} [Gl P] {f : FuncId} {ss ss' : List S} {Hin : List Ch} {post : (S → List Ch → Prop) → Prop} (con : Con P f ss Hin post) (h : SLes ss' ss) : Con P f ss' Hin post :=
  fun vs w A h1 h2 h3 h4 h5 h6 => con vs w A h1 h2 h3 (sles_ok h vs h4) h5 h6
section
variable {P : Program} [Gl P] {nt : Nat} {c : Cx P nt} {env : Env} {H Hr : List Ch} {L : List (Nat × List Value × TypeId)} {t ty : TypeId} {pos : String} {af : Array Edge} {x : Operand}
theorem hok_loadAllK {d : Option Tmp} {b : Nat} {row : List C} {bt : TypeId} {cs : List Value} [TI P t] (j : Nat) (ha : aggB (TI.u P t) = true) (hx : env.ev x = some (.cell (.val (.pointer (some ⟨b, 0, none⟩))))) (hp : pick [j] H = some ([.blk b bt row], Hr))
    (hm : (b, cs, bt) ∈ L) (hz : (TI.i P t).size = row.length) : HOk c (Keep L) env H ⟨d, .load t x, ty, pos, af, none⟩ (.row (row.map unk)) :=
  fun a w hst hS => by
    obtain ⟨v, h1, cs', h2, h3⟩ := hok_loadAll (d := d) (ty := ty) (pos := pos) (af := af) j ha hx hp hm hz a w hst hS
    exact ⟨v, h1, cs', h2, rdRow_unk h3⟩
theorem ow_quoU8 {env : Env} {H : List Ch} {K : S → List Ch → Prop} {d : Option Tmp} {t t' : TypeId} {g : Option (Nat × Bool)} {y : Operand} {m n : Int} (hx : env.ev x = some (In .u8 m)) (hy : env.ev y = some (In .u8 n)) (hm : 0 ≤ m ∧ m ≤ 255) (h0 : 0 < n) (hK : K (In .u8 (m / n)) H) : OpWp c ⟨d, .binOp .quo t x y t', ty, pos, af, g⟩ env H K :=
  ow_quo hx hy (by omega) (by
    have h1 : m / n ≤ m := Int.ediv_le_self n hm.1
    have h2 : 0 ≤ m / n := Int.ediv_nonneg hm.1 (by omega)
    rw [Int.tdiv_eq_ediv_of_nonneg hm.1, wrap_u8 _ (by omega)]; exact hK)
end
section
variable {P : Program} [Gl P] {nt : Nat} {c : Cx P nt} {env : Env} {H Hr : List Ch} {K : S → List Ch → Prop}
theorem ow_freeze {o : Oper} (i j : Nat) {v : Value} {e : TypeId} {k : Nat} {rows : List (List C)} (hi : env.lookup i = some (.cell (.val v))) (hp : pick [j] H = some ([.own v e k rows], Hr)) (hX : ∀ b ∈ c.X, b ∈ hb Hr)
    (h : OpWp c o ((i, .cell (.list rows)) :: env) Hr K) : OpWp c o env H K := by
  intro a w hs next Q hn
  refine h a w (st_freeze hs hi hp hX) next Q ?_
  intro s H' v' w' hK hw' hv' hk
  refine hn s H' v' w' hK hw' hv' (fun s u hu => hk s u ?_)
  have hpm := pick_perm hp
  have h1 := (hs.heap.perm hpm).drop.2 s u
  rw [av_perm c hpm] at h1
  exact h1 hu
end
section
variable {P : Program} [Gl P] {nt : Nat} {c : Cx P nt} {env : Env} {H Hr : List Ch} {ops : Array Oper} {Q : Exit → Act → World → Prop} {Sw : World → Prop}
variable {m fuel : Nat} {listed : Array Bool} {i j d : Nat} {op : Op} {ty : TypeId} {pos : String} {af : Array Edge} {want b : Bool}
end
section
variable {P : Program} [Gl P] {nt : Nat} {c : Cx P nt} {env : Env} {H : List Ch} {Sw : World → Prop} {t ty : TypeId} {pos : String} {af : Array Edge} {x y : Operand} {d : Option Tmp}
end
end Go.Vc
end

section
namespace Go.Proofs.YtalkkcfojplmdaaGreatDoor
open Go.Vc
attribute [local irreducible] JL JC JQ OpWp Con ConN HOk
set_option maxHeartbeats 4000000

abbrev Ni : ByteArray := ⟨#[105]⟩
def cntP : Pg := ⟨[], [], [⟨Nt, 9, 9, 1, 0, [], [Ni], [], [], [], [.mk 1 Ni [] [.nu 0] 0 0 [] [], .mk 4 E0 [] [.bn 11 (.nm Ni) (.nu 3)] 2 1 [.mk 1 Ni [] [.bn 1 (.nm Ni) (.nu 1)] 0 0 [] []] []]⟩]⟩
theorem cnt_ok : PgOk cntP := by
  refine ⟨⟨by decide, by decide, by decide, fun t ht => ?_⟩, fun t ht => ?_⟩
  · rw [List.mem_singleton.1 ht]
    exact ⟨by decide, by decide, by decide, by decide, by decide, by decide⟩
  · rw [List.mem_singleton.1 ht]
    exact ⟨⟨by decide, by decide, trivial, trivial⟩, ⟨by decide, by decide, ⟨⟨by decide, by decide, trivial, trivial⟩, trivial⟩, trivial⟩, trivial⟩
def cntO : Out := ⟨[2], [], [], [1, 0, 0, 1, 2, 1, 0, 0, 0, 0, 0, 0, 0, 0, 0, 0, 0, 0, 0, 0, 0, 0, 0, 0, 0, 0, 0, 0, 0, 0, 0, 0, 0, 0, 0, 0, 0, 0, 0], 5⟩
theorem cnt_w : wAll 20 (cntP.tasks[0]'(by decide)).body 0 ≤ 2000 := by
  show wAll 20 [.mk 1 Ni [] [.nu 0] 0 0 [] [], .mk 4 E0 [] [.bn 11 (.nm Ni) (.nu 3)] 2 1 [.mk 1 Ni [] [.bn 1 (.nm Ni) (.nu 1)] 0 0 [] []] []] 0 ≤ 2000
  simp [wAll, wOne, wPartsL, wParts, wP, T.args, Sm.kind, Sm.index, Sm.value, Sm.thn, Sm.max, lim]
  decide
theorem cnt_ck : ckF cntP = 0 := ck_right (by decide +kernel) (by decide +kernel) (by decide +kernel) ⟨by decide +kernel, by decide +kernel, by decide +kernel, fun t ht => by rw [List.mem_singleton.1 ht]; decide +kernel, fun t ht => by rw [List.mem_singleton.1 ht]; decide +kernel, fun t ht => by rw [List.mem_singleton.1 ht]; exact cnt_w⟩
theorem cnt_runO : runO cntP (cntP.tasks[0]'(by decide)) [] [] = cntO := by kernel_rfl
theorem cnt_run : runF cntP 0 [] [] = (cntO, 0) := by
  have h := runF_in (p := cntP) (k := 0) cnt_ck (by decide) (ins := []) (ss := []) rfl rfl
  rw [cnt_runO] at h
  exact h
theorem cnt_rn : ckF cntP = 0 → ∀ t ∈ cntP.tasks, Rn cntP t := fun h t ht => rn_of h ht (by rw [List.mem_singleton.1 ht]; decide) (by decide)
theorem counting_c : Con Tryz.prog 65 [] [] (fun K => K (.row cntP.row) []) := by
  refine con_intro Tryz.func65 rfl rfl (Nat.le_of_ble_eq_true rfl) (fun c hc => R_ (o_ r_ (bl_ r_ r_ (fun bl => T_ (R_ (o_ r_ (bm_ r_ (gName_c _) (o_ r_ (bl_ r_ r_ (fun bl => S_ 0 r_ (T_ (am_ (jc_anyB 12 (some 11) rfl k_ k_ (aa_ (fun c => bs_ 0 r_ r_ r_ r_ p_) (aa_ (fun c => bm_ r_ (gNum_c _) p_) (aa_ (fun c => bm_ r_ (gBin_c _ _ _) p_) (aa_ (fun c => bq_ r_ r_ b_ r_ r_ b_ p_) ?_)))))))))))))))))
  refine aa_ (fun c => bs_ 0 r_ r_ r_ r_ p_) (aa_ (fun c => bm_ r_ (gNum_c _) p_) (aa_ (fun c => bm_ r_ (gBin_c _ _ _) p_) (aa_ (fun c => bq_ r_ r_ b_ r_ r_ b_ p_) (aa_ (fun c => bu_ r_ r_ r_ r_ r_ p_) (aa_ (fun c => bq_ r_ r_ b_ r_ r_ b_ p_) (aa_ (fun c => bu_ r_ r_ r_ r_ r_ p_) (af_ (ae_ (afin_some rfl rfl rfl (fun bl => S_ 0 r_ (T_ (am_ (jc_anyB 9 none rfl k_ k_ (aa_ (fun c => bq_ r_ r_ b_ r_ r_ b_ p_) ?_))))))))))))))
  refine aa_ (fun c => bm_ r_ (gNum_c _) p_) (aa_ (fun c => bq_ r_ r_ b_ r_ r_ b_ p_) (aa_ (fun c => bu_ r_ r_ r_ r_ r_ p_) (aa_ (fun c => bs_ 0 r_ r_ r_ r_ p_) (aa_ (fun c => bq_ r_ r_ b_ r_ r_ b_ p_) (aa_ (fun c => bu_ r_ r_ r_ r_ r_ p_) (aa_ (fun c => bq_ r_ r_ b_ r_ r_ b_ p_) (aa_ (fun c => bu_ r_ r_ r_ r_ r_ p_) (ae_ (afin_none (S_ 2 r_ (T_ (ar_ (jq_row 0 cntP.row rfl ?_ ?_)))))))))))))
  · (repeat (first | exact RowLe.nil | exact RowsLe.nil | exact CLe.nil | exact CLe.refl _ | refine RowLe.cons ?_ ?_ | refine RowsLe.cons ?_ ?_ | refine CLe.list ?_))
  · refine jq_retRow rfl rfl rfl rfl 0 rfl [] rfl (fun K h => h)
theorem awake6_c : Con Tryz.prog 27 [] [] (fun K => K (Bl true) []) := by
  have hE := con_args (ss' := [.row cntP.row, In .i64 0, .cell (.val (.slice none 0 0)), .cell (.val (.slice none 0 0))]) (eRun_c cntP cnt_ok cnt_rn 0 [] []) ⟨SLe.row (RowLe.refl _), SLe.cell (CLe.refl _), SLe.cell CLe.nil, SLe.cell CLe.nil, trivial⟩
  rw [cnt_run] at hE
  refine con_intro Tryz.func27 rfl rfl (Nat.le_of_ble_eq_true rfl) (fun c hc => R_ (E_ r_ (T_ (R_ (o_ r_ (bm_ r_ (counting_c) (o_ r_ (bm_ r_ (hE) (M_ r_ (X_ r_ (X_ r_ (o_ r_ (bl_ r_ r_ (fun bl => S_ 0 r_ (E_ r_ (T_ (R_ (M_ r_ ?_))))))))))))))))))
  refine o_ r_ (bn_ r_ r_ (M_ r_ (ah_ r_ r_ b_ (bf_ r_ r_ r_ b_ (ah_ r_ r_ b_ (bg_ 0 r_ r_ r_ r_ (ah_ r_ r_ b_ (br_ r_ (fun hlen => ah_ r_ r_ b_ (bn_ r_ r_ (o_ r_ (bp_ r_ x_ r_ (M_ r_ (ah_ r_ r_ b_ (bf_ r_ r_ r_ b_ (ah_ r_ r_ b_ (bg_ 0 r_ r_ r_ r_ (ah_ r_ r_ b_ (ow_indexAddr r_ r_ g_ r_ r_ b_ (ah_ r_ r_ b_ (cb_ r_ r_ (ah_ r_ r_ b_ (bn_ r_ r_ (o_ r_ (bp_ r_ x_ r_ (M_ r_ ?_))))))))))))))))))))))))))
  refine ah_ r_ r_ b_ (bf_ r_ r_ r_ b_ (ah_ r_ r_ b_ (bg_ 0 r_ r_ r_ r_ (ah_ r_ r_ b_ (br_ r_ (fun hlen => ah_ r_ r_ b_ (bn_ r_ r_ (o_ r_ (bp_ r_ x_ r_ (M_ r_ (ah_ r_ r_ b_ (bf_ r_ r_ r_ b_ (ah_ r_ r_ b_ (bg_ 0 r_ r_ r_ r_ (ah_ r_ r_ b_ (ow_indexAddr r_ r_ g_ r_ r_ b_ (ah_ r_ r_ b_ (cb_ r_ r_ (ah_ r_ r_ b_ (bn_ r_ r_ (o_ r_ (bp_ r_ x_ r_ (M_ r_ (ah_ r_ r_ b_ (bf_ r_ r_ r_ b_ ?_)))))))))))))))))))))))))
  refine ah_ r_ r_ b_ (bg_ 0 r_ r_ r_ r_ (ah_ r_ r_ b_ (ow_indexAddr r_ r_ g_ r_ r_ b_ (ah_ r_ r_ b_ (cb_ r_ r_ (ah_ r_ r_ b_ (bn_ r_ r_ (o_ r_ (bp_ r_ x_ r_ (M_ r_ (ah_ r_ r_ b_ (bf_ r_ r_ r_ b_ (ah_ r_ r_ b_ (bg_ 0 r_ r_ r_ r_ (ah_ r_ r_ b_ (ow_indexAddr r_ r_ g_ r_ r_ b_ (ah_ r_ r_ b_ (cb_ r_ r_ (ah_ r_ r_ b_ (bn_ r_ r_ (o_ r_ (bp_ r_ x_ r_ (M_ r_ (ah_ r_ r_ b_ (bf_ r_ r_ r_ b_ ?_)))))))))))))))))))))))))
  refine ah_ r_ r_ b_ (bg_ 0 r_ r_ r_ r_ (ah_ r_ r_ b_ (bn_ r_ r_ (o_ r_ (bp_ r_ x_ r_ (E_ r_ (T_ (ar_ (jq_ret1 rfl rfl [] rfl (fun K h => h))))))))))
end Go.Proofs.YtalkkcfojplmdaaGreatDoor
end

section
namespace Go.Proofs.YtalkkcfojplmdaaGreatDoor
open Go.Vc
attribute [local irreducible] JL JC JQ OpWp Con ConN HOk
attribute [local irreducible] runF ckF
set_option maxHeartbeats 4000000

def i3 (x : Int) : Nat := (x % 3).toNat
theorem lrun_c (l : List Sm) (hok : PgOk (pgOf l)) (hrn : ∀ t ∈ (pgOf l).tasks, Rn (pgOf l) t) : Con Tryz.prog 36 [.cell (.list (l.map Sm.row))] [] (fun K => K (.row (OutRow (runF (pgOf l) 0 [] []).1)) []) := by
  have hE := con_args (ss' := [.row (pgOf l).row, In .i64 0, .cell (.val (.slice none 0 0)), .cell (.val (.slice none 0 0))]) (eRun_c (pgOf l) hok (fun _ => hrn) 0 [] []) ⟨SLe.row (RowLe.refl _), SLe.cell (CLe.refl _), SLe.cell CLe.nil, SLe.cell CLe.nil, trivial⟩
  refine con_intro Tryz.func36 rfl rfl (Nat.le_of_ble_eq_true rfl) (fun c hc => R_ (o_ r_ (bl_ r_ r_ (fun bl => T_ (R_ (o_ r_ (bq_ r_ r_ b_ r_ r_ b_ (M_ r_ (o_ r_ (bu_ r_ r_ r_ r_ r_ (o_ r_ (bq_ r_ r_ b_ r_ r_ b_ (o_ r_ (bu_ r_ r_ r_ r_ r_ (o_ r_ (bl_ r_ r_ (fun bl => S_ 0 r_ (T_ (am_ (jc_row 0 (pgOf l).row rfl ?_ ?_))))))))))))))))))))
  · (repeat (first | exact RowLe.nil | exact RowsLe.nil | exact CLe.nil | exact CLe.refl _ | refine RowLe.cons ?_ ?_ | refine RowsLe.cons ?_ ?_ | refine CLe.list ?_))
  refine an_ (A_ 0 r_ (o_ r_ (bm_ r_ (hE) (M_ r_ (X_ r_ (X_ r_ (o_ r_ (bl_ r_ r_ (fun bl => S_ 0 r_ (E_ r_ (T_ (R_ (A_ 0 r_ (S_ 2 r_ (T_ (ar_ (jq_retRow rfl rfl rfl rfl 0 rfl [] rfl (fun K h => h))))))))))))))))))
theorem setsO_c (l : List Int) (hl : ∀ x ∈ l, 0 ≤ x ∧ x ≤ 255) (hn : l.length ≤ 1000) : Con Tryz.prog 35 [.cell (.list (l.map Brow))] [] (fun K => ∀ v : Value, v.oneCell' = true → K (.cell (.val v)) [.own v 66 8 ((setsF l l.length).map Sm.row)]) := by
  have hi3 : ∀ x : Int, x % 3 = ((i3 x : Nat) : Int) := fun x => by unfold i3; omega
  have hv : ∀ x : Int, (VS.map Wrow)[i3 x]? = some (Wrow (nm3 x)) := fun x => by
    unfold nm3 i3
    have : (x % 3).toNat = 0 ∨ (x % 3).toNat = 1 ∨ (x % 3).toNat = 2 := by omega
    rcases this with e | e | e <;> rw [e] <;> rfl
  refine con_intro Tryz.func35 rfl rfl (Nat.le_of_ble_eq_true rfl) (fun c hc => R_ (E_ r_ (T_ (R_ (E_ r_ (T_ (R_ (o_ r_ (bq_ r_ r_ b_ r_ r_ b_ (E_ r_ (T_ (am_ (R_ (E_ r_ (T_ (au_ ?_))))))))))))))))
  refine jc_sle 4 rfl (s' := .cell (.list (VS.map Wrow))) (SLe.cell (CLe.refl _)) (jc_ownNil 66 8 g_ ?_)
  refine jc_loopS (ι := Nat × Value) [] (fun i => i.1 ≤ (l).length ∧ i.2.oneCell' = true) (fun i => (5, In .i64 (i.1 : Int)) :: [(3, .cell (.val i.2)), (4, .cell (.list (VS.map Wrow))), (0, .cell (.list (l.map Brow)))]) (fun i => [.own i.2 66 8 ((setsF l i.1).map Sm.row)]) (fun i => (l).length - i.1) (0, .slice none 0 0) ⟨Nat.zero_le _, rfl⟩ ?_ ?_ ?_
  · exact bc_ 0 r_ sub_end
  · (repeat (first | exact True.intro | refine ⟨rfl, ?_⟩))
  rintro ⟨k, v⟩ hz
  dsimp only at hz ⊢
  obtain ⟨hk, hv1⟩ := hz
  have eLk : ((l).map Brow).length = (l).length := List.length_map _
  by_cases hltk : k < (l).length
  · have hltk2 : (k : Int) < (((l).map Brow).length : Int) := by omega
    have hb : 0 ≤ l[k] ∧ l[k] ≤ 255 := hl _ (List.getElem_mem hltk)
    have hg : l.getD k 0 = l[k] := by rw [List.getD_eq_getElem?_getD, List.getElem?_eq_getElem hltk]; rfl
    have hm0 : 0 ≤ l[k] * ((k : Int) + 1) := Int.mul_nonneg hb.1 (by omega)
    have hm1 : l[k] * ((k : Int) + 1) ≤ 255 * 1001 := Int.mul_le_mul hb.2 (by omega) (by omega) (by omega)
    have eBl : (setsF l k).length = k := setsF_len l k
    refine am_ (R_ (M_ r_ (M_ r_ (o_ r_ (br_ r_ (fun hlen => o_ r_ (bw_ r_ r_ (T_ (aq_ r_ u_ (as_ (al_ (B_ (am_ (jc_anyB 40 (some 39) rfl k_ k_ (yM_ r_ (yM_ r_ (aa_ (fun c => cc_ r_ r_ g_ r_ r_ b_ p_) ?_)))))))))))))))))
    refine aa_ (fun c => cb_ r_ r_ p_) (aa_ (fun c => ow_convI64 r_ r_ r_ g_ p_) (aa_ (fun c => ow_rem64 r_ r_ g_ g_ p_) (aa_ (fun c => bj_ r_ r_ g_ p_) (yM_ r_ (yM_ r_ (yM_ r_ (aa_ (fun c => cc_ r_ r_ g_ r_ r_ b_ p_) (aa_ (fun c => cb_ r_ r_ p_) (aa_ (fun c => ow_convI64 r_ r_ r_ g_ p_) (aa_ (fun c => ow_rem64 r_ r_ g_ g_ p_) (aa_ (fun c => ow_indexAddrN (i3 l[k]) r_ r_ (hi3 _) (hv _) r_ b_ p_) ?_)))))))))))
    refine aa_ (fun c => cb_ r_ r_ p_) (aa_ (fun c => bm_ r_ (gName_c _) p_) (yM_ r_ (yM_ r_ (yM_ r_ (aa_ (fun c => cc_ r_ r_ g_ r_ r_ b_ p_) (aa_ (fun c => cb_ r_ r_ p_) (aa_ (fun c => ow_quoU8 r_ r_ g_ g_ p_) (aa_ (fun c => ow_convI64 r_ r_ r_ g_ p_) (aa_ (fun c => ow_rem64 r_ r_ g_ g_ p_) (aa_ (fun c => ow_indexAddrN (i3 (l[k] / 16)) r_ r_ (hi3 _) (hv _) r_ b_ p_) (aa_ (fun c => cb_ r_ r_ p_) ?_)))))))))))
    refine aa_ (fun c => bm_ r_ (gName_c _) p_) (yM_ r_ (yM_ r_ (aa_ (fun c => cc_ r_ r_ g_ r_ r_ b_ p_) (aa_ (fun c => cb_ r_ r_ p_) (aa_ (fun c => ow_convI64 r_ r_ r_ g_ p_) (yM_ r_ (aa_ (fun c => bj_ r_ r_ g_ p_) (aa_ (fun c => cz_ r_ r_ g_ p_) (aa_ (fun c => bm_ r_ (gNum_c _) p_) (aa_ (fun c => bm_ r_ (gBin_c _ _ _) p_) (aa_ (fun c => bm_ r_ (gBin_c _ _ _) p_) (af_ (ae_ (afin_some rfl rfl rfl (fun bl => ?_)))))))))))))))
    refine S_ 0 r_ (T_ ?_)
    generalize bl = bS at *
    refine jc_anyB 15 none rfl k_ k_ (yM_ r_ (yM_ r_ (yM_ r_ (yM_ r_ (aa_ (fun c => cc_ r_ r_ g_ r_ r_ b_ p_) (aa_ (fun c => cb_ r_ r_ p_) (aa_ (fun c => ow_quoU8 r_ r_ g_ g_ p_) (aa_ (fun c => ow_convI64 r_ r_ r_ g_ p_) (aa_ (fun c => ow_rem64 r_ r_ g_ g_ p_) (aa_ (fun c => ow_indexAddrN (i3 (l[k] / 5)) r_ r_ (hi3 _) (hv _) r_ b_ p_) (aa_ (fun c => cb_ r_ r_ p_) (aa_ (fun c => bs_ 0 r_ r_ r_ r_ p_) ?_))))))))))))
    refine aa_ (fun c => bq_ r_ r_ b_ r_ r_ b_ p_) (aa_ (fun c => bu_ r_ r_ r_ r_ r_ p_) (aa_ (fun c => bq_ r_ r_ b_ r_ r_ b_ p_) (ae_ (afin_none (jl_sle 67 rfl (s' := .cell (.list [(setS l[k] k).row])) (SLe.cell (CLe.list (.cons ?_ .nil))) ?_)))))
    · (repeat (first | exact RowLe.nil | exact RowsLe.nil | exact CLe.nil | exact CLe.refl _ | refine RowLe.cons ?_ ?_ | refine RowsLe.cons ?_ ?_ | refine CLe.list ?_))
    refine o_ r_ (ow_append1 1 (setS l[k] k) rfl rfl rfl rfl rfl rfl rfl (fun a => by rw [Sm.row_eq] ; rfl) (by show (_ + 1) * 136 ≤ _ ; first | omega | (simp ; done)) (by first | omega | (simp ; done)) (fun v1 hv1 => E_ r_ (ak_ (ay_ (al_ (an_ (M_ r_ (o_ r_ (bj_ r_ r_ g_ (E_ r_ (ak_ (jq_againS (i := (k, v)) (k + 1, v1) ⟨hltk, hv1⟩ (by dsimp only; omega) ?_ ?_))))))))))))
    · rw [setsF_succ, hg]
      exact bc_ 0 r_ sub_end
    · (repeat (first | exact True.intro | refine ⟨rfl, ?_⟩))
  · have hltk2 : ¬ (k : Int) < (((l).map Brow).length : Int) := by omega
    refine am_ (R_ (M_ r_ (M_ r_ (o_ r_ (br_ r_ (fun hlen => o_ r_ (bw_ r_ r_ (T_ (ap_ r_ w_ (av_ (ax_ (ax_ (ba_ (al_ (R_ (M_ r_ (E_ r_ ?_)))))))))))))))))
    refine T_ (ar_ ?_)
    obtain rfl : k = l.length := by omega
    refine jq_ret1 rfl rfl [0] rfl (fun K h => h v hv1)
theorem setsL_c (l : List Int) (hl : ∀ x ∈ l, 0 ≤ x ∧ x ≤ 255) (hn : l.length ≤ 1000) : Con Tryz.prog 35 [.cell (.list (l.map Brow))] [] (fun K => K (.cell (.list ((setsF l l.length).map Sm.row))) []) := by
  have hi3 : ∀ x : Int, x % 3 = ((i3 x : Nat) : Int) := fun x => by unfold i3; omega
  have hv : ∀ x : Int, (VS.map Wrow)[i3 x]? = some (Wrow (nm3 x)) := fun x => by
    unfold nm3 i3
    have : (x % 3).toNat = 0 ∨ (x % 3).toNat = 1 ∨ (x % 3).toNat = 2 := by omega
    rcases this with e | e | e <;> rw [e] <;> rfl
  refine con_intro Tryz.func35 rfl rfl (Nat.le_of_ble_eq_true rfl) (fun c hc => R_ (E_ r_ (T_ (R_ (E_ r_ (T_ (R_ (o_ r_ (bq_ r_ r_ b_ r_ r_ b_ (E_ r_ (T_ (am_ (R_ (E_ r_ (T_ (au_ ?_))))))))))))))))
  refine jc_sle 4 rfl (s' := .cell (.list (VS.map Wrow))) (SLe.cell (CLe.refl _)) (jc_ownNil 66 8 g_ ?_)
  refine jc_loopS (ι := Nat × Value) [] (fun i => i.1 ≤ (l).length ∧ i.2.oneCell' = true) (fun i => (5, In .i64 (i.1 : Int)) :: [(3, .cell (.val i.2)), (4, .cell (.list (VS.map Wrow))), (0, .cell (.list (l.map Brow)))]) (fun i => [.own i.2 66 8 ((setsF l i.1).map Sm.row)]) (fun i => (l).length - i.1) (0, .slice none 0 0) ⟨Nat.zero_le _, rfl⟩ ?_ ?_ ?_
  · exact bc_ 0 r_ sub_end
  · (repeat (first | exact True.intro | refine ⟨rfl, ?_⟩))
  rintro ⟨k, v⟩ hz
  dsimp only at hz ⊢
  obtain ⟨hk, hv1⟩ := hz
  have eLk : ((l).map Brow).length = (l).length := List.length_map _
  by_cases hltk : k < (l).length
  · have hltk2 : (k : Int) < (((l).map Brow).length : Int) := by omega
    have hb : 0 ≤ l[k] ∧ l[k] ≤ 255 := hl _ (List.getElem_mem hltk)
    have hg : l.getD k 0 = l[k] := by rw [List.getD_eq_getElem?_getD, List.getElem?_eq_getElem hltk]; rfl
    have hm0 : 0 ≤ l[k] * ((k : Int) + 1) := Int.mul_nonneg hb.1 (by omega)
    have hm1 : l[k] * ((k : Int) + 1) ≤ 255 * 1001 := Int.mul_le_mul hb.2 (by omega) (by omega) (by omega)
    have eBl : (setsF l k).length = k := setsF_len l k
    refine am_ (R_ (M_ r_ (M_ r_ (o_ r_ (br_ r_ (fun hlen => o_ r_ (bw_ r_ r_ (T_ (aq_ r_ u_ (as_ (al_ (B_ (am_ (jc_anyB 40 (some 39) rfl k_ k_ (yM_ r_ (yM_ r_ (aa_ (fun c => cc_ r_ r_ g_ r_ r_ b_ p_) ?_)))))))))))))))))
    refine aa_ (fun c => cb_ r_ r_ p_) (aa_ (fun c => ow_convI64 r_ r_ r_ g_ p_) (aa_ (fun c => ow_rem64 r_ r_ g_ g_ p_) (aa_ (fun c => bj_ r_ r_ g_ p_) (yM_ r_ (yM_ r_ (yM_ r_ (aa_ (fun c => cc_ r_ r_ g_ r_ r_ b_ p_) (aa_ (fun c => cb_ r_ r_ p_) (aa_ (fun c => ow_convI64 r_ r_ r_ g_ p_) (aa_ (fun c => ow_rem64 r_ r_ g_ g_ p_) (aa_ (fun c => ow_indexAddrN (i3 l[k]) r_ r_ (hi3 _) (hv _) r_ b_ p_) ?_)))))))))))
    refine aa_ (fun c => cb_ r_ r_ p_) (aa_ (fun c => bm_ r_ (gName_c _) p_) (yM_ r_ (yM_ r_ (yM_ r_ (aa_ (fun c => cc_ r_ r_ g_ r_ r_ b_ p_) (aa_ (fun c => cb_ r_ r_ p_) (aa_ (fun c => ow_quoU8 r_ r_ g_ g_ p_) (aa_ (fun c => ow_convI64 r_ r_ r_ g_ p_) (aa_ (fun c => ow_rem64 r_ r_ g_ g_ p_) (aa_ (fun c => ow_indexAddrN (i3 (l[k] / 16)) r_ r_ (hi3 _) (hv _) r_ b_ p_) (aa_ (fun c => cb_ r_ r_ p_) ?_)))))))))))
    refine aa_ (fun c => bm_ r_ (gName_c _) p_) (yM_ r_ (yM_ r_ (aa_ (fun c => cc_ r_ r_ g_ r_ r_ b_ p_) (aa_ (fun c => cb_ r_ r_ p_) (aa_ (fun c => ow_convI64 r_ r_ r_ g_ p_) (yM_ r_ (aa_ (fun c => bj_ r_ r_ g_ p_) (aa_ (fun c => cz_ r_ r_ g_ p_) (aa_ (fun c => bm_ r_ (gNum_c _) p_) (aa_ (fun c => bm_ r_ (gBin_c _ _ _) p_) (aa_ (fun c => bm_ r_ (gBin_c _ _ _) p_) (af_ (ae_ (afin_some rfl rfl rfl (fun bl => ?_)))))))))))))))
    refine S_ 0 r_ (T_ ?_)
    generalize bl = bS at *
    refine jc_anyB 15 none rfl k_ k_ (yM_ r_ (yM_ r_ (yM_ r_ (yM_ r_ (aa_ (fun c => cc_ r_ r_ g_ r_ r_ b_ p_) (aa_ (fun c => cb_ r_ r_ p_) (aa_ (fun c => ow_quoU8 r_ r_ g_ g_ p_) (aa_ (fun c => ow_convI64 r_ r_ r_ g_ p_) (aa_ (fun c => ow_rem64 r_ r_ g_ g_ p_) (aa_ (fun c => ow_indexAddrN (i3 (l[k] / 5)) r_ r_ (hi3 _) (hv _) r_ b_ p_) (aa_ (fun c => cb_ r_ r_ p_) (aa_ (fun c => bs_ 0 r_ r_ r_ r_ p_) ?_))))))))))))
    refine aa_ (fun c => bq_ r_ r_ b_ r_ r_ b_ p_) (aa_ (fun c => bu_ r_ r_ r_ r_ r_ p_) (aa_ (fun c => bq_ r_ r_ b_ r_ r_ b_ p_) (ae_ (afin_none (jl_sle 67 rfl (s' := .cell (.list [(setS l[k] k).row])) (SLe.cell (CLe.list (.cons ?_ .nil))) ?_)))))
    · (repeat (first | exact RowLe.nil | exact RowsLe.nil | exact CLe.nil | exact CLe.refl _ | refine RowLe.cons ?_ ?_ | refine RowsLe.cons ?_ ?_ | refine CLe.list ?_))
    refine o_ r_ (ow_append1 1 (setS l[k] k) rfl rfl rfl rfl rfl rfl rfl (fun a => by rw [Sm.row_eq] ; rfl) (by show (_ + 1) * 136 ≤ _ ; first | omega | (simp ; done)) (by first | omega | (simp ; done)) (fun v1 hv1 => E_ r_ (ak_ (ay_ (al_ (an_ (M_ r_ (o_ r_ (bj_ r_ r_ g_ (E_ r_ (ak_ (jq_againS (i := (k, v)) (k + 1, v1) ⟨hltk, hv1⟩ (by dsimp only; omega) ?_ ?_))))))))))))
    · rw [setsF_succ, hg]
      exact bc_ 0 r_ sub_end
    · (repeat (first | exact True.intro | refine ⟨rfl, ?_⟩))
  · have hltk2 : ¬ (k : Int) < (((l).map Brow).length : Int) := by omega
    refine am_ (R_ (M_ r_ (M_ r_ (o_ r_ (br_ r_ (fun hlen => o_ r_ (bw_ r_ r_ (T_ (ap_ r_ w_ (av_ (ax_ (ax_ (ba_ (al_ (R_ (M_ r_ (E_ r_ ?_)))))))))))))))))
    refine T_ (ar_ ?_)
    obtain rfl : k = l.length := by omega
    refine jq_freeze 2 0 rfl rfl (by rw [hc]; simp [Vc.hb, Ch.bs]) (jq_ret1 rfl rfl [] rfl (fun K h => h))
end Go.Proofs.YtalkkcfojplmdaaGreatDoor
end

section
namespace Go.Proofs.YtalkkcfojplmdaaGreatDoor
open Go.Vc
attribute [local irreducible] JL JC JQ OpWp Con ConN HOk
attribute [local irreducible] runF ckF setsF varsF runV
set_option maxHeartbeats 8000000

theorem sumC_bd {J : Jb} {l : List Int} (hJ : J.cn = l) (h : ∀ k, l.getD k 0 ≤ 1000 ∧ 0 ≤ l.getD k 0) : ∀ n : Nat, 0 ≤ sumC J n ∧ sumC J n ≤ 1000 * n
  | 0 => by rw [sumC]; omega
  | n + 1 => by
    have := sumC_bd hJ h n
    have h1 := h (3 * (n + 1) + 1)
    rw [sumC]
    unfold cnt
    rw [hJ]
    omega
theorem sumC_next {J : Jb} {l : List Int} (hJ : J.cn = l) {k : Nat} (h : (3 * ((k : Int) + 1) + 1).toNat < l.length) : sumC J (k + 1) = sumC J k + l[(3 * ((k : Int) + 1) + 1).toNat] := by
  rw [sumC]
  unfold cnt
  rw [hJ, List.getD_eq_getElem?_getD]
  congr 1
  rw [show 3 * (k + 1) + 1 = (3 * ((k : Int) + 1) + 1).toNat by omega, List.getElem?_eq_getElem h]
  rfl
theorem rowLeT (e : T) : RowLe e.row' e.row := by rw [T.row_eq]; exact RowLe.refl _
abbrev lpRow (c : T) (n : Nat) (B : List Sm) : List C := [.val (.int .i64 4), .val (.string E0), .list (([] : List T).map T.row), .list ([c].map T.row), .val (.int .i64 n), .val (.int .i64 1), .list (B.map Sm.row), .list (([] : List Sm).map Sm.row)]
theorem EvalLoops_c (a b : List Int) (ha : ∀ x ∈ a, 0 ≤ x ∧ x ≤ 255) (hB : ∀ x ∈ b, 0 ≤ x ∧ x ≤ 255) (most cond : Int) (hmo : 0 ≤ most ∧ most ≤ 255) (hco : 0 ≤ cond ∧ cond ≤ 255) :
    Con Tryz.prog 10 [.cell (.list (a.map Brow)), .cell (.list (b.map Brow)), In .u8 most, In .u8 cond] [] (fun K => K (Bl true) []) := by
  have hw := awake6_c
  have eA : (a.map Brow).length = a.length := List.length_map _
  have eB : (b.map Brow).length = b.length := List.length_map _
  refine con_intro Tryz.func10 rfl rfl (Nat.le_of_ble_eq_true rfl) (fun c hc => ?_)
  by_cases hla : a.length > 8
  · have hla2 : ((a.map Brow).length : Int) > 8 := by omega
    refine R_ (E_ r_ (T_ (am_ (R_ (M_ r_ (o_ r_ (br_ r_ (fun hlen => o_ r_ (bz_ r_ r_ (M_ r_ (ai_ r_ u_ b_ (ai_ r_ u_ b_ (ai_ r_ u_ b_ (o_ r_ (bp_ r_ u_ r_ (T_ (aq_ r_ r_ (R_ ?_))))))))))))))))))
    refine o_ r_ (bm_ r_ (hw) (E_ r_ (T_ (ar_ (aw_ (jq_ret1 rfl rfl [] rfl (fun K h => h)))))))
  by_cases hlb : b.length > 4
  · have hla2 : ¬ ((a.map Brow).length : Int) > 8 := by omega
    have hlb2 : ((b.map Brow).length : Int) > 4 := by omega
    refine R_ (E_ r_ (T_ (am_ (R_ (M_ r_ (o_ r_ (br_ r_ (fun hlen => o_ r_ (bz_ r_ r_ (M_ r_ (ah_ r_ w_ b_ (bd_ r_ (ah_ r_ w_ b_ (br_ r_ (fun hlen => ah_ r_ w_ b_ (bz_ r_ r_ (o_ r_ (bv_ r_ w_ r_ (T_ (aq_ r_ u_ (R_ ?_)))))))))))))))))))))
    refine o_ r_ (bm_ r_ (hw) (E_ r_ (T_ (ar_ (aw_ (jq_ret1 rfl rfl [] rfl (fun K h => h)))))))
  have hla2 : ¬ ((a.map Brow).length : Int) > 8 := by omega
  have hlb2 : ¬ ((b.map Brow).length : Int) > 4 := by omega
  have hv : (VS.map Wrow)[i3 (cond / 4)]? = some (Wrow (nm3 (cond / 4))) := by
    unfold nm3 i3
    have : (cond / 4 % 3).toNat = 0 ∨ (cond / 4 % 3).toNat = 1 ∨ (cond / 4 % 3).toNat = 2 := by omega
    rcases this with e | e | e <;> rw [e] <;> rfl
  have hi3 : cond / 4 % 3 = ((i3 (cond / 4) : Nat) : Int) := by unfold i3; omega
  have eC : condX cond = .bn (11 + cond % 4) (.nm (nm3 (cond / 4))) (.nu (cond / 16)) := rfl
  have okC := condX_ok hco
  obtain ⟨n, hn⟩ : ∃ n : Nat, most % 7 = (n : Int) := ⟨(most % 7).toNat, by omega⟩
  have hn6 : n ≤ 6 := by omega
  have sA := setsO_c a ha (by omega)
  have sB := setsL_c b hB (by omega)
  have lA := setsF_len a a.length
  have lB := setsF_len b b.length
  obtain ⟨x, y, rx, ry, hvars, hst, hv3, hcx, hcy, hbd, ⟨J, hJ, hs4⟩, ox, oy, nx, ny⟩ := loops_law a b a.length b.length (condX cond) n hn6 okC ha hB (by omega) (by omega)
  have r1 := lrun_c _ ox nx
  have r2 := lrun_c _ oy ny
  rw [rx] at r1
  rw [ry] at r2
  obtain ⟨xv, xa, xs, xc, xst⟩ := x
  obtain ⟨yv, ya, ys, yc, yst⟩ := y
  dsimp only [OutRow] at hvars hst hv3 hcx hcy hbd hJ hs4 r1 r2
  subst hvars
  subst hst
  generalize hX : setsF a a.length = X at *
  generalize hY : setsF b b.length = B at *
  clear ox oy nx ny rx ry okC hX hY
  refine R_ (E_ r_ (T_ (am_ (R_ (M_ r_ (o_ r_ (br_ r_ (fun hlen => o_ r_ (bz_ r_ r_ (M_ r_ (ah_ r_ w_ b_ (bd_ r_ (ah_ r_ w_ b_ (br_ r_ (fun hlen => ah_ r_ w_ b_ (bz_ r_ r_ (o_ r_ (bv_ r_ w_ r_ (T_ (ap_ r_ w_ (as_ ?_)))))))))))))))))))))
  refine al_ (R_ (M_ r_ (o_ r_ (ow_convI64 r_ r_ r_ g_ (o_ r_ (ow_rem64 r_ r_ g_ g_ (o_ r_ (bj_ r_ r_ g_ (o_ r_ (bq_ r_ r_ b_ r_ r_ b_ (M_ r_ (o_ r_ (ow_quoU8 r_ r_ g_ g_ (o_ r_ (ow_remU8 r_ r_ g_ g_ (o_ r_ (ow_indexAddrN (i3 (cond / 4)) r_ r_ hi3 hv r_ b_ (o_ r_ (cb_ r_ r_ (o_ r_ (bm_ r_ (gName_c _) (M_ r_ (o_ r_ (ow_quoU8 r_ r_ g_ g_ (o_ r_ (ow_convI64 r_ r_ r_ g_ ?_))))))))))))))))))))))))))
  refine o_ r_ (bm_ r_ (gNum_c _) (o_ r_ (bm_ r_ (gBin_c _ _ _) (o_ r_ (bl_ r_ r_ (fun bl => S_ 0 r_ (T_ (am_ (jc_row 0 (condX cond).row' rfl ?_ ?_)))))))))
  · rw [eC]
    (repeat (first | exact RowLe.nil | exact RowsLe.nil | exact CLe.nil | exact CLe.refl _ | refine RowLe.cons ?_ ?_ | refine RowsLe.cons ?_ ?_ | refine CLe.list ?_))
  generalize condX cond = cx at *
  generalize bl = bC at *
  refine an_ (M_ r_ (o_ r_ (ow_convI64 r_ r_ r_ g_ (o_ r_ (ow_rem64 r_ r_ g_ g_ (E_ r_ (T_ (am_ (jc_same 10 rfl (show In .i64 (most % 7) = In .i64 (n : Int) by rw [hn]) (an_ (M_ r_ (o_ r_ (bm_ r_ (sB) (E_ r_ (T_ (R_ (M_ r_ (A_ 0 r_ ?_))))))))))))))))))
  refine o_ r_ (bq_ r_ r_ b_ r_ r_ b_ (M_ r_ (o_ r_ (bu_ r_ r_ r_ r_ r_ (o_ r_ (bl_ r_ r_ (fun bl => S_ 0 r_ (T_ (am_ (jc_row 0 (lpRow cx n B) rfl ?_ ?_))))))))))
  · (repeat (first | exact RowLe.nil | exact RowsLe.nil | exact CLe.nil | exact CLe.refl _ | exact rowLeT _ | refine RowLe.cons ?_ ?_ | refine RowsLe.cons ?_ ?_ | refine CLe.list ?_))
  generalize bl = bS at *
  refine an_ (E_ r_ (T_ (am_ (R_ (M_ r_ (E_ r_ (T_ (au_ (jc_sle 13 rfl (s' := .cell (.list ((nestF cx B ((n : Int) - (0 : Nat) + 1) 0).map Sm.row))) (SLe.cell CLe.nil) (jc_same 14 rfl (show In .i64 (n : Int) = In .i64 ((n : Int) - (0 : Nat)) by rw [show (n : Int) - (0 : Nat) = n by omega]) ?_))))))))))
  refine jc_loopS (ι := Nat) [] (fun m => m ≤ n) (fun m => [(14, In .i64 ((n : Int) - m)), (13, .cell (.list ((nestF cx B ((n : Int) - m + 1) m).map Sm.row))), (12, Ptr bS), (10, In .i64 (n : Int)), (9, Ptr bC), (11, .cell (.list (B.map Sm.row))), (0, .cell (.list (a.map Brow)))]) (fun _ => [.blk bC 69 cx.row', .blk bS 66 (lpRow cx n B)]) (fun m => n - m) 0 (Nat.zero_le _) ?_ ?_ ?_
  · exact bc_ 1 r_ (bc_ 0 r_ sub_end)
  · (repeat (first | exact True.intro | refine ⟨rfl, ?_⟩))
  rintro m hm
  by_cases hlt : m < n
  · have hlt2 : (n : Int) - m > 0 := by omega
    refine am_ (R_ (M_ r_ (o_ r_ (bz_ r_ r_ (T_ (aq_ r_ u_ (as_ (al_ (am_ (jc_cut (ι := Unit) [] (fun _ => True) (fun _ => [(14, In .i64 ((n : Int) - m)), (13, .cell (.list ((nestF cx B ((n : Int) - m) (m + 1)).map Sm.row))), (12, Ptr bS), (10, In .i64 (n : Int)), (9, Ptr bC), (11, .cell (.list (B.map Sm.row))), (0, .cell (.list (a.map Brow)))]) (fun _ => [.blk bC 69 cx.row', .blk bS 66 (lpRow cx n B)]) ?_ ?_))))))))))
    · have hnl : (nestF cx B ((n : Int) - m + 1) m).length ≤ 1 := by cases m <;> simp [nestF]
      have eN : nestF cx B ((n : Int) - m) (m + 1) = [.mk 3 E0 [] [cx] 0 ((n : Int) - m) (B ++ nestF cx B ((n : Int) - m + 1) m) []] := rfl
      generalize nestF cx B ((n : Int) - m + 1) m = N at hnl eN ⊢
      rw [eN]
      refine au_ (jc_hpM 10 (n := 11) rfl 0 k_ rfl (fun cs1 hcs1 hv1 => ?_))
      obtain ⟨u10, u11, u12, u13, u14, rfl⟩ := len5 hcs1
      obtain rfl := Option.some.inj (hv1 0 _ rfl)
      obtain rfl := Option.some.inj (hv1 1 _ rfl)
      obtain rfl := Option.some.inj (hv1 2 _ rfl)
      obtain rfl := Option.some.inj (hv1 3 _ rfl)
      refine hp_know 0 rfl mem0 ?_
      dsimp only [List.zipWith, know]
      refine df_ (i := 0) rfl k_ k_ k_ b_ (by (repeat (first | refine pani_then ?_ | refine pani_block ?_)); exact pani_body) (dk_ rfl) ?_
      refine df_ (i := 1) rfl k_ k_ k_ b_ (by (repeat (first | refine pani_then ?_ | refine pani_block ?_)); exact pani_body) (hok_loadAllK 0 rfl rfl rfl mem0 rfl) ?_
      refine df_ (i := 4) rfl k_ k_ k_ b_ (by (repeat (first | refine pani_then ?_ | refine pani_block ?_)); exact pani_body) (dk_ rfl) ?_
      refine df_ (i := 6) rfl k_ k_ k_ b_ (by (repeat (first | refine pani_then ?_ | refine pani_block ?_)); exact pani_body) (dk_ rfl) ?_
      refine hp_br2 (i := 2) (j := 3) rfl rfl k_ rfl ?_ ?_
      refine hs_v (bq_ rfl rfl (nb rfl) rfl rfl (nb rfl) ⟨?_, ?_⟩)
      exact keepK 0 rfl rfl
      refine dg_ (i := 3) rfl k_ b_ (ow_buildSliceOwn (rows := ([] : List Sm).map Sm.row) rfl rfl b_ rfl rfl b_ (fun v0 hv0 fv0 => ⟨?_, ?_⟩))
      exact keepK 1 rfl rfl
      refine dg_ (i := 5) rfl k_ b_ (ow_appendM 0 (f := Sm.row) (l1 := []) (l2 := B) rfl rfl rfl rfl rfl rfl rfl (fun a => by rw [Sm.row_eq] ; rfl) (by show (_ + _) * 136 ≤ _ ; first | omega | (simp ; omega)) (by first | omega | (simp ; omega)) (fun v0 hv0 => ⟨?_, ?_⟩))
      exact keepK 1 rfl rfl
      refine dg_ (i := 7) rfl k_ b_ (ow_appendM 0 (f := Sm.row) (l1 := B) (l2 := N) rfl rfl rfl rfl rfl rfl rfl (fun a => by rw [Sm.row_eq] ; rfl) (by show (_ + _) * 136 ≤ _ ; first | omega | (simp ; omega)) (by first | omega | (simp ; omega)) (fun v0 hv0 => ⟨?_, ?_⟩))
      exact keepK 1 rfl rfl
      refine dg_ (i := 8) rfl k_ b_ (ow_freeze 66 0 rfl rfl (by rw [hc] ; simp [hb]) (bu_ rfl rfl rfl rfl rfl ⟨?_, ?_⟩))
      exact keepK 0 rfl rfl
      refine dg_ (i := 9) r_ k_ b_ (bq_ r_ r_ b_ r_ r_ b_ ⟨?_, ?_⟩)
      exact keepK 0 rfl rfl
      refine df_ (i := 10) rfl k_ k_ k_ b_ (by (repeat (first | refine pani_then ?_ | refine pani_block ?_)); exact pani_body) (hok_assign rfl) ?_
      refine hp_done k_ (jq_unk _ 0 rfl rfl ?_)
      dsimp only [List.map, unk]
      rotate_left
      refine hs_v (ow_buildSliceOwn (rows := ([] : List Sm).map Sm.row) rfl rfl (nb rfl) rfl rfl (nb rfl) (fun v0 hv0 fv0 => ⟨?_, ?_⟩))
      exact keepK 1 rfl rfl
      refine hp_br2 (i := 2) (j := 5) rfl rfl k_ rfl ?_ ?_
      refine hs_v (bq_ rfl rfl (nb rfl) rfl rfl (nb rfl) ⟨?_, ?_⟩)
      exact keepK 1 rfl rfl
      refine dg_ (i := 5) rfl k_ b_ (ow_appendM 0 (f := Sm.row) (l1 := []) (l2 := B) rfl rfl rfl rfl rfl rfl rfl (fun a => by rw [Sm.row_eq] ; rfl) (by show (_ + _) * 136 ≤ _ ; first | omega | (simp ; omega)) (by first | omega | (simp ; omega)) (fun v0 hv0 => ⟨?_, ?_⟩))
      exact keepK 1 rfl rfl
      refine dg_ (i := 7) rfl k_ b_ (ow_appendM 0 (f := Sm.row) (l1 := B) (l2 := N) rfl rfl rfl rfl rfl rfl rfl (fun a => by rw [Sm.row_eq] ; rfl) (by show (_ + _) * 136 ≤ _ ; first | omega | (simp ; omega)) (by first | omega | (simp ; omega)) (fun v0 hv0 => ⟨?_, ?_⟩))
      exact keepK 1 rfl rfl
      refine dg_ (i := 8) rfl k_ b_ (ow_freeze 66 0 rfl rfl (by rw [hc] ; simp [hb]) (bu_ rfl rfl rfl rfl rfl ⟨?_, ?_⟩))
      exact keepK 0 rfl rfl
      refine dg_ (i := 9) r_ k_ b_ (bq_ r_ r_ b_ r_ r_ b_ ⟨?_, ?_⟩)
      exact keepK 0 rfl rfl
      refine df_ (i := 10) rfl k_ k_ k_ b_ (by (repeat (first | refine pani_then ?_ | refine pani_block ?_)); exact pani_body) (hok_assign rfl) ?_
      refine hp_done k_ (jq_unk _ 0 rfl rfl ?_)
      dsimp only [List.map, unk]
      rotate_left
      refine hs_v (ow_appendM 0 (f := Sm.row) (l1 := []) (l2 := B) rfl rfl rfl rfl rfl rfl rfl (fun a => by rw [Sm.row_eq] ; rfl) (by show (_ + _) * 136 ≤ _ ; first | omega | (simp ; omega)) (by first | omega | (simp ; omega)) (fun v0 hv0 => ⟨?_, ?_⟩))
      exact keepK 1 rfl rfl
      refine hp_br2 (i := 2) (j := 7) rfl rfl k_ rfl ?_ ?_
      refine hs_v (bq_ rfl rfl (nb rfl) rfl rfl (nb rfl) ⟨?_, ?_⟩)
      exact keepK 1 rfl rfl
      refine dg_ (i := 7) rfl k_ b_ (ow_appendM 0 (f := Sm.row) (l1 := B) (l2 := N) rfl rfl rfl rfl rfl rfl rfl (fun a => by rw [Sm.row_eq] ; rfl) (by show (_ + _) * 136 ≤ _ ; first | omega | (simp ; omega)) (by first | omega | (simp ; omega)) (fun v0 hv0 => ⟨?_, ?_⟩))
      exact keepK 1 rfl rfl
      refine dg_ (i := 8) rfl k_ b_ (ow_freeze 66 0 rfl rfl (by rw [hc] ; simp [hb]) (bu_ rfl rfl rfl rfl rfl ⟨?_, ?_⟩))
      exact keepK 0 rfl rfl
      refine dg_ (i := 9) r_ k_ b_ (bq_ r_ r_ b_ r_ r_ b_ ⟨?_, ?_⟩)
      exact keepK 0 rfl rfl
      refine df_ (i := 10) rfl k_ k_ k_ b_ (by (repeat (first | refine pani_then ?_ | refine pani_block ?_)); exact pani_body) (hok_assign rfl) ?_
      refine hp_done k_ (jq_unk _ 0 rfl rfl ?_)
      dsimp only [List.map, unk]
      rotate_left
      refine hs_v (ow_appendM 0 (f := Sm.row) (l1 := B) (l2 := N) rfl rfl rfl rfl rfl rfl rfl (fun a => by rw [Sm.row_eq] ; rfl) (by show (_ + _) * 136 ≤ _ ; first | omega | (simp ; omega)) (by first | omega | (simp ; omega)) (fun v0 hv0 => ⟨?_, ?_⟩))
      exact keepK 1 rfl rfl
      refine dg_ (i := 2) r_ k_ b_ (bq_ r_ r_ b_ r_ r_ b_ ⟨?_, ?_⟩)
      exact keepK 1 rfl rfl
      refine dg_ (i := 8) rfl k_ b_ (ow_freeze 66 0 rfl rfl (by rw [hc] ; simp [hb]) (bu_ rfl rfl rfl rfl rfl ⟨?_, ?_⟩))
      exact keepK 0 rfl rfl
      refine dg_ (i := 9) r_ k_ b_ (bq_ r_ r_ b_ r_ r_ b_ ⟨?_, ?_⟩)
      exact keepK 0 rfl rfl
      refine df_ (i := 10) rfl k_ k_ k_ b_ (by (repeat (first | refine pani_then ?_ | refine pani_block ?_)); exact pani_body) (hok_assign rfl) ?_
      refine hp_done k_ (jq_unk _ 0 rfl rfl ?_)
      dsimp only [List.map, unk]
      rotate_left
      · refine ay_ (jq_sle 13 rfl (s' := .cell (.list (([Sm.mk 3 E0 [] [cx] 0 ((n : Int) - m) (B ++ N) []]).map Sm.row))) (SLe.cell (CLe.list (.cons ?_ .nil))) ?_)
        · rw [Sm.row_eq]
          (repeat (first | exact RowLe.nil | exact RowsLe.nil | exact CLe.nil | exact CLe.refl _ | exact rowLeT _ | refine RowLe.cons ?_ ?_ | refine RowsLe.cons ?_ ?_ | refine CLe.list ?_))
        refine jq_cutS () trivial ?_ ?_
        · exact bc_ 0 r_ (bc_ 0 r_ sub_end)
        · (repeat (first | exact True.intro | refine ⟨rfl, ?_⟩))
      · refine ay_ (jq_sle 13 rfl (s' := .cell (.list (([Sm.mk 3 E0 [] [cx] 0 ((n : Int) - m) (B ++ N) []]).map Sm.row))) (SLe.cell (CLe.list (.cons ?_ .nil))) ?_)
        · rw [Sm.row_eq]
          (repeat (first | exact RowLe.nil | exact RowsLe.nil | exact CLe.nil | exact CLe.refl _ | exact rowLeT _ | refine RowLe.cons ?_ ?_ | refine RowsLe.cons ?_ ?_ | refine CLe.list ?_))
        refine jq_cutS () trivial ?_ ?_
        · exact bc_ 0 r_ (bc_ 0 r_ sub_end)
        · (repeat (first | exact True.intro | refine ⟨rfl, ?_⟩))
      · refine ay_ (jq_sle 13 rfl (s' := .cell (.list (([Sm.mk 3 E0 [] [cx] 0 ((n : Int) - m) (B ++ N) []]).map Sm.row))) (SLe.cell (CLe.list (.cons ?_ .nil))) ?_)
        · rw [Sm.row_eq]
          (repeat (first | exact RowLe.nil | exact RowsLe.nil | exact CLe.nil | exact CLe.refl _ | exact rowLeT _ | refine RowLe.cons ?_ ?_ | refine RowsLe.cons ?_ ?_ | refine CLe.list ?_))
        refine jq_cutS () trivial ?_ ?_
        · exact bc_ 0 r_ (bc_ 0 r_ sub_end)
        · (repeat (first | exact True.intro | refine ⟨rfl, ?_⟩))
      · refine ay_ (jq_sle 13 rfl (s' := .cell (.list (([Sm.mk 3 E0 [] [cx] 0 ((n : Int) - m) (B ++ N) []]).map Sm.row))) (SLe.cell (CLe.list (.cons ?_ .nil))) ?_)
        · rw [Sm.row_eq]
          (repeat (first | exact RowLe.nil | exact RowsLe.nil | exact CLe.nil | exact CLe.refl _ | exact rowLeT _ | refine RowLe.cons ?_ ?_ | refine RowsLe.cons ?_ ?_ | refine CLe.list ?_))
        refine jq_cutS () trivial ?_ ?_
        · exact bc_ 0 r_ (bc_ 0 r_ sub_end)
        · (repeat (first | exact True.intro | refine ⟨rfl, ?_⟩))
    intro _ _
    refine an_ (M_ r_ (o_ r_ (cg_ r_ r_ g_ (E_ r_ (ak_ (jq_againS (i := m) (m + 1) g_ g_ ?_ ?_))))))
    · exact bc_ 0 r_ (bc_ 0 r_ sub_end)
    · rw [show (n : Int) - ((m + 1 : Nat) : Int) = (n : Int) - m - 1 by omega, show (n : Int) - m - 1 + 1 = (n : Int) - m by omega]
      (repeat (first | exact True.intro | refine ⟨rfl, ?_⟩))
  · have hlt2 : ¬ (n : Int) - m > 0 := by omega
    obtain rfl : m = n := by omega
    rw [show (m : Int) - m + 1 = 1 by omega]
    generalize hN : nestF cx B 1 m = N at r2 ⊢
    have hNl : N.length ≤ 1 := by rw [← hN]; cases m <;> simp [nestF]
    clear hN
    refine am_ (R_ (M_ r_ (o_ r_ (bz_ r_ r_ (T_ (ap_ r_ w_ (av_ (ax_ (ax_ (ba_ (al_ (am_ ?_))))))))))))
    refine jc_cut (ι := Nat) [] (fun _ => True) (fun b => [(15, Ptr b), (13, .cell (.list (N.map Sm.row))), (10, In .i64 (m : Int)), (9, Ptr bC), (11, .cell (.list (B.map Sm.row))), (0, .cell (.list (a.map Brow)))]) (fun b => [.blk b 46 [.list (xv.map Irow), .list (xa.map LRow), .list (xs.map LRow), .list (xc.map Irow), .val (.int .i64 xst)]]) ?_ ?_
    · refine jc_hpM 7 (n := 8) rfl 1 k_ rfl (fun cs1 hcs1 hv1 => ?_)
      obtain ⟨u10, u11, u12, u13, u14, u15, u16, u17, rfl⟩ := len8 hcs1
      obtain rfl := Option.some.inj (hv1 0 _ rfl)
      obtain rfl := Option.some.inj (hv1 1 _ rfl)
      obtain rfl := Option.some.inj (hv1 4 _ rfl)
      obtain rfl := Option.some.inj (hv1 5 _ rfl)
      refine hp_know 1 rfl mem0 ?_
      dsimp only [List.zipWith, know]
      refine df_ (i := 0) rfl k_ k_ k_ b_ (by (repeat (first | refine pani_then ?_ | refine pani_block ?_)); exact pani_body) (dk_ rfl) ?_
      refine df_ (i := 2) rfl k_ k_ k_ b_ (by (repeat (first | refine pani_then ?_ | refine pani_block ?_)); exact pani_body) (hok_loadAllK 0 rfl rfl rfl mem0 rfl) ?_
      refine hp_br3 (i := 1) (j := 3) (k := 6) rfl rfl rfl k_ rfl ?_ ?_ ?_
      refine hs_v (bt_ [] rfl rfl (sA) (fun pp hpp => ⟨?_, ?_⟩))
      exact keepK 1 rfl rfl
      refine hp_br2 (i := 3) (j := 6) rfl rfl k_ rfl ?_ ?_
      refine hs_v (bq_ rfl rfl (nb rfl) rfl rfl (nb rfl) ⟨?_, ?_⟩)
      exact keepK 1 rfl rfl
      refine hp_br2 (i := 4) (j := 6) rfl rfl k_ rfl ?_ ?_
      refine hs_v (ow_append1 0 (loopS cx m B) rfl rfl (by rw [Sm.row_eq] ; rfl) rfl rfl rfl rfl (fun a => by rw [Sm.row_eq] ; rfl) (by show (_ + 1) * 136 ≤ _ ; omega) g_ (fun v1 hv1 => ⟨?_, ?_⟩))
      exact keepK 1 rfl rfl
      refine hp_br2 (i := 5) (j := 6) rfl rfl k_ rfl ?_ ?_
      refine hs_v (ow_freeze 73 0 rfl rfl (by rw [hc] ; simp [hb]) (bm_ rfl r1 ⟨?_, ?_⟩))
      exact keepK 0 rfl rfl
      refine dg_ (i := 6) r_ k_ b_ (bl_ r_ r_ (fun bl => ⟨?_, ?_⟩))
      exact keepK 1 rfl rfl
      refine hp_tail (dj_ (i := 7) rfl k_ (by decide) (bk_ 0 rfl rfl rfl rfl rfl rfl (ht_done k_ (jq_unk _ 1 rfl rfl ?_))))
      dsimp only [List.map, unk]
      rotate_left
      refine hs_v (bl_ rfl rfl (fun bl => ⟨?_, ?_⟩))
      exact keepK 2 rfl rfl
      refine dg_ (i := 5) rfl k_ b_ (ow_freeze 73 1 rfl rfl (by rw [hc] ; simp [hb]) (bm_ rfl r1 ⟨?_, ?_⟩))
      exact keepK 1 rfl rfl
      refine hp_tail (dj_ (i := 7) rfl k_ (by decide) (bk_ 0 rfl rfl rfl rfl rfl rfl (ht_done k_ (jq_unk _ 1 rfl rfl ?_))))
      dsimp only [List.map, unk]
      rotate_left
      refine hs_v (bl_ rfl rfl (fun bl => ⟨?_, ?_⟩))
      exact keepK 2 rfl rfl
      refine dg_ (i := 4) rfl k_ b_ (ow_append1 1 (loopS cx m B) rfl rfl (by rw [Sm.row_eq] ; rfl) rfl rfl rfl rfl (fun a => by rw [Sm.row_eq] ; rfl) (by show (_ + 1) * 136 ≤ _ ; omega) g_ (fun v1 hv1 => ⟨?_, ?_⟩))
      exact keepK 2 rfl rfl
      refine dg_ (i := 5) rfl k_ b_ (ow_freeze 73 0 rfl rfl (by rw [hc] ; simp [hb]) (bm_ rfl r1 ⟨?_, ?_⟩))
      exact keepK 1 rfl rfl
      refine hp_tail (dj_ (i := 7) rfl k_ (by decide) (bk_ 0 rfl rfl rfl rfl rfl rfl (ht_done k_ (jq_unk _ 1 rfl rfl ?_))))
      dsimp only [List.map, unk]
      rotate_left
      refine hs_v (bl_ rfl rfl (fun bl => ⟨?_, ?_⟩))
      exact keepK 2 rfl rfl
      refine dg_ (i := 3) r_ k_ b_ (bq_ r_ r_ b_ r_ r_ b_ ⟨?_, ?_⟩)
      exact keepK 2 rfl rfl
      refine dg_ (i := 4) rfl k_ b_ (ow_append1 1 (loopS cx m B) rfl rfl (by rw [Sm.row_eq] ; rfl) rfl rfl rfl rfl (fun a => by rw [Sm.row_eq] ; rfl) (by show (_ + 1) * 136 ≤ _ ; omega) g_ (fun v1 hv1 => ⟨?_, ?_⟩))
      exact keepK 2 rfl rfl
      refine dg_ (i := 5) rfl k_ b_ (ow_freeze 73 0 rfl rfl (by rw [hc] ; simp [hb]) (bm_ rfl r1 ⟨?_, ?_⟩))
      exact keepK 1 rfl rfl
      refine hp_tail (dj_ (i := 7) rfl k_ (by decide) (bk_ 0 rfl rfl rfl rfl rfl rfl (ht_done k_ (jq_unk _ 1 rfl rfl ?_))))
      dsimp only [List.map, unk]
      rotate_left
      refine hs_v (bq_ rfl rfl (nb rfl) rfl rfl (nb rfl) ⟨?_, ?_⟩)
      exact keepK 0 rfl rfl
      refine hp_br2 (i := 1) (j := 6) rfl rfl k_ rfl ?_ ?_
      refine hs_v (bt_ [] rfl rfl (sA) (fun pp hpp => ⟨?_, ?_⟩))
      exact keepK 1 rfl rfl
      refine hp_br2 (i := 4) (j := 6) rfl rfl k_ rfl ?_ ?_
      refine hs_v (ow_append1 0 (loopS cx m B) rfl rfl (by rw [Sm.row_eq] ; rfl) rfl rfl rfl rfl (fun a => by rw [Sm.row_eq] ; rfl) (by show (_ + 1) * 136 ≤ _ ; omega) g_ (fun v1 hv1 => ⟨?_, ?_⟩))
      exact keepK 1 rfl rfl
      refine hp_br2 (i := 5) (j := 6) rfl rfl k_ rfl ?_ ?_
      refine hs_v (ow_freeze 73 0 rfl rfl (by rw [hc] ; simp [hb]) (bm_ rfl r1 ⟨?_, ?_⟩))
      exact keepK 0 rfl rfl
      refine dg_ (i := 6) r_ k_ b_ (bl_ r_ r_ (fun bl => ⟨?_, ?_⟩))
      exact keepK 1 rfl rfl
      refine hp_tail (dj_ (i := 7) rfl k_ (by decide) (bk_ 0 rfl rfl rfl rfl rfl rfl (ht_done k_ (jq_unk _ 1 rfl rfl ?_))))
      dsimp only [List.map, unk]
      rotate_left
      refine hs_v (bl_ rfl rfl (fun bl => ⟨?_, ?_⟩))
      exact keepK 2 rfl rfl
      refine dg_ (i := 5) rfl k_ b_ (ow_freeze 73 1 rfl rfl (by rw [hc] ; simp [hb]) (bm_ rfl r1 ⟨?_, ?_⟩))
      exact keepK 1 rfl rfl
      refine hp_tail (dj_ (i := 7) rfl k_ (by decide) (bk_ 0 rfl rfl rfl rfl rfl rfl (ht_done k_ (jq_unk _ 1 rfl rfl ?_))))
      dsimp only [List.map, unk]
      rotate_left
      refine hs_v (bl_ rfl rfl (fun bl => ⟨?_, ?_⟩))
      exact keepK 2 rfl rfl
      refine dg_ (i := 4) rfl k_ b_ (ow_append1 1 (loopS cx m B) rfl rfl (by rw [Sm.row_eq] ; rfl) rfl rfl rfl rfl (fun a => by rw [Sm.row_eq] ; rfl) (by show (_ + 1) * 136 ≤ _ ; omega) g_ (fun v1 hv1 => ⟨?_, ?_⟩))
      exact keepK 2 rfl rfl
      refine dg_ (i := 5) rfl k_ b_ (ow_freeze 73 0 rfl rfl (by rw [hc] ; simp [hb]) (bm_ rfl r1 ⟨?_, ?_⟩))
      exact keepK 1 rfl rfl
      refine hp_tail (dj_ (i := 7) rfl k_ (by decide) (bk_ 0 rfl rfl rfl rfl rfl rfl (ht_done k_ (jq_unk _ 1 rfl rfl ?_))))
      dsimp only [List.map, unk]
      rotate_left
      refine hs_v (bl_ rfl rfl (fun bl => ⟨?_, ?_⟩))
      exact keepK 1 rfl rfl
      refine dg_ (i := 1) rfl k_ b_ (bt_ [] rfl rfl (sA) (fun pp hpp => ⟨?_, ?_⟩))
      exact keepK 2 rfl rfl
      refine dg_ (i := 4) rfl k_ b_ (ow_append1 0 (loopS cx m B) rfl rfl (by rw [Sm.row_eq] ; rfl) rfl rfl rfl rfl (fun a => by rw [Sm.row_eq] ; rfl) (by show (_ + 1) * 136 ≤ _ ; omega) g_ (fun v1 hv1 => ⟨?_, ?_⟩))
      exact keepK 2 rfl rfl
      refine dg_ (i := 5) rfl k_ b_ (ow_freeze 73 0 rfl rfl (by rw [hc] ; simp [hb]) (bm_ rfl r1 ⟨?_, ?_⟩))
      exact keepK 1 rfl rfl
      refine hp_tail (dj_ (i := 7) rfl k_ (by decide) (bk_ 0 rfl rfl rfl rfl rfl rfl (ht_done k_ (jq_unk _ 1 rfl rfl ?_))))
      dsimp only [List.map, unk]
      rotate_left
      refine hs_v (bl_ rfl rfl (fun bl => ⟨?_, ?_⟩))
      exact keepK 1 rfl rfl
      refine hp_br2 (i := 1) (j := 3) rfl rfl k_ rfl ?_ ?_
      refine hs_v (bt_ [] rfl rfl (sA) (fun pp hpp => ⟨?_, ?_⟩))
      exact keepK 2 rfl rfl
      refine dg_ (i := 3) r_ k_ b_ (bq_ r_ r_ b_ r_ r_ b_ ⟨?_, ?_⟩)
      exact keepK 2 rfl rfl
      refine dg_ (i := 4) rfl k_ b_ (ow_append1 0 (loopS cx m B) rfl rfl (by rw [Sm.row_eq] ; rfl) rfl rfl rfl rfl (fun a => by rw [Sm.row_eq] ; rfl) (by show (_ + 1) * 136 ≤ _ ; omega) g_ (fun v1 hv1 => ⟨?_, ?_⟩))
      exact keepK 2 rfl rfl
      refine dg_ (i := 5) rfl k_ b_ (ow_freeze 73 0 rfl rfl (by rw [hc] ; simp [hb]) (bm_ rfl r1 ⟨?_, ?_⟩))
      exact keepK 1 rfl rfl
      refine hp_tail (dj_ (i := 7) rfl k_ (by decide) (bk_ 0 rfl rfl rfl rfl rfl rfl (ht_done k_ (jq_unk _ 1 rfl rfl ?_))))
      dsimp only [List.map, unk]
      rotate_left
      refine hs_v (bq_ rfl rfl (nb rfl) rfl rfl (nb rfl) ⟨?_, ?_⟩)
      exact keepK 1 rfl rfl
      refine dg_ (i := 1) rfl k_ b_ (bt_ [] rfl rfl (sA) (fun pp hpp => ⟨?_, ?_⟩))
      exact keepK 2 rfl rfl
      refine dg_ (i := 4) rfl k_ b_ (ow_append1 0 (loopS cx m B) rfl rfl (by rw [Sm.row_eq] ; rfl) rfl rfl rfl rfl (fun a => by rw [Sm.row_eq] ; rfl) (by show (_ + 1) * 136 ≤ _ ; omega) g_ (fun v1 hv1 => ⟨?_, ?_⟩))
      exact keepK 2 rfl rfl
      refine dg_ (i := 5) rfl k_ b_ (ow_freeze 73 0 rfl rfl (by rw [hc] ; simp [hb]) (bm_ rfl r1 ⟨?_, ?_⟩))
      exact keepK 1 rfl rfl
      refine hp_tail (dj_ (i := 7) rfl k_ (by decide) (bk_ 0 rfl rfl rfl rfl rfl rfl (ht_done k_ (jq_unk _ 1 rfl rfl ?_))))
      dsimp only [List.map, unk]
      rotate_left
      · refine jq_cutS bl trivial ?_ ?_
        · exact bc_ 1 r_ sub_end
        · (repeat (first | exact True.intro | refine ⟨rfl, ?_⟩))
      · refine jq_cutS bl trivial ?_ ?_
        · exact bc_ 1 r_ sub_end
        · (repeat (first | exact True.intro | refine ⟨rfl, ?_⟩))
      · refine jq_cutS bl trivial ?_ ?_
        · exact bc_ 1 r_ sub_end
        · (repeat (first | exact True.intro | refine ⟨rfl, ?_⟩))
      · refine jq_cutS bl trivial ?_ ?_
        · exact bc_ 1 r_ sub_end
        · (repeat (first | exact True.intro | refine ⟨rfl, ?_⟩))
      · refine jq_cutS bl trivial ?_ ?_
        · exact bc_ 1 r_ sub_end
        · (repeat (first | exact True.intro | refine ⟨rfl, ?_⟩))
      · refine jq_cutS bl trivial ?_ ?_
        · exact bc_ 1 r_ sub_end
        · (repeat (first | exact True.intro | refine ⟨rfl, ?_⟩))
      · refine jq_cutS bl trivial ?_ ?_
        · exact bc_ 1 r_ sub_end
        · (repeat (first | exact True.intro | refine ⟨rfl, ?_⟩))
      · refine jq_cutS bl trivial ?_ ?_
        · exact bc_ 1 r_ sub_end
        · (repeat (first | exact True.intro | refine ⟨rfl, ?_⟩))
      · refine jq_cutS bl trivial ?_ ?_
        · exact bc_ 1 r_ sub_end
        · (repeat (first | exact True.intro | refine ⟨rfl, ?_⟩))
      · refine jq_cutS bl trivial ?_ ?_
        · exact bc_ 1 r_ sub_end
        · (repeat (first | exact True.intro | refine ⟨rfl, ?_⟩))
    intro bX _
    refine R_ (M_ r_ (o_ r_ (bt_ [] rfl rfl (sA) (fun pp hpp => M_ r_ (o_ r_ (ow_appendM 0 (f := Sm.row) (l1 := X) (l2 := N) rfl rfl rfl rfl rfl rfl rfl (fun a => by rw [Sm.row_eq] ; rfl) (by show (_ + _) * 136 ≤ _ ; first | omega | (simp ; omega)) (by first | omega | (simp ; omega)) (fun v0 hv0 => o_ r_ (ow_freeze 78 0 rfl rfl (by rw [hc] ; simp [hb]) (bm_ rfl r2 (o_ r_ (bl_ r_ r_ (fun bl => S_ 0 r_ (T_ ?_)))))))))))))
    refine am_ (am_ ?_)
    generalize bl = bY at *
    have e3 : ¬ ((xv.map Irow).length : Int) ≠ 3 := by rw [List.length_map]; omega
    have e39 : ¬ ((xc.map Irow).length : Int) ≠ 39 := by rw [List.length_map]; omega
    have e40 : ¬ ((yc.map Irow).length : Int) ≠ ((xc.map Irow).length : Int) := by rw [List.length_map, List.length_map]; omega
    have eyl : (yc.map Irow).length = 39 := by rw [List.length_map, hcy]
    have h4 : (xc.map Irow)[4]? = some (Irow (sumC J m)) := by
      rw [← hs4, List.getElem?_map, List.getD_eq_getElem?_getD, List.getElem?_eq_getElem (by omega)]; rfl
    have hSI := SameIX_c xv
    refine an_ (F_ r_ (L_ 1 r_ (o_ r_ (br_ r_ (fun hlen => o_ r_ (bx_ r_ r_ (M_ r_ (ah_ r_ w_ b_ (bf_ r_ r_ r_ b_ (ah_ r_ w_ b_ (bg_ 1 r_ r_ r_ r_ (ah_ r_ w_ b_ (br_ r_ (fun hlen => ah_ r_ w_ b_ (bx_ r_ r_ (o_ r_ (bv_ r_ w_ r_ (M_ r_ (ah_ r_ w_ b_ (bf_ r_ r_ r_ b_ (ah_ r_ w_ b_ (bg_ 0 r_ r_ r_ r_ (ah_ r_ w_ b_ (br_ r_ (fun hlen => ah_ r_ w_ b_ (bf_ r_ r_ r_ b_ ?_))))))))))))))))))))))))))
    refine ah_ r_ w_ b_ (bg_ 1 r_ r_ r_ r_ (ah_ r_ w_ b_ (br_ r_ (fun hlen => ah_ r_ w_ b_ (bx_ r_ r_ (o_ r_ (bv_ r_ w_ r_ (T_ (ap_ r_ w_ (as_ (al_ (R_ (E_ r_ (T_ (am_ (R_ (E_ r_ (T_ (au_ ?_)))))))))))))))))))
    refine jc_loopS (ι := Nat) [] (fun k => k ≤ m) (fun k => [(18, In .i64 ((k : Int) + 1)), (17, In .i64 (sumC J k)), (10, In .i64 (m : Int)), (15, Ptr bX), (16, Ptr bY)]) (fun _ => [.blk bX 46 [.list (xv.map Irow), .list (xa.map LRow), .list (xs.map LRow), .list (xc.map Irow), .val (.int .i64 xst)], .blk bY 46 [.list (xv.map Irow), .list (ya.map LRow), .list (ys.map LRow), .list (yc.map Irow), .val (.int .i64 xst)]]) (fun k => m - k) 0 (Nat.zero_le _) ?_ ?_ ?_
    · exact bc_ 1 r_ (bc_ 0 r_ sub_end)
    · (repeat (first | exact True.intro | refine ⟨rfl, ?_⟩))
    rintro k hk
    have hsb := sumC_bd hJ hbd k
    by_cases hltk : k < m
    · have hltk2 : (k : Int) + 1 ≤ (m : Int) := by omega
      have hnx := sumC_next hJ (k := k) (by omega)
      have hel := hbd (3 * ((k : Int) + 1) + 1).toNat
      rw [List.getD_eq_getElem?_getD, List.getElem?_eq_getElem (by omega), Option.getD_some] at hel
      refine am_ (R_ (M_ r_ (M_ r_ (o_ r_ (cu_ r_ r_ (T_ (aq_ r_ u_ (as_ (al_ (B_ (an_ (M_ r_ (F_ r_ (L_ 1 r_ (M_ r_ (o_ r_ (cz_ r_ r_ g_ ?_)))))))))))))))))
      refine o_ r_ (bj_ r_ r_ g_ (o_ r_ (cv_ r_ r_ g_ g_ r_ r_ b_ (o_ r_ (cb_ r_ r_ (o_ r_ (bj_ r_ r_ g_ (E_ r_ (ak_ (ay_ (al_ (an_ (M_ r_ (o_ r_ (bj_ r_ r_ g_ (E_ r_ (ak_ (jq_againS (i := k) (k + 1) g_ g_ ?_ ?_))))))))))))))))))
      · exact bc_ 0 r_ (bc_ 0 r_ sub_end)
      · rw [hnx, show (((k + 1 : Nat)) : Int) = (k : Int) + 1 by omega]
        (repeat (first | exact True.intro | refine ⟨rfl, ?_⟩))
    · have hltk2 : ¬ (k : Int) + 1 ≤ (m : Int) := by omega
      obtain rfl : k = m := by omega
      refine am_ (R_ (M_ r_ (M_ r_ (o_ r_ (cu_ r_ r_ (T_ (ap_ r_ w_ (av_ (ax_ (ax_ (ba_ (al_ (R_ (F_ r_ (L_ 0 r_ (F_ r_ ?_))))))))))))))))
      refine L_ 1 r_ (o_ r_ (bm_ r_ (hSI) (M_ r_ (ah_ r_ r_ b_ (bf_ r_ r_ r_ b_ (ah_ r_ r_ b_ (bg_ 0 r_ r_ r_ r_ (ah_ r_ r_ b_ (ow_indexAddrN 4 r_ r_ r_ h4 r_ b_ (ah_ r_ r_ b_ (cb_ r_ r_ (ah_ r_ r_ b_ (bd_ r_ (ah_ r_ r_ b_ (bn_ r_ r_ (o_ r_ (bp_ r_ r_ r_ (M_ r_ (ah_ r_ x_ b_ (bf_ r_ r_ r_ b_ (ah_ r_ x_ b_ (bg_ 0 r_ r_ r_ r_ (ah_ r_ x_ b_ (bf_ r_ r_ r_ b_ (ah_ r_ x_ b_ (bg_ 1 r_ r_ r_ r_ ?_))))))))))))))))))))))))))
      refine ah_ r_ x_ b_ (bn_ r_ r_ (o_ r_ (bp_ r_ x_ r_ (M_ r_ (ah_ r_ x_ b_ (bm_ r_ (hw) (o_ r_ (bp_ r_ x_ r_ (E_ r_ (T_ (ar_ (jq_ret1 rfl rfl [] rfl (fun K h => h)))))))))))))
end Go.Proofs.YtalkkcfojplmdaaGreatDoor
end

section
namespace Go.Vc
open Go.ChangeShapes Go.WideShapes Go.ChangeAt Go.RowKit Go.Joins Go.Deep

theorem strs_inj {H : Type} : ∀ {a b : List ByteArray}, (strs a : List (DataW H)) = strs b → a = b
  | [], [], _ => rfl
  | [], _ :: _, h => by simp [strs] at h
  | _ :: _, [], h => by simp [strs] at h
  | x :: a, y :: b, h => by
    simp only [strs, List.map_cons, List.cons.injEq, DataW.lit.injEq, Lit.string.injEq] at h
    have e : x = y := by
      cases x; cases y
      simp only at h
      congr 1
      exact Array.ext' h.1
    subst e
    rw [strs_inj (H := H) (a := a) (b := b) h.2]

section
variable {H : Type} {enc : TypeId × Value → H} {P : Program}
/-- A slice of strings that reads so. -/
theorem rd_strings {W : World} {t e : TypeId} (ht : P.underlying t = some (.slice e)) (he : P.underlying e = some .string) (hc : P.cellsOf e = 1) {cs : List Value} {L : List ByteArray} {ps : List MemPlace} {base : Nat} {sp : Nat → Bool} {held : Bool} {fuel : Nat} (h0 : 0 < L.length)
    (h : DataW.trod enc P W base sp held fuel t cs = some ((.slice (strs L) [] : DataW H), ps)) : ∃ v, cs = [v] ∧ Rd1 W (fun _ => False) (.list (L.map fun s => [.val (.string s)])) v := by
  rcases open_strings ht he hc h with ⟨_, hx⟩ | ⟨a, len, cap, ss, rfl, _, hle, hcap, hz, hx, hcell, _⟩
  · cases hx
  · simp only [Prod.mk.injEq, DataW.slice.injEq] at hx
    have hL : L = ss.take len := strs_inj hx.1.1
    have hlen : L.length = len := by
      rw [hL, List.length_take]
      have : len ≤ ss.length := by rw [hz]; split <;> omega
      omega
    refine ⟨_, rfl, some a, cap, by rw [List.length_map, hlen], by rw [List.length_map, hlen]; exact hle, hcap, ?_⟩
    have hss : len ≤ ss.length := by rw [hz]; split <;> omega
    have h1 := hcell 0 (by omega)
    have hsp : a.spot = none := by simpa [Addr.add] using World.cell?_spot h1
    obtain ⟨b, off, sp⟩ := a
    simp only at hsp
    subst hsp
    refine .inr ⟨b, off, L.map Value.string, 1, rfl, id, ?_, Nat.one_pos, ?_⟩
    · intro j u hj
      rw [List.getElem?_map, Option.map_eq_some_iff] at hj
      obtain ⟨z, hz1, rfl⟩ := hj
      have hjl : j < L.length := (List.getElem?_eq_some_iff.1 hz1).1
      have := hcell j (by omega)
      rw [add_at] at this
      rw [this]
      congr 2
      rw [List.getD_eq_getElem?_getD]
      rw [hL, List.getElem?_take] at hz1
      split at hz1
      · rw [hz1]; rfl
      · cases hz1
    · clear hL hlen h0 h hx
      induction L with
      | nil => rfl
      | cons s L ih => exact ⟨[.string s], _, rfl, rfl, ⟨.string s, [], rfl, ⟨rfl, rfl⟩, rfl⟩, ih⟩
/-- An array of strings that reads so. -/
theorem cells_of_strs {w : World} {base : Nat} {sp : Nat → Bool} {held : Bool} {fuel : Nat} {t e : TypeId} {n : Nat} {cs : List Value} {L : List ByteArray} {p : List MemPlace}
    (ht : P.underlying t = some (.array n e)) (he : P.underlying e = some .string) (hce : P.cellsOf e = 1) (hct : P.cellsOf t = n)
    (h : DataW.trod enc P w base sp held fuel t cs = some ((.agg (strs L) : DataW H), p)) : cs = L.map Value.string := by
  cases fuel with
  | zero => simp [DataW.trod] at h
  | succ fuel =>
    simp only [DataW.trod, ht, hce, hct, Nat.mul_one] at h
    split at h
    · rename_i hl
      obtain ⟨xs, hm, hx⟩ := Option.map_eq_some_iff.1 h
      have hxs : xs.map (·.1) = (strs L : List (DataW H)) := by
        have := congrArg Prod.fst hx
        simpa using this
      have hxl : xs.length = n := by simpa using Lib.mapM_length hm
      have hzl : L.length = n := by
        have := congrArg List.length hxs
        simp [strs] at this
        omega
      apply List.ext_getElem?
      intro i
      by_cases hi : i < n
      · obtain ⟨b, hb, hf⟩ := Lib.mapM_at hm i i (by simp [hi])
        obtain ⟨z, hc, rfl, _⟩ := DataW.trod_string he hf
        have h1 : cs[i]? = some (.string z) := by
          have := congrArg (·[0]?) hc
          simpa [List.getElem?_take, List.getElem?_drop] using this
        have h2 : (xs.map (·.1))[i]? = some (DataW.lit (.string z.data.toList) : DataW H) := by simp [hb]
        rw [hxs] at h2
        simp only [strs, List.getElem?_map, Option.map_eq_some_iff, DataW.lit.injEq, Lit.string.injEq] at h2
        obtain ⟨z', hz', e⟩ := h2
        have e2 : z' = z := by
          cases z; cases z'
          simp only at e
          congr 1
          exact Array.ext' e
        subst e2
        simp [h1, hz']
      · rw [List.getElem?_eq_none (by omega), List.getElem?_eq_none (by simp; omega)]
    · cases h
theorem gv_of_var {W : World} {name : String} {g : Nat} {cs : Array Value} {row : List C} (hg : P.globalNamed name = some g) (hvar : W.var? P name = some cs) (hr : RdRow W (fun _ => False) row cs.toList) : GV W (fun _ => False) g row := by
  unfold World.var? at hvar
  rw [hg] at hvar
  simp only [Option.bind_some] at hvar
  split at hvar
  · rename_i cs' t f hh
    cases hvar
    exact ⟨id, _, t, f, hh, hr⟩
  · cases hvar
end

theorem rdRow_strs {W : World} {A : Nat → Prop} : ∀ L : List ByteArray, RdRow W A (L.map (fun s => .val (.string s))) (L.map Value.string)
  | [] => rfl
  | s :: L => ⟨.string s, _, rfl, ⟨rfl, rfl⟩, rdRow_strs L⟩

section
variable {H : Type} {enc : TypeId × Value → H} {P : Program}
end
end Go.Vc
end

section
namespace Go.Vc
open Go.RowKit Go.ChangeShapes Go.WideShapes

section
variable {H : Type} {enc : TypeId × Value → H} {P : Program}

/-- Arguments read as they did. -/
theorem args_stay (hl : laidOutB P = true) {W W' : World} (hb : Below W.heap.size W W') : ∀ {ts : List TypeId} {vs : List Value} {ds : List (DataW H)} {ps : List MemPlace}, ts.all (fun t => P.readableRec t && decide (t < P.types.size)) = true →
    DataW.TrodAll enc P W 0 (fun _ => true) true ts vs ds ps → (∀ p ∈ ps, p.block < W.heap.size) → DataW.TrodAll enc P W' 0 (fun b => decide (b < W.heap.size)) true ts vs ds ps
  | [], vs, ds, ps, _, h, _ => by
    obtain ⟨rfl, rfl, rfl⟩ := trodAll_nil h
    rfl
  | t :: ts, vs, ds, ps, hr, h, hlt => by
    simp only [List.all_cons, Bool.and_eq_true, decide_eq_true_eq] at hr
    obtain ⟨⟨h1, h2⟩, h3⟩ := hr
    obtain ⟨v, vr, d, dr, p, q, rfl, rfl, rfl, g1, g2⟩ := trodAll_cons h
    exact ⟨p, q, Below.trod hl h1 h2 g1 hb (fun x hx => hlt x (List.mem_append.2 (.inl hx))), args_stay hl hb h3 g2 (fun x hx => hlt x (List.mem_append.2 (.inr hx))), rfl⟩

/-- What a law's row asks behind the call: true, and each argument reads as it did. -/
theorem law_post {f : Func} {s : ChangeSpec} {W W' : World} {args : Array Value} {ds : List (DataW H)} {before : List MemPlace} {bt : TypeId} (hv : s.vars = []) (hW : DataW.Whole enc P f.params.toList s.vars false W args.toList ds [] before)
    (hr : (s.fn H (ds ++ [])).results = [.lit (.bool true)]) (ha : (s.fn H (ds ++ [])).args = ds) (hg : (s.fn H (ds ++ [])).vars = []) (hrt : f.resultTypes = #[bt]) (hbt : P.underlying bt = some .bool)
    (hl : laidOutB P = true) (hrd : f.params.toList.all (fun t => P.readableRec t && decide (t < P.types.size)) = true) (hb : Below W.heap.size W W') : s.post enc P f false true false false W args (.bool true) W' := by
  have hlt := hW.lt
  have hW' := hW
  obtain ⟨p, q, hA, hV, rfl, _, _⟩ := hW'
  rw [hv] at hV
  obtain ⟨_, rfl⟩ := trodVars_none hV
  refine ⟨ds, [], p ++ [], [], p, [], hW, ?_, ?_, ?_, World.keptBut_mono (fun x hx => ⟨hx, .inr (.inl (by simpa using hx))⟩) (hb.frame (· ∈ p ++ [])), fun h => by cases h⟩
  · rw [hr, hrt]
    exact trodAll_mk1 (shut_bool hbt _)
  · rw [ha]
    exact args_stay hl hb hrd hA (fun x hx => hlt x (by simpa using hx))
  · rw [hg, hv]
    rfl

/-- A slice of integers that came in. -/
theorem rd_ints {W : World} {t e : TypeId} {k : IntKind} (ht : P.underlying t = some (.slice e)) (he : P.underlying e = some (.int k)) (hc : P.cellsOf e = 1) {v : Value} {d : DataW H} {ps : List MemPlace} (hs : ∃ a len cap, v = .slice a len cap)
    (h : DataW.Trod enc P W 0 (fun _ => true) true t v d ps) : ∃ L : List Int, Rd1 W (fun _ => False) (.list (L.map (fun n => [.val (.int k n)]))) v ∧ ∀ n ∈ L, (Lit.int k n).wf = true := by
  obtain ⟨a0, len0, cap0, rfl⟩ := hs
  obtain ⟨fuel, hf⟩ := h
  rcases open_ints ht he hc hf with ⟨hn, _⟩ | ⟨a, len, cap, zs, hcs, _, hle, hcap, hz, _, hcell, hwf⟩
  · simp only [Value.cells, List.cons.injEq, Value.slice.injEq, and_true] at hn
    obtain ⟨rfl, rfl, rfl⟩ := hn
    exact ⟨[], ⟨none, 0, rfl, Nat.le_refl _, Nat.zero_le _, .inl rfl⟩, by simp⟩
  · simp only [Value.cells, List.cons.injEq, Value.slice.injEq, and_true] at hcs
    obtain ⟨rfl, rfl, rfl⟩ := hcs
    simp only [if_true] at hz
    have hlen : (zs.take len0).length = len0 := by simp; omega
    refine ⟨zs.take len0, ⟨some a, cap0, by rw [List.length_map, hlen], by rw [List.length_map, hlen]; exact hle, hcap, ?_⟩, fun n hn => hwf n (List.mem_of_mem_take hn)⟩
    by_cases h0 : len0 = 0
    · exact .inl (by rw [List.length_map, hlen]; exact h0)
    · have h1 := hcell 0 (by omega)
      have hsp : a.spot = none := by simpa [Addr.add] using World.cell?_spot h1
      obtain ⟨b, off, sp⟩ := a
      simp only at hsp
      subst hsp
      refine .inr ⟨b, off, (zs.take len0).map (Value.int k), 1, rfl, id, ?_, Nat.one_pos, ?_⟩
      · intro j u hj
        rw [List.getElem?_map, Option.map_eq_some_iff] at hj
        obtain ⟨z, hz1, rfl⟩ := hj
        rw [List.getElem?_take] at hz1
        split at hz1
        · have hjl : j < zs.length := by omega
          have := hcell j hjl
          rw [add_at] at this
          rw [this]
          congr 2
          rw [List.getD_eq_getElem?_getD, hz1]
          rfl
        · cases hz1
      · generalize zs.take len0 = L
        induction L with
        | nil => rfl
        | cons n L ih => exact ⟨[.int k n], L.map (Value.int k), rfl, rfl, ⟨_, _, rfl, ⟨rfl, rfl⟩, rfl⟩, ih⟩

/-- From a contract to a run. -/
theorem con_run [Gl P] {f : FuncId} {ss : List S} {vs : List Value} {W : World} (con : Con P f ss [] (fun K => K (Bl true) [])) (hs : SOks W (fun _ => False) ss vs) (hgl : Gl.ok P W (fun _ => False) := by exact trivial) : Calls P f vs.toArray W (fun e W' => e = .returned (.bool true) ∧ Below W.heap.size W W') := by
  refine (con vs W (fun _ => False) (fun _ h => h.elim) (by simp [hb]) (by simp [hb]) hs (by simp) hgl).mono ?_
  rintro e W' ⟨v, s, Ho, rfl, hK, hv, _, _, _, hg⟩
  obtain ⟨rfl, rfl⟩ := hK (fun s' H' => s' = Bl true ∧ H' = []) ⟨rfl, rfl⟩
  obtain ⟨rfl, _⟩ := hv
  exact ⟨rfl, hg.os, hg.tape, hg.output, hg.size, fun k hk => hg.block k hk (by simp [hb])⟩
end
end Go.Vc
end

section
namespace Go.Proofs.YtalkkcfojplmdaaGreatDoor
open Go.ChangeShapes Go.WideShapes Go.ChangeAt Go.RowKit Go.Vc Go.Joins Go.Deep

theorem own : ownKnob Tryz.prog.godebug = none := by kernel_rfl
theorem laidOut : laidOutB Tryz.prog = true := by kernel_rfl
theorem cells5 : Tryz.prog.cellsOf 5 = 1 := by kernel_rfl
theorem cellsS : Tryz.prog.cellsOf 9 = 1 := by kernel_rfl
theorem gTab : Tryz.prog.globalNamed "internal/strconv.uint64pow10" = some 3 := by kernel_rfl
theorem gTabType : (Tryz.prog.globals[3]?).map (·.type) = some 239 := by kernel_rfl
theorem cellsTab : Tryz.prog.cellsOf 239 = 20 := by kernel_rfl
theorem cellsU64 : Tryz.prog.cellsOf 202 = 1 := by kernel_rfl
theorem tabData_eq : (Rows.laid_internal_strconv_uint64pow10 : DataW Unit) = Lib.tabData .u64 Lib.pow10Tab := by kernel_rfl
theorem wordsData_eq : (Rows.laid_timebound_tree_words : DataW Unit) = .slice (strs words) [] := by kernel_rfl
theorem signsData_eq : (Rows.laid_timebound_tree_signs : DataW Unit) = .agg (strs signL) := by kernel_rfl
theorem gWords : Tryz.prog.globalNamed "timebound/tree.words" = some 0 := by kernel_rfl
theorem gWordsType : (Tryz.prog.globals[0]?).map (·.type) = some 27 := by kernel_rfl
theorem gSigns : Tryz.prog.globalNamed "timebound/tree.signs" = some 1 := by kernel_rfl
theorem gSignsType : (Tryz.prog.globals[1]?).map (·.type) = some 230 := by kernel_rfl
theorem cellsSigns : Tryz.prog.cellsOf 230 = 14 := by kernel_rfl
theorem gl_of {W : World} (h : laidMetH Tryz.prog Rows.evalCountsRow.laid W) : Gl.ok Tryz.prog W (fun _ => False) := by
  have h1 : laidMet Tryz.prog Rows.evalCountsRow.laid W := h
  have h2 := laidMet.tail (laidMet.tail h1)
  have h3 := laidMet.tail h2
  have h4 := laidMet.tail h3
  rw [tabData_eq] at h2
  rw [wordsData_eq] at h3
  rw [signsData_eq] at h4
  refine ⟨⟨3, gTab, id, Lib.tabIs_of_head gTab gTabType Tryz.underlying239 Tryz.underlying202 cellsU64 cellsTab h2⟩, ?_, ?_⟩
  · obtain ⟨ps, ⟨g', t', cs, fuel, p, q, hg', ht', hvar, hd, _, _⟩, _⟩ := h3
    obtain rfl := Option.some.inj (gWords.symm.trans hg')
    obtain rfl := Option.some.inj (gWordsType.symm.trans ht')
    obtain ⟨v, hcs, hr⟩ := rd_strings Tryz.underlying27 Tryz.underlying9 cellsS (by decide) hd
    exact gv_of_var gWords hvar (by rw [hcs]; exact ⟨v, [], rfl, hr, rfl⟩)
  · obtain ⟨ps, ⟨g', t', cs, fuel, p, q, hg', ht', hvar, hd, _, _⟩, _⟩ := h4
    obtain rfl := Option.some.inj (gSigns.symm.trans hg')
    obtain rfl := Option.some.inj (gSignsType.symm.trans ht')
    have e := cells_of_strs Tryz.underlying230 Tryz.underlying9 cellsS cellsSigns hd
    exact gv_of_var gSigns hvar (by rw [e]; exact rdRow_strs signL)
/-- A world for the witness: as the program's start lays it. -/
noncomputable def laidWorld (os : Os) : World := World.doorLaid Tryz.prog 400 os
theorem laid_met (os : Os) (args : Array Value) : laidMet Tryz.prog Rows.evalCountsRow.laid ((laidWorld os).forCall (fun _ _ => 0) ⟨#[], args, []⟩).memory :=
  laidMet_of_run' 8 (by kernel_rfl) (by kernel_rfl)
end Go.Proofs.YtalkkcfojplmdaaGreatDoor
end

section
namespace Go.Proofs.YtalkkcfojplmdaaGreatDoor.evalLoops
open Go.ChangeShapes Go.WideShapes Go.ChangeAt Go.RowKit Go.Vc Go.Joins

set_option maxRecDepth 100000 in
theorem contract (H : Type) (enc : TypeId × Value → H) (W : World) (base : Nat) (args : Array Value) (ds gs : List (DataW H)) (before : List MemPlace)
    (hval : ∀ (j : Nat) t v, Tryz.f10.params[j]? = some t → args[j]? = some v → Value.okWide Tryz.prog W .any base t v)
    (hW : DataW.Whole enc Tryz.prog Tryz.f10.params.toList Rows.evalLoopsSpec.vars false W args.toList ds gs before) (hL : laidMetH Tryz.prog Rows.evalLoopsRow.laid W) :
    Calls Tryz.prog 10 args W fun e W' => ∃ v, e = .returned v ∧ Rows.evalLoopsSpec.post enc Tryz.prog Tryz.f10 false true false false W args v W' := by
  have hW' := hW
  obtain ⟨p, q, hA0, hV, rfl, hfz, hnd⟩ := hW
  have hA : DataW.TrodAll enc Tryz.prog W 0 (fun _ => true) true Tryz.f10.params.toList args.toList ds p := hA0
  rw [Tryz.params10] at hA hval
  obtain ⟨v0, vs0, d0, ds0, p0, q0, hargs, rfl, rfl, h0, r0⟩ := trodAll_cons hA
  obtain ⟨v1, vs1, d1, ds1, p1, q1, rfl, rfl, rfl, h1, r1⟩ := trodAll_cons r0
  obtain ⟨v2, vs2, d2, ds2, p2, q2, rfl, rfl, rfl, h2, r2⟩ := trodAll_cons r1
  obtain ⟨v3, vs3, d3, ds3, p3, q3, rfl, rfl, rfl, h3, r3⟩ := trodAll_cons r2
  obtain ⟨rfl, rfl, rfl⟩ := trodAll_nil r3
  obtain rfl : args = #[v0, v1, v2, v3] := by cases args; simp_all
  obtain ⟨rfl, rfl⟩ := trodVars_none hV
  obtain ⟨L0, hL0, hwf0⟩ := rd_ints Tryz.underlying73 Tryz.underlying5 cells5 (okWide_slice Tryz.underlying73 (hval 0 73 v0 rfl rfl)) h0
  have hn0 : ∀ n ∈ L0, 0 ≤ n ∧ n ≤ 255 := fun n hn => by simpa [Lit.wf, IntKind.min, IntKind.max, IntKind.signed, IntKind.bits] using hwf0 n hn
  obtain ⟨L1, hL1, hwf1⟩ := rd_ints Tryz.underlying73 Tryz.underlying5 cells5 (okWide_slice Tryz.underlying73 (hval 1 73 v1 rfl rfl)) h1
  have hn1 : ∀ n ∈ L1, 0 ≤ n ∧ n ≤ 255 := fun n hn => by simpa [Lit.wf, IntKind.min, IntKind.max, IntKind.signed, IntKind.bits] using hwf1 n hn
  obtain ⟨n2, rfl, rfl, rfl, w2⟩ := open_int Tryz.underlying5 (hval 2 5 v2 rfl rfl) h2
  have hn2 : 0 ≤ n2 ∧ n2 ≤ 255 := by simpa [Lit.wf, IntKind.min, IntKind.max, IntKind.signed, IntKind.bits] using w2
  obtain ⟨n3, rfl, rfl, rfl, w3⟩ := open_int Tryz.underlying5 (hval 3 5 v3 rfl rfl) h3
  have hn3 : 0 ≤ n3 ∧ n3 ≤ 255 := by simpa [Lit.wf, IntKind.min, IntKind.max, IntKind.signed, IntKind.bits] using w3
  refine (con_run (vs := [v0, v1, .int .u8 n2, .int .u8 n3]) (EvalLoops_c L0 L1 hn0 hn1 n2 n3 hn2 hn3) ⟨_, _, rfl, hL0, _, _, rfl, hL1, _, _, rfl, ⟨rfl, rfl⟩, _, _, rfl, ⟨rfl, rfl⟩, rfl⟩ (gl_of hL)).mono ?_
  rintro e W' ⟨rfl, hb⟩
  exact ⟨_, rfl, law_post rfl hW' rfl rfl rfl rfl Tryz.underlying4 laidOut (by kernel_rfl) hb⟩

theorem reads (os : Os) {H : Type} (enc : TypeId × Value → H) : ∃ places, DataW.whole enc Tryz.prog ((laidWorld os).forCall (fun _ _ => 0) ⟨#[], #[.slice none 0 0, .slice none 0 0, .int .u8 0, .int .u8 0], []⟩).memory Tryz.f10.params.toList Rows.evalLoopsSpec.vars false #[Value.slice none 0 0, .slice none 0 0, .int .u8 0, .int .u8 0].toList 8 = some ([.nil, .nil, .lit (.int .u8 0), .lit (.int .u8 0)], [], places) :=
  ⟨[], by kernel_rfl⟩

set_option maxRecDepth 100000 in
theorem lifted (os : Os) (started : os.Started) (H : Type) (enc : TypeId × Value → H) (F : Stop.Interp) :
    ReturnsInHanded {} Tryz.checked os 10 .any ((OpenSpec.ofChange Rows.evalLoopsSpec).preRow enc Tryz.prog Tryz.f10 Rows.evalLoopsRow.domain false Rows.evalLoopsRow.laid) (((OpenSpec.ofChange Rows.evalLoopsSpec).at F).post enc Tryz.prog Tryz.f10 false true false false) := by
  obtain ⟨places, hx⟩ := reads os enc
  refine returnsInHanded_of_row (C := Tryz.checked) (s := OpenSpec.ofChange Rows.evalLoopsSpec) own started (by kernel_rfl) Tryz.func10
    (witness_row_atRef (enc := enc) (C := Tryz.checked) false (laidWorld os) _ rfl (by kernel_rfl) (by kernel_rfl) (by kernel_rfl)
      (OpenSpec.preRow_of_cond 8 hx (by kernel_rfl) (fun k hk => by cases hk) (by kernel_rfl) (laid_met os _))) ?_
  intro W base args ds gs before hval hW _ _ _ hL _ _
  exact contract H enc W base args ds gs before hval hW hL

theorem said : Rows.EvalLoopsSaid :=
  OpenClaim.holds_of_cond 10 Tryz.f10 rfl rfl rfl rfl rfl rfl rfl ⟨rfl, rfl, rfl, rfl, rfl⟩ rfl rfl rfl rfl rfl (by kernel_rfl) Tryz.func10 (by kernel_rfl)
    (of_decide_eq_true (by kernel_rfl)) (by unfold Func.isWrapper; first | (rw [if_pos (by decide +kernel)]; kernel_rfl) | (rw [if_neg (by decide +kernel)]; exact ⟨rfl, rfl⟩))
    (fun os started H enc _ F => by rw [OpenClaim.pre_eq_preRow]; exact lifted os started H enc F)

theorem plain (f : FuncId) (fn : Func) (hf : Tryz.pinned.checked.prog.funcNamed "timebound/timeboundlaw06.EvalLoops" = some f) (hfn : Tryz.pinned.checked.prog.funcs[f]? = some fn) :
    false = Tryz.pinned.checked.prog.looks [] ∧ ∀ (j : Nat) t, fn.params[j]? = some t → Tryz.pinned.checked.prog.wantsStandIn t = false := by
  obtain rfl : f = 10 := Option.some.inj ((show Tryz.prog.funcNamed "timebound/timeboundlaw06.EvalLoops" = some 10 by kernel_rfl).symm.trans hf) |>.symm
  obtain rfl : fn = Tryz.f10 := (Option.some.inj (Tryz.func10.symm.trans hfn)).symm
  refine ⟨by kernel_rfl, fun j t ht => ?_⟩
  have hall : (Tryz.f10.params.toList.all fun u => !Tryz.prog.wantsStandIn u) = true := by kernel_rfl
  have hm : t ∈ Tryz.f10.params.toList := by simpa using Array.mem_of_getElem? ht
  exact (show Tryz.prog.wantsStandIn t = false by simpa using List.all_eq_true.1 hall t hm)

theorem card : Rows.EvalLoopsCardSaid :=
  Claim7.holds_tied_plain_at .later [] _ _ _ _ said (fun _ h => by cases h) (by kernel_rfl) (fun _ h => by cases h) evalLoops_row_tie rfl ⟨rfl, rfl⟩ (by kernel_rfl) rfl plain (by kernel_rfl)
end Go.Proofs.YtalkkcfojplmdaaGreatDoor.evalLoops
end
