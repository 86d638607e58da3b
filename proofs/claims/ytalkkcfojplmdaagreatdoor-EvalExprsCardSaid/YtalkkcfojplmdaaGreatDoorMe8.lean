import Derived.Test.YtalkkcfojplmdaaGreatDoorMe7
import Derived.ProofKit
import Derived.OpenShut
import Derived.Carry
import Derived.SizedLaws
import Derived.Test.YtalkkcfojplmdaaGreatDoorCards
import Derived.Test.YtalkkcfojplmdaaGreatDoorTie
import Derived.SliceStrings
import Derived.WalkKit
import Derived.LaidMore
import Derived.Stop.Joined
import Derived.Stop.LaidErr
import Derived.Deep.DeepHandedRow
import Derived.Lib.LaidTab
import Derived.Lib.SmallJoins
import Derived.Deep.DeepWitnessRowRef
section
namespace Go.Proofs.YtalkkcfojplmdaaGreatDoor
open Go.Vc
attribute [local irreducible] JL JC JQ OpWp Con ConN HOk
attribute [local irreducible] evJ evF Jb.arr
set_option maxHeartbeats 4000000

theorem eRun_c (p : Pg) (hp : PgOk p) (hr : ckF p = 0 → ∀ t ∈ p.tasks, Rn p t) (task : Int) (ins : List Int) (ss : List (List Int)) :
    Con Tryz.prog 31 [.row p.row, In .i64 task, .cell (.list (ins.map Irow)), .cell (.list (ss.map LRow))] [] (fun K => K (.tup [.row (OutRow (runF p task ins ss).1), In .i64 (runF p task ins ss).2]) []) := by
  have hC := cProgram5_c p hp
  refine con_intro Tryz.func31 rfl rfl (Nat.le_of_ble_eq_true rfl) (fun c hc => ?_)
  by_cases hne : ckF p ≠ 0
  · have hres : runF p task ins ss = (outZ, ckF p) := by unfold runF; rw [if_pos hne]
    refine R_ (o_ r_ (ci_ r_ (fun bx => o_ r_ (bl_ r_ r_ (fun bl => E_ r_ (T_ (am_ (R_ (A_ 1 r_ (o_ r_ (bm_ r_ (hC) (E_ r_ (T_ (R_ (M_ r_ (o_ r_ (bx_ r_ r_ (T_ (aq_ r_ u_ ?_)))))))))))))))))))
    refine R_ (o_ r_ (bu_ r_ r_ r_ r_ r_ (M_ r_ (S_ 0 r_ (E_ r_ (T_ (ar_ (aw_ (jq_row 0 (OutRow outZ) rfl ?_ ?_)))))))))
    · (repeat (first | exact RowLe.nil | refine RowLe.cons (CLe.refl _) ?_ | refine RowLe.cons CLe.nil ?_))
    · exact jq_retRowT rfl rfl rfl rfl rfl 0 rfl (fun K h => by rw [hres] at h; exact h) sub_end
  have h0 : ckF p = 0 := Classical.not_not.1 hne
  have eT : (p.tasks.map Tk.row).length = p.tasks.length := List.length_map _
  by_cases ht : ¬ (0 ≤ task ∧ task < (p.tasks.length : Int))
  · have hres : runF p task ins ss = (outZ, 8) := by unfold runF; rw [if_neg hne, if_neg ht]
    by_cases ht0 : task < 0
    · refine R_ (o_ r_ (ci_ r_ (fun bx => o_ r_ (bl_ r_ r_ (fun bl => E_ r_ (T_ (am_ (R_ (A_ 1 r_ (o_ r_ (bm_ r_ (hC) (E_ r_ (T_ (R_ (M_ r_ (o_ r_ (bx_ r_ r_ (T_ (ap_ r_ w_ ?_)))))))))))))))))))
      refine as_ (al_ (am_ (R_ (M_ r_ (o_ r_ (bw_ r_ r_ (M_ r_ (ai_ r_ u_ b_ (ai_ r_ u_ b_ (ai_ r_ u_ b_ (ai_ r_ u_ b_ (ai_ r_ u_ b_ (o_ r_ (bp_ r_ u_ r_ (T_ (aq_ r_ r_ (R_ ?_)))))))))))))))))
      refine o_ r_ (bu_ r_ r_ r_ r_ r_ (S_ 0 r_ (E_ r_ (T_ (ar_ (aw_ (jq_row 0 (OutRow outZ) rfl ?_ ?_)))))))
      · (repeat (first | exact RowLe.nil | refine RowLe.cons (CLe.refl _) ?_ | refine RowLe.cons CLe.nil ?_))
      · exact jq_retRowT rfl rfl rfl rfl rfl 0 rfl (fun K h => by rw [hres] at h; exact h) sub_end
    · have ht1 : task ≥ ((p.tasks.map Tk.row).length : Int) := by omega
      refine R_ (o_ r_ (ci_ r_ (fun bx => o_ r_ (bl_ r_ r_ (fun bl => E_ r_ (T_ (am_ (R_ (A_ 1 r_ (o_ r_ (bm_ r_ (hC) (E_ r_ (T_ (R_ (M_ r_ (o_ r_ (bx_ r_ r_ (T_ (ap_ r_ w_ ?_)))))))))))))))))))
      refine as_ (al_ (am_ (R_ (M_ r_ (o_ r_ (bw_ r_ r_ (M_ r_ (ah_ r_ w_ b_ (bd_ r_ (ah_ r_ w_ b_ (bf_ r_ r_ r_ b_ (ah_ r_ w_ b_ (bg_ 1 r_ r_ r_ r_ (ah_ r_ w_ b_ (br_ r_ (fun hlen => ah_ r_ w_ b_ (cn_ r_ r_ (o_ r_ (bv_ r_ w_ r_ (T_ (aq_ r_ u_ (R_ ?_))))))))))))))))))))))
      refine o_ r_ (bu_ r_ r_ r_ r_ r_ (S_ 0 r_ (E_ r_ (T_ (ar_ (aw_ (jq_row 0 (OutRow outZ) rfl ?_ ?_)))))))
      · (repeat (first | exact RowLe.nil | refine RowLe.cons (CLe.refl _) ?_ | refine RowLe.cons CLe.nil ?_))
      · exact jq_retRowT rfl rfl rfl rfl rfl 0 rfl (fun K h => by rw [hres] at h; exact h) sub_end
  have ht := Classical.not_not.1 ht
  obtain ⟨n, rfl⟩ : ∃ n : Nat, task = (n : Int) := ⟨task.toNat, by omega⟩
  have hn : n < p.tasks.length := by omega
  have hn1 : ¬ (n : Int) < 0 := by omega
  have hn2 : ¬ (n : Int) ≥ ((p.tasks.map Tk.row).length : Int) := by omega
  have hRn := hr h0 p.tasks[n] (List.getElem_mem hn)
  have htz := hp.sz.tasks p.tasks[n] (List.getElem_mem hn)
  have hF : runF p (n : Int) ins ss = if fitB (p.tasks[n]).inputs ins = false then (outZ, 9) else if filB p.shared ss = false then (outZ, 10) else (runO p p.tasks[n] ins ss, 0) := by
    unfold runF
    rw [if_neg hne, if_pos ht, show ((n : Int)).toNat = n by omega, List.getD_eq_getElem?_getD, List.getElem?_eq_getElem hn]
    rfl
  have hI := pfits_c (p.tasks[n]).inputs ins
  have hS := pfilled_c p.shared ss
  cases hf : fitB (p.tasks[n]).inputs ins with
  | false =>
    rw [hf] at hI
    have hres : runF p (n : Int) ins ss = (outZ, 9) := by rw [hF, if_pos hf]
    refine R_ (o_ r_ (ci_ r_ (fun bx => o_ r_ (bl_ r_ r_ (fun bl => E_ r_ (T_ (am_ (R_ (A_ 1 r_ (o_ r_ (bm_ r_ (hC) (E_ r_ (T_ (R_ (M_ r_ (o_ r_ (bx_ r_ r_ (T_ (ap_ r_ w_ ?_)))))))))))))))))))
    refine as_ (al_ (am_ (R_ (M_ r_ (o_ r_ (bw_ r_ r_ (M_ r_ (ah_ r_ w_ b_ (bd_ r_ (ah_ r_ w_ b_ (bf_ r_ r_ r_ b_ (ah_ r_ w_ b_ (bg_ 1 r_ r_ r_ r_ (ah_ r_ w_ b_ (br_ r_ (fun hlen => ah_ r_ w_ b_ (cn_ r_ r_ (o_ r_ (bv_ r_ r_ r_ (T_ (ap_ r_ w_ (as_ ?_))))))))))))))))))))))
    refine al_ (R_ (F_ r_ (L_ 1 r_ (M_ r_ (o_ r_ (cc_ r_ r_ g_ r_ r_ b_ (o_ r_ (cr_ r_ r_ r_ (o_ r_ (bl_ r_ r_ (fun bl => S_ 0 r_ (T_ (B_ (R_ (F_ r_ (L_ 0 r_ (M_ r_ (o_ r_ (bm_ r_ (hI) ?_)))))))))))))))))))
    refine o_ r_ (cd_ r_ (E_ r_ (T_ (aq_ r_ r_ (R_ (o_ r_ (bu_ r_ r_ r_ r_ r_ (S_ 1 r_ (E_ r_ (T_ (ar_ (az_ (aw_ (jq_row 0 (OutRow outZ) rfl ?_ ?_))))))))))))))
    · (repeat (first | exact RowLe.nil | refine RowLe.cons (CLe.refl _) ?_ | refine RowLe.cons CLe.nil ?_))
    · exact jq_retRowT rfl rfl rfl rfl rfl 0 rfl (fun K h => by rw [hres] at h; exact h) sub_end
  | true =>
    rw [hf] at hI
    cases hfl : filB p.shared ss with
    | false =>
      rw [hfl] at hS
      have hres : runF p (n : Int) ins ss = (outZ, 10) := by rw [hF, if_neg (by rw [hf]; decide), if_pos hfl]
      refine R_ (o_ r_ (ci_ r_ (fun bx => o_ r_ (bl_ r_ r_ (fun bl => E_ r_ (T_ (am_ (R_ (A_ 1 r_ (o_ r_ (bm_ r_ (hC) (E_ r_ (T_ (R_ (M_ r_ (o_ r_ (bx_ r_ r_ (T_ (ap_ r_ w_ ?_)))))))))))))))))))
      refine as_ (al_ (am_ (R_ (M_ r_ (o_ r_ (bw_ r_ r_ (M_ r_ (ah_ r_ w_ b_ (bd_ r_ (ah_ r_ w_ b_ (bf_ r_ r_ r_ b_ (ah_ r_ w_ b_ (bg_ 1 r_ r_ r_ r_ (ah_ r_ w_ b_ (br_ r_ (fun hlen => ah_ r_ w_ b_ (cn_ r_ r_ (o_ r_ (bv_ r_ r_ r_ (T_ (ap_ r_ w_ (as_ ?_))))))))))))))))))))))
      refine al_ (R_ (F_ r_ (L_ 1 r_ (M_ r_ (o_ r_ (cc_ r_ r_ g_ r_ r_ b_ (o_ r_ (cr_ r_ r_ r_ (o_ r_ (bl_ r_ r_ (fun bl => S_ 0 r_ (T_ (B_ (R_ (F_ r_ (L_ 0 r_ (M_ r_ (o_ r_ (bm_ r_ (hI) ?_)))))))))))))))))))
      refine o_ r_ (cd_ r_ (E_ r_ (T_ (ap_ r_ r_ (R_ (F_ r_ (L_ 2 r_ (M_ r_ (o_ r_ (bm_ r_ (hS) (o_ r_ (cd_ r_ (E_ r_ (T_ (aq_ r_ r_ (R_ (o_ r_ (bu_ r_ r_ r_ r_ r_ (S_ 1 r_ ?_)))))))))))))))))))
      refine E_ r_ (T_ (ar_ (az_ (aw_ (jq_row 0 (OutRow outZ) rfl ?_ ?_)))))
      · (repeat (first | exact RowLe.nil | refine RowLe.cons (CLe.refl _) ?_ | refine RowLe.cons CLe.nil ?_))
      · exact jq_retRowT rfl rfl rfl rfl rfl 0 rfl (fun K h => by rw [hres] at h; exact h) sub_end
    | true =>
      rw [hfl] at hS
      have hres : runF p (n : Int) ins ss = (runO p p.tasks[n] ins ss, 0) := by rw [hF, if_neg (by rw [hf]; decide), if_neg (by rw [hfl]; decide)]
      clear hF
      refine R_ (o_ r_ (ci_ r_ (fun bx => o_ r_ (bl_ r_ r_ (fun bl => E_ r_ (T_ (am_ (R_ (A_ 1 r_ (o_ r_ (bm_ r_ (hC) (E_ r_ (T_ (R_ (M_ r_ (o_ r_ (bx_ r_ r_ (T_ (ap_ r_ w_ ?_)))))))))))))))))))
      refine as_ (al_ (am_ (R_ (M_ r_ (o_ r_ (bw_ r_ r_ (M_ r_ (ah_ r_ w_ b_ (bd_ r_ (ah_ r_ w_ b_ (bf_ r_ r_ r_ b_ (ah_ r_ w_ b_ (bg_ 1 r_ r_ r_ r_ (ah_ r_ w_ b_ (br_ r_ (fun hlen => ah_ r_ w_ b_ (cn_ r_ r_ (o_ r_ (bv_ r_ r_ r_ (T_ (ap_ r_ w_ (as_ ?_))))))))))))))))))))))
      refine al_ (R_ (F_ r_ (L_ 1 r_ (M_ r_ (o_ r_ (cc_ r_ r_ g_ r_ r_ b_ (o_ r_ (cr_ r_ r_ r_ (o_ r_ (bl_ r_ r_ (fun bl => S_ 0 r_ (T_ (B_ (am_ ?_))))))))))))))
      generalize p.tasks[n] = t at *
      refine an_ (F_ r_ (L_ 0 r_ (M_ r_ (o_ r_ (bm_ r_ (hI) (o_ r_ (cd_ r_ (E_ r_ (T_ (ap_ r_ r_ (R_ (F_ r_ (L_ 2 r_ (M_ r_ (o_ r_ (bm_ r_ (hS) (o_ r_ (cd_ r_ (E_ r_ ?_)))))))))))))))))))
      refine T_ (ap_ r_ r_ (as_ (ay_ (al_ (am_ ?_)))))
      rename_i ht2 bo
      generalize bx = bp at *
      refine an_ (o_ r_ (ow_makeMapE ByteArray Int (Value.int .i64) (fun bv hbv => o_ r_ (ow_makeMapE ByteArray Int (Value.int .i64) (fun bv hbv => A_ 2 r_ (o_ r_ (bm_ r_ (pPoints_c _) (o_ r_ (ow_makeSliceI 39 rfl rfl rfl rfl rfl rfl g_ (fun vc hvc fvc => o_ r_ (bu_ r_ r_ r_ r_ r_ (o_ r_ (ci_ r_ (fun bx => E_ r_ (T_ (R_ (E_ r_ (T_ (am_ (R_ (F_ r_ ?_)))))))))))))))))))))
      refine L_ 4 r_ (o_ r_ (br_ r_ (fun hlen => M_ r_ (T_ ?_))))
      rename_i bV hbV
      generalize bl = bt at *
      generalize bx = bj at *
      have zi := htz.inputs
      have zv := htz.vars
      have hA1 := hRn.a1
      have hS1 := hRn.s1
      refine au_ (jc_ownNil 9 1 g_ ?_)
      have hfl2 : t.inputs.length = ins.length := by
        unfold fitB at hf
        simp only [Bool.and_eq_true, decide_eq_true_eq] at hf
        exact hf.1
      refine jc_loopS (ι := Nat × Value × List ByteArray) [] (fun i => i.1 ≤ (t.inputs).length ∧ i.2.2 = (t.inputs.take i.1).map (·.1)) (fun i => (72, In .i64 (i.1 : Int)) :: (13, .cell (.val i.2.1)) :: [(70, .cell (.list (t.inputs.map InRow))), (71, In .i64 ((t.inputs.map InRow).length : Int)), (2, .cell (.list (ins.map Irow))), (11, .cell (.val (.pointer (some ⟨bt, 0, none⟩)))), (4, .cell (.val (.pointer (some ⟨bp, 0, none⟩)))), (12, .cell (.val (.pointer (some ⟨bj, 0, none⟩)))), (3, .cell (.list (ss.map LRow))), (8, .cell (.val (.pointer (some ⟨bo, 0, none⟩))))]) (fun i => (.own i.2.1 9 1 (i.2.2.map Wrow)) :: [.mapc bV (mapE (Value.int .i64) (fillF [] (((t.inputs.map (·.1)).zip ins).take i.1))), .mapc bv (mapE (fun v : Value => v) ([] : List (ByteArray × Value))), .blk bj 115 [.val (.map (some bV)), .val (.map (some bv)), .val vc, .val (.int .i64 0)], .own vc 3 1 ((List.replicate 39 (0 : Int)).map Irow), .blk bt 39 t.row, .blk bp 31 p.row, .blk bo 46 [.val (.slice none 0 0), .val (.slice none 0 0), .val (.slice none 0 0), .val (.slice none 0 0), .val (.int .i64 0)]]) (fun i => (t.inputs).length - i.1) (0, .slice none 0 0, []) ⟨Nat.zero_le _, rfl⟩ ?_ ?_ ?_
      · exact bc_ 0 r_ (bc_ 3 r_ (bc_ 2 r_ (bc_ 0 r_ (bc_ 0 r_ (bc_ 0 r_ (bc_ 1 r_ (bc_ 0 r_ sub_end)))))))
      · (repeat (first | exact True.intro | refine ⟨rfl, ?_⟩))
      rintro ⟨k, v, B⟩ hz
      dsimp only at hz ⊢
      obtain ⟨hk, hB⟩ := hz
      have eLk : ((t.inputs).map InRow).length = (t.inputs).length := List.length_map _
      by_cases hltk : k < (t.inputs).length
      · have hltk2 : (k : Int) < (((t.inputs).map InRow).length : Int) := by omega
        have hBl := congrArg List.length hB
        simp only [List.length_map, List.length_take] at hBl
        have hkv : k < ins.length := by omega
        have hkv2 : (k : Int) < ((ins.map Irow).length : Int) := by rw [List.length_map]; omega
        have hkz : k < ((t.inputs.map (·.1)).zip ins).length := by rw [List.length_zip, List.length_map]; omega
        have hgz : ((t.inputs.map (·.1)).zip ins)[k] = ((t.inputs[k]).1, ins[k]) := by rw [List.getElem_zip, List.getElem_map]
        refine R_ (o_ r_ (bw_ r_ r_ (T_ (am_ (aq_ r_ u_ (as_ (al_ (B_ (R_ (M_ r_ (o_ r_ (cc_ r_ r_ g_ r_ r_ b_ (o_ r_ (cr_ r_ r_ r_ (o_ r_ (bl_ r_ r_ (fun bl => E_ r_ (S_ 0 r_ (T_ ?_)))))))))))))))))))
        refine R_ (M_ r_ (F_ r_ (L_ 0 r_ (o_ r_ (bq_ r_ r_ b_ r_ r_ b_ (o_ r_ (ow_append1 1 ((t.inputs[k]).1) rfl rfl rfl rfl rfl rfl rfl (fun _ => rfl) (by show (_ + _) * 16 ≤ _; first | omega | (simp only [List.length_append]; omega)) (by first | omega | (simp only [List.length_append]; omega)) (fun v1 hv1 => E_ r_ (T_ (jc_anyB 10 none rfl k_ k_ (yM_ r_ (yN_ r_ (yF_ r_ (yL_ 4 r_ (yF_ r_ (yL_ 1 r_ (yM_ r_ ?_)))))))))))))))))
        refine yM_ r_ (aa_ (fun c => cc_ r_ r_ g_ r_ r_ b_ p_) (aa_ (fun c => cb_ r_ r_ p_) (ae_ (afin_none (ag_ (ow_mapPut (κ := ByteArray) (vv := Value.int .i64) (M := fillF [] (((t.inputs.map (·.1)).zip ins).take k)) 2 r_ r_ r_ r_ r_ (ak_ (ay_ (al_ (an_ (o_ r_ (bj_ r_ r_ g_ (M_ r_ (ak_ ?_))))))))))))))
        refine jq_againS (i := (k, v, B)) (k + 1, v1, B ++ [(t.inputs[k]).1]) ⟨hltk, by dsimp only; rw [hB, List.take_succ_eq_append_getElem hltk, List.map_append]; rfl⟩ (by dsimp only; omega) ?_ ?_
        · rw [List.take_succ_eq_append_getElem hkz, hgz, fill_snoc]
          exact bc_ 1 r_ (bc_ 0 r_ (bc_ 1 r_ (bc_ 1 r_ (bc_ 1 r_ (bc_ 1 r_ (bc_ 1 r_ (bc_ 1 r_ sub_end)))))))
        · (repeat (first | exact True.intro | refine ⟨rfl, ?_⟩))
      · have hltk2 : ¬ (k : Int) < (((t.inputs).map InRow).length : Int) := by omega
        rw [List.take_of_length_le (by omega)] at hB
        have hzl : ((t.inputs.map (·.1)).zip ins).length ≤ k := by rw [List.length_zip, List.length_map]; omega
        rw [List.take_of_length_le hzl]
        subst hB
        have eVl : (t.vars.map Wrow).length = t.vars.length := List.length_map _
        have eBl : (t.inputs.map (·.1)).length = t.inputs.length := List.length_map _
        refine R_ (o_ r_ (bw_ r_ r_ (T_ (am_ (ap_ r_ w_ (av_ (ax_ (ax_ (ba_ (al_ (R_ (M_ r_ (F_ r_ (L_ 5 r_ (o_ r_ (ow_appendM 0 rfl rfl rfl rfl rfl rfl rfl (fun _ => rfl) (by show (_ + _) * 16 ≤ _; first | omega | (simp only [List.length_append]; omega)) (by first | omega | (simp only [List.length_append]; omega)) (fun v1 hv1 => E_ r_ ?_)))))))))))))))))
        refine T_ (am_ (am_ (jc_freeze 13 0 rfl rfl (by rw [hc]; simp [hb]) ?_)))
        clear hltk hltk2 hk eVl eBl hzl
        refine jc_ownNil 3 1 g_ (jc_ownNil 3 1 g_ (an_ (F_ r_ (L_ 6 r_ (o_ r_ (br_ r_ (fun hlen => M_ r_ (T_ (au_ ?_)))))))))
        refine jc_loopS (ι := Nat × Value) [] (fun i => i.1 ≤ (t.arrays).length ∧ i.2.oneCell' = true) (fun i => (100, In .i64 (i.1 : Int)) :: [(98, .cell (.list (t.arrays.map ArRow))), (99, In .i64 ((t.arrays.map ArRow).length : Int)), (13, .cell (.list ((t.inputs.map (·.1) ++ t.vars).map Wrow))), (11, .cell (.val (.pointer (some ⟨bt, 0, none⟩)))), (4, .cell (.val (.pointer (some ⟨bp, 0, none⟩)))), (12, .cell (.val (.pointer (some ⟨bj, 0, none⟩)))), (3, .cell (.list (ss.map LRow))), (8, .cell (.val (.pointer (some ⟨bo, 0, none⟩))))]) (fun i => (.own i.2 3 1 ((kIf i.1 (List.replicate (t.arrays.headD (⟨#[]⟩, 0)).2.toNat (0 : Int))).map Irow)) :: [.own (.slice none 0 0) 3 1 (([] : List Int).map Irow), .mapc bV (mapE (Value.int .i64) (fillF [] ((t.inputs.map (·.1)).zip ins))), .mapc bv (mapE (fun v : Value => v) (fillF [] ((t.arrays.take i.1).map (fun x => (x.1, i.2))))), .blk bj 115 [.val (.map (some bV)), .val (.map (some bv)), .val vc, .val (.int .i64 0)], .own vc 3 1 ((List.replicate 39 (0 : Int)).map Irow), .blk bt 39 t.row, .blk bp 31 p.row, .blk bo 46 [.val (.slice none 0 0), .val (.slice none 0 0), .val (.slice none 0 0), .val (.slice none 0 0), .val (.int .i64 0)]]) (fun i => (t.arrays).length - i.1) (0, .slice none 0 0) ⟨Nat.zero_le _, rfl⟩ ?_ ?_ ?_
        · exact bc_ 0 r_ (bc_ 0 r_ (bc_ 0 r_ (bc_ 0 r_ (bc_ 0 r_ (bc_ 0 r_ (bc_ 0 r_ (bc_ 0 r_ (bc_ 0 r_ sub_end))))))))
        · (repeat (first | exact True.intro | refine ⟨rfl, ?_⟩))
        rintro ⟨k, v⟩ hz
        dsimp only at hz ⊢
        obtain ⟨hk, hva⟩ := hz
        have eLk : ((t.arrays).map ArRow).length = (t.arrays).length := List.length_map _
        by_cases hltk : k < (t.arrays).length
        · have hltk2 : (k : Int) < (((t.arrays).map ArRow).length : Int) := by omega
          obtain rfl : k = 0 := by omega
          have hsz : (t.arrays[0]).2 = (((t.arrays.headD (⟨#[]⟩, 0)).2.toNat : Nat) : Int) ∧ (t.arrays.headD (⟨#[]⟩, 0)).2.toNat ≤ 16 := by
            have h1 := hRn.asz t.arrays[0] (List.getElem_mem hltk)
            rw [hd_get hltk]
            omega
          obtain ⟨hsz, hszl⟩ := hsz
          have hone : ∀ v : Value, fillF [] ((t.arrays.take 1).map (fun x => (x.1, v))) = aset [] (t.arrays[0]).1 v := by intro v; rw [one_take hltk]; rfl
          refine R_ (o_ r_ (bw_ r_ r_ (T_ (am_ (aq_ r_ u_ (as_ (al_ (B_ (R_ (o_ r_ (cc_ r_ r_ g_ r_ r_ b_ (o_ r_ (cr_ r_ r_ r_ (o_ r_ (bl_ r_ r_ (fun bl => S_ 0 r_ (T_ (jc_hpV2 9 (n := 10) rfl 0 4 [.string (t.arrays[0]).1, .int .i64 (t.arrays[0]).2] [.map (some bV), .map (some bv), vc, .int .i64 0] k_ rfl rfl rfl ?_))))))))))))))))))
          refine df_ (i := 0) rfl k_ k_ k_ b_ (by (repeat (first | refine pani_then ?_ | refine pani_block ?_)); exact pani_body) (dk_ rfl) ?_
          refine df_ (i := 1) rfl k_ k_ k_ b_ (by (repeat (first | refine pani_then ?_ | refine pani_block ?_)); exact pani_body) (dr_ rfl) ?_
          refine df_ (i := 2) rfl k_ k_ k_ b_ (by (repeat (first | refine pani_then ?_ | refine pani_block ?_)); exact pani_body) (dl_ rfl rfl rfl b_) ?_
          refine df_ (i := 3) rfl k_ k_ k_ b_ (by (repeat (first | refine pani_then ?_ | refine pani_block ?_)); exact pani_body) (dm_ 5 rfl rfl rfl mem1 rfl) ?_
          refine df_ (i := 4) rfl k_ k_ k_ b_ (by (repeat (first | refine pani_then ?_ | refine pani_block ?_)); exact pani_body) (dl_ rfl rfl rfl b_) ?_
          refine df_ (i := 5) rfl k_ k_ k_ b_ (by (repeat (first | refine pani_then ?_ | refine pani_block ?_)); exact pani_body) (dm_ 0 rfl rfl rfl mem0 rfl) ?_
          refine df_ (i := 6) rfl k_ k_ k_ b_ (by (repeat (first | refine pani_then ?_ | refine pani_block ?_)); exact pani_body) (dl_ rfl rfl rfl b_) ?_
          refine df_ (i := 7) rfl k_ k_ k_ b_ (by (repeat (first | refine pani_then ?_ | refine pani_block ?_)); exact pani_body) (dm_ 0 rfl rfl rfl mem0 rfl) ?_
          refine dg_ (i := 8) rfl k_ b_ (ow_makeSliceI (t.arrays.headD (⟨#[]⟩, 0)).2.toNat rfl rfl rfl rfl rfl hsz g_ (fun va1 hva1 fva1 => ⟨?_, ?_⟩))
          exact keep2 1 6 rfl rfl
          refine hp_tail (dj_ (i := 9) rfl k_ (by decide) (ow_mapPut (κ := ByteArray) (vv := fun v : Value => v) (M := ([] : List (ByteArray × Value))) 5 rfl rfl rfl rfl rfl (ht_done k_ (ay_ (al_ (an_ (o_ r_ (bj_ r_ r_ g_ (M_ r_ (ak_ (jq_againS (i := (0, v)) (1, va1) ⟨by omega, hva1⟩ (by dsimp only; omega) ?_ ?_)))))))))))
          · dsimp only
            rw [hone]
            exact bc_ 1 r_ (bc_ 3 r_ (bc_ 3 r_ (bc_ 0 r_ (bc_ 2 r_ (bc_ 2 r_ (bc_ 2 r_ (bc_ 2 r_ (bc_ 2 r_ sub_end))))))))
          · (repeat (first | exact True.intro | refine ⟨rfl, ?_⟩))
        · have hltk2 : ¬ (k : Int) < (((t.arrays).map ArRow).length : Int) := by omega
          rw [show t.arrays.take k = t.arrays from List.take_of_length_le (by omega)]
          obtain rfl : k = t.arrays.length := by omega
          have hsl0 : ∀ h : 0 < ss.length, (ss[0]).length ≤ 1000000 := fil_hd hfl hRn.ssz
          have hsl : p.shared.length = ss.length := by
            unfold filB at hfl
            rw [Bool.and_eq_true, decide_eq_true_eq] at hfl
            exact hfl.1
          generalize v = va at *
          clear hltk hltk2 hk
          refine R_ (o_ r_ (bw_ r_ r_ (T_ (am_ (ap_ r_ v_ (av_ (ax_ (ax_ (ba_ (al_ (am_ (R_ (F_ r_ (L_ 7 r_ (o_ r_ (br_ r_ (fun hlen => M_ r_ ?_)))))))))))))))))
          refine T_ (au_ ?_)
          refine jc_loopS (ι := Nat × Value) [] (fun i => i.1 ≤ (p.shared).length ∧ i.2.oneCell' = true) (fun i => (117, In .i64 (i.1 : Int)) :: [(115, .cell (.list (p.shared.map ShRow))), (116, In .i64 ((p.shared.map ShRow).length : Int)), (13, .cell (.list ((t.inputs.map (·.1) ++ t.vars).map Wrow))), (11, .cell (.val (.pointer (some ⟨bt, 0, none⟩)))), (4, .cell (.val (.pointer (some ⟨bp, 0, none⟩)))), (12, .cell (.val (.pointer (some ⟨bj, 0, none⟩)))), (3, .cell (.list (ss.map LRow))), (8, .cell (.val (.pointer (some ⟨bo, 0, none⟩))))]) (fun i => (.own i.2 3 1 ((kIf i.1 (ss.headD [])).map Irow)) :: [.own va 3 1 ((ca0 t.arrays).map Irow), .mapc bV (mapE (Value.int .i64) (fillF [] ((t.inputs.map (·.1)).zip ins))), .mapc bv (mapE (fun v : Value => v) (fillF (fillF [] (t.arrays.map (fun x => (x.1, va)))) ((p.shared.take i.1).map (fun x => (x.1, i.2))))), .blk bj 115 [.val (.map (some bV)), .val (.map (some bv)), .val vc, .val (.int .i64 0)], .own vc 3 1 ((List.replicate 39 (0 : Int)).map Irow), .blk bt 39 t.row, .blk bp 31 p.row, .blk bo 46 [.val (.slice none 0 0), .val (.slice none 0 0), .val (.slice none 0 0), .val (.slice none 0 0), .val (.int .i64 0)]]) (fun i => (p.shared).length - i.1) (0, .slice none 0 0) ⟨Nat.zero_le _, rfl⟩ ?_ ?_ ?_
          · exact bc_ 1 r_ (bc_ 0 r_ (bc_ 0 r_ (bc_ 0 r_ (bc_ 0 r_ (bc_ 0 r_ (bc_ 0 r_ (bc_ 0 r_ (bc_ 0 r_ sub_end))))))))
          · (repeat (first | exact True.intro | refine ⟨rfl, ?_⟩))
          rintro ⟨k, v⟩ hz
          dsimp only at hz ⊢
          obtain ⟨hk, hvb⟩ := hz
          have eLk : ((p.shared).map ShRow).length = (p.shared).length := List.length_map _
          by_cases hltk : k < (p.shared).length
          · have hltk2 : (k : Int) < (((p.shared).map ShRow).length : Int) := by omega
            have hS2 := hRn.s1
            obtain rfl : k = 0 := by omega
            have hs0 : 0 < ss.length := by omega
            have hs02 : (0 : Int) < ((ss.map LRow).length : Int) := by rw [List.length_map]; omega
            have hhd : ss.headD [] = ss[0] := hd_get hs0
            have hcl := CloneI_c ss[0] (hsl0 hs0)
            have hone : ∀ (M : List (ByteArray × Value)) (v : Value), fillF M ((p.shared.take 1).map (fun x => (x.1, v))) = aset M (p.shared[0]).1 v := by intro M v; rw [one_take hltk]; rfl
            refine R_ (o_ r_ (bw_ r_ r_ (T_ (am_ (aq_ r_ u_ (as_ (al_ (B_ (R_ (M_ r_ (o_ r_ (cc_ r_ r_ g_ r_ r_ b_ (o_ r_ (cr_ r_ r_ r_ (o_ r_ (bl_ r_ r_ (fun bl => E_ r_ (S_ 0 r_ (T_ ?_)))))))))))))))))))
            refine jc_hpV2 12 (n := 13) rfl 0 4 [.string (p.shared[0]).1, .int .i64 (p.shared[0]).2.1, .string (p.shared[0]).2.2] [.map (some bV), .map (some bv), vc, .int .i64 0] k_ rfl rfl rfl (df_ (i := 0) rfl k_ k_ k_ b_ (by (repeat (first | refine pani_then ?_ | refine pani_block ?_)); exact pani_body) (dk_ rfl) ?_)
            refine df_ (i := 1) rfl k_ k_ k_ b_ (by (repeat (first | refine pani_then ?_ | refine pani_block ?_)); exact pani_body) (dr_ rfl) ?_
            refine df_ (i := 2) rfl k_ k_ k_ b_ (by (repeat (first | refine pani_then ?_ | refine pani_block ?_)); exact pani_body) (dl_ rfl rfl rfl b_) ?_
            refine df_ (i := 3) rfl k_ k_ k_ b_ (by (repeat (first | refine pani_then ?_ | refine pani_block ?_)); exact pani_body) (dm_ 5 rfl rfl rfl mem1 rfl) ?_
            refine df_ (i := 4) rfl k_ k_ k_ b_ (by (repeat (first | refine pani_then ?_ | refine pani_block ?_)); exact pani_body) (dl_ rfl rfl rfl b_) ?_
            refine df_ (i := 5) rfl k_ k_ k_ b_ (by (repeat (first | refine pani_then ?_ | refine pani_block ?_)); exact pani_body) (dl_ rfl rfl rfl b_) ?_
            refine df_ (i := 6) rfl k_ k_ k_ b_ (by (repeat (first | refine pani_then ?_ | refine pani_block ?_)); exact pani_body) (dm_ 0 rfl rfl rfl mem0 rfl) ?_
            refine df_ (i := 7) rfl k_ k_ k_ b_ (by (repeat (first | refine pani_then ?_ | refine pani_block ?_)); exact pani_body) (dk_ rfl) ?_
            refine df_ (i := 8) rfl k_ k_ k_ b_ (by (repeat (first | refine pani_then ?_ | refine pani_block ?_)); exact pani_body) (dk_ rfl) ?_
            refine dg_ (i := 9) r_ k_ b_ (cc_ r_ r_ g_ r_ r_ b_ ⟨?_, ?_⟩)
            exact keep2 0 5 rfl rfl
            refine dg_ (i := 10) r_ k_ b_ (cb_ r_ r_ ⟨?_, ?_⟩)
            exact keep2 0 5 rfl rfl
            refine dg_ (i := 11) rfl k_ b_ (bt_ [] rfl rfl (hcl) (fun pp hpp => ⟨?_, ?_⟩))
            exact keep2 1 6 rfl rfl
            refine hp_tail (dj_ (i := 12) rfl k_ (by decide) (ow_mapPut (κ := ByteArray) (vv := fun v : Value => v) (M := fillF [] (t.arrays.map (fun x => (x.1, va)))) 5 rfl rfl rfl rfl rfl (ht_done k_ (ay_ (al_ (an_ (o_ r_ (bj_ r_ r_ g_ (M_ r_ (ak_ (jq_againS (i := (0, v)) (1, pp) ⟨by omega, hpp⟩ (by dsimp only; omega) ?_ ?_)))))))))))
            · dsimp only
              rw [hone, kIf, hhd]
              exact bc_ 1 r_ (bc_ 3 r_ (bc_ 3 r_ (bc_ 0 r_ (bc_ 2 r_ (bc_ 2 r_ (bc_ 2 r_ (bc_ 2 r_ (bc_ 2 r_ sub_end))))))))
            · (repeat (first | exact True.intro | refine ⟨rfl, ?_⟩))
          · have hltk2 : ¬ (k : Int) < (((p.shared).map ShRow).length : Int) := by omega
            rw [show p.shared.take k = p.shared from List.take_of_length_le (by omega)]
            obtain rfl : k = p.shared.length := by omega
            generalize v = vb at *
            clear hltk hltk2 hk
            have hV := arV_eq p t va vb
            unfold arV at hV
            rw [hV]
            have hl39 : (List.replicate 39 (0 : Int)).length = 39 := List.length_replicate
            refine R_ (o_ r_ (bw_ r_ r_ (T_ (am_ (ap_ r_ v_ (av_ (ax_ (ax_ (ba_ (al_ (R_ (M_ r_ (N_ r_ (F_ r_ (L_ 4 r_ (o_ r_ (ow_indexI 5 r_ r_ r_ g_ r_ ?_)))))))))))))))))
            refine ag_ (ow_storeI 5 r_ r_ r_ g_ r_ (T_ (am_ ?_)))
            refine jc_reset [(13, .cell (.list ((t.inputs.map (·.1) ++ t.vars).map Wrow))), (11, .cell (.val (.pointer (some ⟨bt, 0, none⟩)))), (4, .cell (.val (.pointer (some ⟨bp, 0, none⟩)))), (12, .cell (.val (.pointer (some ⟨bj, 0, none⟩)))), (8, .cell (.val (.pointer (some ⟨bo, 0, none⟩))))] (JobHE bj bV bv va vb vc (AMof p t) (jb0 p t ins ss) ++ [.blk bt 39 t.row, .blk bp 31 p.row, .blk bo 46 [.val (.slice none 0 0), .val (.slice none 0 0), .val (.slice none 0 0), .val (.slice none 0 0), .val (.int .i64 0)]]) ?_ ?_ ?_
            · (repeat (first | exact True.intro | refine ⟨rfl, ?_⟩))
            · exact bc_ 5 r_ (bc_ 0 r_ (bc_ 2 r_ (bc_ 2 r_ (bc_ 1 r_ (bc_ 0 r_ (bc_ 0 r_ (bc_ 0 r_ (bc_ 0 r_ sub_end))))))))
            have cR := pstmts_c (bj := bj) (bv := bV) (ba := bv) (va := va) (vb := vb) (vc := vc) (AM := AMof p t) _ (am_has hRn hfl) (ca0_le hRn) (cb0_le hRn hfl) hva hvb t.body hRn.rok 1 (jb0 p t ins ss) jb0_ok (by have := hRn.cst; omega)
            refine an_ (M_ r_ (F_ r_ (L_ 6 r_ (o_ r_ (bi_ [0, 0, 0, 0, 0, 0] r_ r_ cR (T_ (am_ ?_)))))))
            refine jc_reset [(13, .cell (.list ((t.inputs.map (·.1) ++ t.vars).map Wrow))), (11, .cell (.val (.pointer (some ⟨bt, 0, none⟩)))), (4, .cell (.val (.pointer (some ⟨bp, 0, none⟩)))), (12, .cell (.val (.pointer (some ⟨bj, 0, none⟩)))), (8, .cell (.val (.pointer (some ⟨bo, 0, none⟩))))] (JobHE bj bV bv va vb vc (AMof p t) (runL (AMof p t) t.body (jb0 p t ins ss)) ++ [.blk bt 39 t.row, .blk bp 31 p.row, .blk bo 46 [.val (.slice none 0 0), .val (.slice none 0 0), .val (.slice none 0 0), .val (.slice none 0 0), .val (.int .i64 0)]]) ?_ ?_ ?_
            · (repeat (first | exact True.intro | refine ⟨rfl, ?_⟩))
            · exact bc_ 0 r_ (bc_ 0 r_ (bc_ 0 r_ (bc_ 0 r_ (bc_ 0 r_ (bc_ 0 r_ (bc_ 0 r_ (bc_ 0 r_ (bc_ 0 r_ sub_end))))))))
            have hrun : runO p t ins ss = ⟨(scaL t).map (fun s => (aget (runL (AMof p t) t.body (jb0 p t ins ss)).V s).getD 0), t.arrays.map (fun _ => (runL (AMof p t) t.body (jb0 p t ins ss)).ca), p.shared.map (fun _ => (runL (AMof p t) t.body (jb0 p t ins ss)).cb), (runL (AMof p t) t.body (jb0 p t ins ss)).cn, (runL (AMof p t) t.body (jb0 p t ins ss)).st⟩ := rfl
            rw [hrun] at hres
            clear cR hrun
            generalize (runL (AMof p t) t.body (jb0 p t ins ss)) = J at hres ⊢
            have eNl : ((t.inputs.map (·.1) ++ t.vars).map Wrow).length = t.inputs.length + t.vars.length := by rw [List.length_map, List.length_append, List.length_map]
            refine jc_anyB 10 (some 9) rfl k_ k_ (yM_ r_ (yN_ r_ (yF_ r_ (yL_ 0 r_ (yM_ r_ (yN_ r_ (yF_ r_ (yL_ 0 r_ (aa_ (fun c => bu_ r_ r_ r_ r_ r_ p_) (af_ (ae_ (afin_some rfl rfl rfl (fun bl => S_ 0 r_ (T_ (am_ ?_)))))))))))))))
            refine R_ (M_ r_ (o_ r_ (br_ r_ (fun hlen => M_ r_ (T_ (au_ ?_))))))
            generalize bl = b2 at *
            refine jc_ownNil 3 1 g_ ?_
            refine jc_loopS (ι := Nat × Value × List Int) [] (fun i => i.1 ≤ ((t.inputs.map (·.1) ++ t.vars)).length ∧ i.2.2 = (((t.inputs.map (·.1) ++ t.vars)).take i.1).map (fun s => (aget J.V s).getD 0)) (fun i => (155, In .i64 (i.1 : Int)) :: (153, .cell (.list ((t.inputs.map (·.1) ++ t.vars).map Wrow))) :: [(154, In .i64 (((t.inputs.map (·.1) ++ t.vars).map Wrow).length : Int)), (20, .cell (.val (.pointer (some ⟨b2, 0, none⟩)))), (11, .cell (.val (.pointer (some ⟨bt, 0, none⟩)))), (4, .cell (.val (.pointer (some ⟨bp, 0, none⟩)))), (12, .cell (.val (.pointer (some ⟨bj, 0, none⟩)))), (8, .cell (.val (.pointer (some ⟨bo, 0, none⟩))))]) (fun i => (.own i.2.1 3 1 (i.2.2.map Irow)) :: .blk b2 46 [.val i.2.1, .val (.slice none 0 0), .val (.slice none 0 0), .val vc, .val (.int .i64 J.st)] :: (JobHE bj bV bv va vb vc (AMof p t) J ++ [.blk bt 39 t.row, .blk bp 31 p.row, .blk bo 46 [.val (.slice none 0 0), .val (.slice none 0 0), .val (.slice none 0 0), .val (.slice none 0 0), .val (.int .i64 0)]])) (fun i => ((t.inputs.map (·.1) ++ t.vars)).length - i.1) (0, .slice none 0 0, []) ⟨Nat.zero_le _, rfl⟩ ?_ ?_ ?_
            · exact bc_ 0 r_ (bc_ 0 r_ (bc_ 0 r_ (bc_ 0 r_ (bc_ 0 r_ (bc_ 0 r_ (bc_ 0 r_ (bc_ 0 r_ (bc_ 0 r_ (bc_ 0 r_ (bc_ 0 r_ sub_end))))))))))
            · (repeat (first | exact True.intro | refine ⟨rfl, ?_⟩))
            rintro ⟨k, v, B⟩ hz
            dsimp only at hz ⊢
            obtain ⟨hk, hB⟩ := hz
            have eLk : (((t.inputs.map (·.1) ++ t.vars)).map Wrow).length = ((t.inputs.map (·.1) ++ t.vars)).length := List.length_map _
            by_cases hltk : k < ((t.inputs.map (·.1) ++ t.vars)).length
            · have hltk2 : (k : Int) < ((((t.inputs.map (·.1) ++ t.vars)).map Wrow).length : Int) := by omega
              have hBl := congrArg List.length hB
              simp only [List.length_map, List.length_take] at hBl
              refine R_ (o_ r_ (bw_ r_ r_ (T_ (am_ (aq_ r_ u_ (as_ (al_ (B_ (R_ (o_ r_ (cc_ r_ r_ g_ r_ r_ b_ (o_ r_ (cb_ r_ r_ (E_ r_ (T_ (jc_hpV2 10 (n := 12) rfl 1 1 [v, .slice none 0 0, .slice none 0 0, vc, .int .i64 J.st] [.map (some bV), .map (some bv), vc, .int .i64 J.st] k_ rfl rfl rfl ?_))))))))))))))))
              refine df_ (i := 0) rfl k_ k_ k_ b_ (by (repeat (first | refine pani_then ?_ | refine pani_block ?_)); exact pani_body) (dl_ rfl rfl rfl b_) ?_
              refine df_ (i := 1) rfl k_ k_ k_ b_ (by (repeat (first | refine pani_then ?_ | refine pani_block ?_)); exact pani_body) (dm_ 1 rfl rfl rfl mem0 rfl) ?_
              refine df_ (i := 2) rfl k_ k_ k_ b_ (by (repeat (first | refine pani_then ?_ | refine pani_block ?_)); exact pani_body) (dk_ rfl) ?_
              refine df_ (i := 3) rfl k_ k_ k_ b_ (by (repeat (first | refine pani_then ?_ | refine pani_block ?_)); exact pani_body) (dr_ rfl) ?_
              refine df_ (i := 4) rfl k_ k_ k_ b_ (by (repeat (first | refine pani_then ?_ | refine pani_block ?_)); exact pani_body) (dl_ rfl rfl rfl b_) ?_
              refine df_ (i := 5) rfl k_ k_ k_ b_ (by (repeat (first | refine pani_then ?_ | refine pani_block ?_)); exact pani_body) (dm_ 2 rfl rfl rfl mem1 rfl) ?_
              refine df_ (i := 6) rfl k_ k_ k_ b_ (by (repeat (first | refine pani_then ?_ | refine pani_block ?_)); exact pani_body) (dk_ rfl) ?_
              refine dg_ (i := 7) r_ k_ b_ (ow_mapGetOI 4 r_ r_ r_ r_ r_ ⟨?_, ?_⟩)
              exact keep2 1 2 rfl rfl
              refine dg_ (i := 8) r_ k_ b_ (bq_ r_ r_ b_ r_ r_ b_ ⟨?_, ?_⟩)
              exact keep2 1 2 rfl rfl
              refine dg_ (i := 9) rfl k_ b_ (ow_append1 0 ((aget J.V ((t.inputs.map (·.1) ++ t.vars))[k]).getD 0) rfl rfl rfl rfl rfl rfl rfl (fun _ => rfl) (by show (_ + 1) * 8 ≤ _ ; first | omega | (simp ; done)) (by first | omega | (simp ; done)) (fun v1 hv1 => ⟨?_, ?_⟩))
              exact keep2 1 2 rfl rfl
              refine df_ (i := 10) rfl k_ k_ k_ b_ (by (repeat (first | refine pani_then ?_ | refine pani_block ?_)); exact pani_body) (dl_ rfl rfl rfl b_) ?_
              refine hp_tail (dj_ (i := 11) rfl k_ (by decide) (ca_ 1 rfl rfl rfl rfl b_ (ht_done k_ (ay_ (al_ (an_ (o_ r_ (bj_ r_ r_ g_ (M_ r_ (ak_ (jq_againS (i := (k, v, B)) (k + 1, v1, B ++ [(aget J.V ((t.inputs.map (·.1) ++ t.vars))[k]).getD 0]) ⟨hltk, by dsimp only; rw [hB, List.take_succ_eq_append_getElem hltk, List.map_append]; rfl⟩ (by dsimp only; omega) ?_ ?_)))))))))))
              · exact bc_ 1 r_ (bc_ 0 r_ (bc_ 0 r_ (bc_ 0 r_ (bc_ 0 r_ (bc_ 0 r_ (bc_ 0 r_ (bc_ 0 r_ (bc_ 0 r_ (bc_ 0 r_ (bc_ 0 r_ sub_end))))))))))
              · (repeat (first | exact True.intro | refine ⟨rfl, ?_⟩))
            · have hltk2 : ¬ (k : Int) < ((((t.inputs.map (·.1) ++ t.vars)).map Wrow).length : Int) := by omega
              rw [show ((t.inputs.map (·.1) ++ t.vars)).take k = (t.inputs.map (·.1) ++ t.vars) from List.take_of_length_le (by omega)] at hB
              generalize v = vV at *
              refine R_ (o_ r_ (bw_ r_ r_ (T_ (am_ (ap_ r_ w_ (av_ (ax_ (ax_ (ba_ (al_ (am_ (R_ (F_ r_ (L_ 8 r_ (o_ r_ (br_ r_ (fun hlen => M_ r_ ?_)))))))))))))))))
              refine T_ (au_ ?_)
              subst hB
              clear hltk hltk2 hk eLk
              refine jc_ownNil 22 1 g_ ?_
              refine jc_loopS (ι := Nat × Value) [] (fun i => i.1 ≤ (t.arrays).length) (fun i => (174, In .i64 (i.1 : Int)) :: [(172, .cell (.list (t.arrays.map ArRow))), (173, In .i64 ((t.arrays.map ArRow).length : Int)), (20, .cell (.val (.pointer (some ⟨b2, 0, none⟩)))), (11, .cell (.val (.pointer (some ⟨bt, 0, none⟩)))), (4, .cell (.val (.pointer (some ⟨bp, 0, none⟩)))), (12, .cell (.val (.pointer (some ⟨bj, 0, none⟩)))), (8, .cell (.val (.pointer (some ⟨bo, 0, none⟩))))]) (fun i => (.own i.2 22 1 ((t.arrays.take i.1).map (fun _ => [C.val va]))) :: .blk b2 46 [.val vV, .val i.2, .val (.slice none 0 0), .val vc, .val (.int .i64 J.st)] :: .own vV 3 1 (((t.inputs.map (·.1) ++ t.vars).map (fun s => (aget J.V s).getD 0)).map Irow) :: (JobHE bj bV bv va vb vc (AMof p t) J ++ [.blk bt 39 t.row, .blk bp 31 p.row, .blk bo 46 [.val (.slice none 0 0), .val (.slice none 0 0), .val (.slice none 0 0), .val (.slice none 0 0), .val (.int .i64 0)]])) (fun i => (t.arrays).length - i.1) (0, .slice none 0 0) (Nat.zero_le _) ?_ ?_ ?_
              · exact bc_ 0 r_ (bc_ 1 r_ (bc_ 0 r_ (bc_ 0 r_ (bc_ 0 r_ (bc_ 0 r_ (bc_ 0 r_ (bc_ 0 r_ (bc_ 0 r_ (bc_ 0 r_ (bc_ 0 r_ (bc_ 0 r_ sub_end)))))))))))
              · (repeat (first | exact True.intro | refine ⟨rfl, ?_⟩))
              rintro ⟨k, v⟩ hz
              dsimp only at hz ⊢
              obtain hk := hz
              have eLk : ((t.arrays).map ArRow).length = (t.arrays).length := List.length_map _
              by_cases hltk : k < (t.arrays).length
              · have hltk2 : (k : Int) < (((t.arrays).map ArRow).length : Int) := by omega
                obtain rfl : k = 0 := by omega
                have hAM := am_arr hRn hltk
                refine R_ (o_ r_ (bw_ r_ r_ (T_ (am_ (aq_ r_ u_ (as_ (al_ (B_ (R_ (o_ r_ (cc_ r_ r_ g_ r_ r_ b_ (o_ r_ (cr_ r_ r_ r_ (o_ r_ (bl_ r_ r_ (fun bl => S_ 0 r_ (T_ (jc_hpV3 11 (n := 13) rfl 0 2 4 [.string (t.arrays[0]).1, .int .i64 (t.arrays[0]).2] [vV, v, .slice none 0 0, vc, .int .i64 J.st] [.map (some bV), .map (some bv), vc, .int .i64 J.st] k_ rfl rfl rfl rfl rfl rfl ?_))))))))))))))))))
                refine df_ (i := 0) rfl k_ k_ k_ b_ (by (repeat (first | refine pani_then ?_ | refine pani_block ?_)); exact pani_body) (dl_ rfl rfl rfl b_) ?_
                refine df_ (i := 1) rfl k_ k_ k_ b_ (by (repeat (first | refine pani_then ?_ | refine pani_block ?_)); exact pani_body) (dm_ 2 rfl rfl rfl mem1 rfl) ?_
                refine df_ (i := 2) rfl k_ k_ k_ b_ (by (repeat (first | refine pani_then ?_ | refine pani_block ?_)); exact pani_body) (dk_ rfl) ?_
                refine df_ (i := 3) rfl k_ k_ k_ b_ (by (repeat (first | refine pani_then ?_ | refine pani_block ?_)); exact pani_body) (dr_ rfl) ?_
                refine df_ (i := 4) rfl k_ k_ k_ b_ (by (repeat (first | refine pani_then ?_ | refine pani_block ?_)); exact pani_body) (dl_ rfl rfl rfl b_) ?_
                refine df_ (i := 5) rfl k_ k_ k_ b_ (by (repeat (first | refine pani_then ?_ | refine pani_block ?_)); exact pani_body) (dm_ 4 rfl rfl rfl mem2 rfl) ?_
                refine df_ (i := 6) rfl k_ k_ k_ b_ (by (repeat (first | refine pani_then ?_ | refine pani_block ?_)); exact pani_body) (dl_ rfl rfl rfl b_) ?_
                refine df_ (i := 7) rfl k_ k_ k_ b_ (by (repeat (first | refine pani_then ?_ | refine pani_block ?_)); exact pani_body) (dm_ 0 rfl rfl rfl mem0 rfl) ?_
                refine dg_ (i := 8) rfl k_ b_ (ow_mapGetOW (κ := ByteArray) (vv := fun q => cond q va vb) (M := AMof p t) (w := true) (u := va) 7 rfl rfl hAM rfl hva rfl rfl rfl ⟨?_, ?_⟩)
                refine keep3 ?_ ?_ ?_
                exact List.mem_of_getElem? (i := 0) rfl
                exact List.mem_of_getElem? (i := 2) rfl
                exact List.mem_of_getElem? (i := 4) rfl
                refine dg_ (i := 9) r_ k_ b_ (bq_ r_ r_ b_ r_ r_ b_ ⟨?_, ?_⟩)
                refine keep3 ?_ ?_ ?_
                exact List.mem_of_getElem? (i := 0) rfl
                exact List.mem_of_getElem? (i := 2) rfl
                exact List.mem_of_getElem? (i := 4) rfl
                refine dg_ (i := 10) rfl k_ b_ (ow_append1 1 (t.arrays[0]) rfl rfl rfl rfl rfl rfl rfl (fun _ => rfl) (by show (_ + 1) * 24 ≤ _ ; first | omega | (simp ; done)) (by first | omega | (simp ; done)) (fun v1 hv1 => ⟨?_, ?_⟩))
                refine keep3 ?_ ?_ ?_
                exact List.mem_of_getElem? (i := 1) rfl
                exact List.mem_of_getElem? (i := 2) rfl
                exact List.mem_of_getElem? (i := 4) rfl
                refine df_ (i := 11) rfl k_ k_ k_ b_ (by (repeat (first | refine pani_then ?_ | refine pani_block ?_)); exact pani_body) (dl_ rfl rfl rfl b_) ?_
                refine hp_tail (dj_ (i := 12) rfl k_ (by decide) (ca_ 2 rfl rfl rfl rfl b_ (ht_done k_ (ay_ (al_ (an_ (o_ r_ (bj_ r_ r_ g_ (M_ r_ (ak_ (jq_againS (i := (0, v)) (1, v1) (by first | omega | (dsimp only; omega)) (by first | omega | (dsimp only; omega)) ?_ ?_)))))))))))
                · dsimp only
                  rw [one_take hltk]
                  exact bc_ 1 r_ (bc_ 0 r_ (bc_ 1 r_ (bc_ 1 r_ (bc_ 1 r_ (bc_ 1 r_ (bc_ 1 r_ (bc_ 1 r_ (bc_ 1 r_ (bc_ 1 r_ (bc_ 1 r_ (bc_ 1 r_ sub_end)))))))))))
                · (repeat (first | exact True.intro | refine ⟨rfl, ?_⟩))
              · have hltk2 : ¬ (k : Int) < (((t.arrays).map ArRow).length : Int) := by omega
                rw [show t.arrays.take k = t.arrays from List.take_of_length_le (by omega)]
                generalize v = vA at *
                refine R_ (o_ r_ (bw_ r_ r_ (T_ (am_ (ap_ r_ w_ (av_ (ax_ (ax_ (ba_ (al_ (am_ (R_ (F_ r_ (L_ 10 r_ (o_ r_ (br_ r_ (fun hlen => M_ r_ ?_)))))))))))))))))
                refine T_ (au_ (jc_ownNil 22 1 g_ ?_))
                refine jc_loopS (ι := Nat × Value) [] (fun i => i.1 ≤ (p.shared).length) (fun i => (194, In .i64 (i.1 : Int)) :: [(192, .cell (.list (p.shared.map ShRow))), (193, In .i64 ((p.shared.map ShRow).length : Int)), (20, .cell (.val (.pointer (some ⟨b2, 0, none⟩)))), (11, .cell (.val (.pointer (some ⟨bt, 0, none⟩)))), (4, .cell (.val (.pointer (some ⟨bp, 0, none⟩)))), (12, .cell (.val (.pointer (some ⟨bj, 0, none⟩)))), (8, .cell (.val (.pointer (some ⟨bo, 0, none⟩))))]) (fun i => (.own i.2 22 1 ((p.shared.take i.1).map (fun _ => [C.val vb]))) :: .blk b2 46 [.val vV, .val vA, .val i.2, .val vc, .val (.int .i64 J.st)] :: .own vA 22 1 (t.arrays.map (fun _ => [C.val va])) :: .own vV 3 1 (((t.inputs.map (·.1) ++ t.vars).map (fun s => (aget J.V s).getD 0)).map Irow) :: (JobHE bj bV bv va vb vc (AMof p t) J ++ [.blk bt 39 t.row, .blk bp 31 p.row, .blk bo 46 [.val (.slice none 0 0), .val (.slice none 0 0), .val (.slice none 0 0), .val (.slice none 0 0), .val (.int .i64 0)]])) (fun i => (p.shared).length - i.1) (0, .slice none 0 0) (Nat.zero_le _) ?_ ?_ ?_
                · exact bc_ 0 r_ (bc_ 1 r_ (bc_ 0 r_ (bc_ 0 r_ (bc_ 0 r_ (bc_ 0 r_ (bc_ 0 r_ (bc_ 0 r_ (bc_ 0 r_ (bc_ 0 r_ (bc_ 0 r_ (bc_ 0 r_ (bc_ 0 r_ sub_end))))))))))))
                · (repeat (first | exact True.intro | refine ⟨rfl, ?_⟩))
                rintro ⟨k, v⟩ hz
                dsimp only at hz ⊢
                obtain hk := hz
                have eLk : ((p.shared).map ShRow).length = (p.shared).length := List.length_map _
                by_cases hltk : k < (p.shared).length
                · have hltk2 : (k : Int) < (((p.shared).map ShRow).length : Int) := by omega
                  obtain rfl : k = 0 := by omega
                  have hAM := am_shr hRn hltk
                  refine R_ (o_ r_ (bw_ r_ r_ (T_ (am_ (aq_ r_ u_ (as_ (al_ (B_ (R_ (o_ r_ (cc_ r_ r_ g_ r_ r_ b_ (o_ r_ (cr_ r_ r_ r_ (o_ r_ (bl_ r_ r_ (fun bl => S_ 0 r_ (T_ (jc_hpV3 12 (n := 14) rfl 0 2 5 [.string (p.shared[0]).1, .int .i64 (p.shared[0]).2.1, .string (p.shared[0]).2.2] [vV, vA, v, vc, .int .i64 J.st] [.map (some bV), .map (some bv), vc, .int .i64 J.st] k_ rfl rfl rfl rfl rfl rfl ?_))))))))))))))))))
                  refine df_ (i := 0) rfl k_ k_ k_ b_ (by (repeat (first | refine pani_then ?_ | refine pani_block ?_)); exact pani_body) (dl_ rfl rfl rfl b_) ?_
                  refine df_ (i := 1) rfl k_ k_ k_ b_ (by (repeat (first | refine pani_then ?_ | refine pani_block ?_)); exact pani_body) (dm_ 2 rfl rfl rfl mem1 rfl) ?_
                  refine df_ (i := 2) rfl k_ k_ k_ b_ (by (repeat (first | refine pani_then ?_ | refine pani_block ?_)); exact pani_body) (dk_ rfl) ?_
                  refine df_ (i := 3) rfl k_ k_ k_ b_ (by (repeat (first | refine pani_then ?_ | refine pani_block ?_)); exact pani_body) (dr_ rfl) ?_
                  refine df_ (i := 4) rfl k_ k_ k_ b_ (by (repeat (first | refine pani_then ?_ | refine pani_block ?_)); exact pani_body) (dl_ rfl rfl rfl b_) ?_
                  refine df_ (i := 5) rfl k_ k_ k_ b_ (by (repeat (first | refine pani_then ?_ | refine pani_block ?_)); exact pani_body) (dm_ 5 rfl rfl rfl mem2 rfl) ?_
                  refine df_ (i := 6) rfl k_ k_ k_ b_ (by (repeat (first | refine pani_then ?_ | refine pani_block ?_)); exact pani_body) (dl_ rfl rfl rfl b_) ?_
                  refine df_ (i := 7) rfl k_ k_ k_ b_ (by (repeat (first | refine pani_then ?_ | refine pani_block ?_)); exact pani_body) (dl_ rfl rfl rfl b_) ?_
                  refine df_ (i := 8) rfl k_ k_ k_ b_ (by (repeat (first | refine pani_then ?_ | refine pani_block ?_)); exact pani_body) (dm_ 0 rfl rfl rfl mem0 rfl) ?_
                  refine dg_ (i := 9) rfl k_ b_ (ow_mapGetOW (κ := ByteArray) (vv := fun q => cond q va vb) (M := AMof p t) (w := false) (u := vb) 8 rfl rfl hAM rfl hvb rfl rfl rfl ⟨?_, ?_⟩)
                  refine keep3 ?_ ?_ ?_
                  exact List.mem_of_getElem? (i := 0) rfl
                  exact List.mem_of_getElem? (i := 2) rfl
                  exact List.mem_of_getElem? (i := 5) rfl
                  refine dg_ (i := 10) r_ k_ b_ (bq_ r_ r_ b_ r_ r_ b_ ⟨?_, ?_⟩)
                  refine keep3 ?_ ?_ ?_
                  exact List.mem_of_getElem? (i := 0) rfl
                  exact List.mem_of_getElem? (i := 2) rfl
                  exact List.mem_of_getElem? (i := 5) rfl
                  refine dg_ (i := 11) rfl k_ b_ (ow_append1 1 (p.shared[0]) rfl rfl rfl rfl rfl rfl rfl (fun _ => rfl) (by show (_ + 1) * 24 ≤ _ ; first | omega | (simp ; done)) (by first | omega | (simp ; done)) (fun v1 hv1 => ⟨?_, ?_⟩))
                  refine keep3 ?_ ?_ ?_
                  exact List.mem_of_getElem? (i := 1) rfl
                  exact List.mem_of_getElem? (i := 2) rfl
                  exact List.mem_of_getElem? (i := 5) rfl
                  refine df_ (i := 12) rfl k_ k_ k_ b_ (by (repeat (first | refine pani_then ?_ | refine pani_block ?_)); exact pani_body) (dl_ rfl rfl rfl b_) ?_
                  refine hp_tail (dj_ (i := 13) rfl k_ (by decide) (ca_ 2 rfl rfl rfl rfl b_ (ht_done k_ (ay_ (al_ (an_ (o_ r_ (bj_ r_ r_ g_ (M_ r_ (ak_ (jq_againS (i := (0, v)) (1, v1) (by first | omega | (dsimp only; omega)) (by first | omega | (dsimp only; omega)) ?_ ?_)))))))))))
                  · dsimp only
                    rw [one_take hltk]
                    exact bc_ 1 r_ (bc_ 0 r_ (bc_ 1 r_ (bc_ 1 r_ (bc_ 1 r_ (bc_ 1 r_ (bc_ 1 r_ (bc_ 1 r_ (bc_ 1 r_ (bc_ 1 r_ (bc_ 1 r_ (bc_ 1 r_ (bc_ 1 r_ sub_end))))))))))))
                  · (repeat (first | exact True.intro | refine ⟨rfl, ?_⟩))
                · have hltk2 : ¬ (k : Int) < (((p.shared).map ShRow).length : Int) := by omega
                  rw [show p.shared.take k = p.shared from List.take_of_length_le (by omega)]
                  generalize v = vS at *
                  refine R_ (o_ r_ (bw_ r_ r_ (T_ (am_ (ap_ r_ w_ (av_ (ax_ (ax_ (ba_ (al_ (am_ (jc_freezeO1 (l := p.shared) hRn.s1 9 0 rfl (by rw [hc]; simp [hb]) (jc_freezeO1 (l := t.arrays) hRn.a1 8 2 rfl (by rw [hc]; simp [hb]) ?_)))))))))))))
                  rw [show t.arrays.map (fun _ => [C.list (J.ca.map Irow)]) = (t.arrays.map (fun _ => J.ca)).map LRow by rw [List.map_map]; rfl, show p.shared.map (fun _ => [C.list (J.cb.map Irow)]) = (p.shared.map (fun _ => J.cb)).map LRow by rw [List.map_map]; rfl]
                  exact jc_freezeBi 0 1 1 rfl rfl rfl (by rw [hc]; simp [hb]) (jc_freezeBi 1 0 2 rfl rfl rfl (by rw [hc]; simp [hb]) (jc_freezeBi 1 0 0 rfl rfl rfl (by rw [hc]; simp [hb]) (jc_freezeBi 2 0 3 rfl rfl rfl (by rw [hc]; simp [hb]) (an_ (A_ 0 r_ (S_ 6 r_ (E_ r_ (T_ (ar_ (jq_retRowT rfl rfl rfl rfl rfl 0 rfl (fun K h => by rw [hres] at h; exact h) sub_end))))))))))
end Go.Proofs.YtalkkcfojplmdaaGreatDoor
end

section
namespace Go.Proofs.YtalkkcfojplmdaaGreatDoor
open Go.Vc
attribute [local irreducible] JL JC JQ OpWp Con ConN HOk
set_option maxHeartbeats 4000000

end Go.Proofs.YtalkkcfojplmdaaGreatDoor
end

section
namespace Go.Proofs.YtalkkcfojplmdaaGreatDoor
open Go.Vc
set_option maxHeartbeats 1000000

mutual
/-- All statements, those inside as well, are as p says of their kinds, names, labels and maxima. -/
def Sm.ev (p : Int → ByteArray → Int → Int → Bool) : Sm → Bool
  | .mk k nm _ _ mx lb t e => p k nm lb mx && Sm.evs p t && Sm.evs p e
def Sm.evs (p : Int → ByteArray → Int → Int → Bool) : List Sm → Bool
  | [] => true
  | s :: l => s.ev p && Sm.evs p l
end
section
variable {p q : Int → ByteArray → Int → Int → Bool}
def cnt (j : Jb) (m : Nat) : Int := j.cn.getD m 0
/-- The counts as they are, but for how they belong together. -/
def Rl (F : (Nat → Int) → (Nat → Int) → Prop) (j j' : Jb) : Prop := j.cn.length = 39 → j'.cn.length = 39 ∧ F (cnt j) (cnt j')
theorem Rl.refl {F : (Nat → Int) → (Nat → Int) → Prop} (hF : ∀ a, F a a) (j : Jb) : Rl F j j := fun h => ⟨h, hF _⟩
theorem Rl.trans {F : (Nat → Int) → (Nat → Int) → Prop} (hF : ∀ a b c, F a b → F b c → F a c) (i j k : Jb) (h : Rl F i j) (h' : Rl F j k) : Rl F i k := fun hl => ⟨(h' (h hl).1).1, hF _ _ _ (h hl).2 (h' (h hl).1).2⟩
theorem Rl.same {F : (Nat → Int) → (Nat → Int) → Prop} (hF : ∀ a, F a a) {j j' : Jb} (h : j'.cn = j.cn) : Rl F j j' := fun hl => ⟨by rw [h]; exact hl, (show cnt j' = cnt j by funext m; unfold cnt; rw [h]) ▸ hF _⟩
/-- An if's count is what its sides' are. -/
def FIf (k : Nat) (a b : Nat → Int) : Prop := b (3 * k) - b (3 * k + 1) - b (3 * k + 2) = a (3 * k) - a (3 * k + 1) - a (3 * k + 2)
/-- A while is left as often as it is reached, and begun at most 32 times as often. -/
def FWh (k : Nat) (a b : Nat → Int) : Prop := b (3 * k) - b (3 * k + 2) = a (3 * k) - a (3 * k + 2) ∧ 32 * a (3 * k) - a (3 * k + 1) ≤ 32 * b (3 * k) - b (3 * k + 1)
def F0 (a b : Nat → Int) : Prop := ∀ m, m < 3 → b m = a m
theorem FIf.refl (k : Nat) (a : Nat → Int) : FIf k a a := rfl
theorem FIf.trans (k : Nat) (a b c : Nat → Int) (h : FIf k a b) (h' : FIf k b c) : FIf k a c := by unfold FIf at *; omega
theorem FWh.refl (k : Nat) (a : Nat → Int) : FWh k a a := ⟨rfl, Int.le_refl _⟩
theorem FWh.trans (k : Nat) (a b c : Nat → Int) (h : FWh k a b) (h' : FWh k b c) : FWh k a c := by unfold FWh at *; omega
theorem F0.trans (a b c : Nat → Int) (h : F0 a b) (h' : F0 b c) : F0 a c := fun m hm => (h' m hm).trans (h m hm)
def p0 (kd : Int) (_ : ByteArray) (lb _ : Int) : Bool := if kd = 3 ∨ kd = 4 then decide (1 ≤ lb) && decide (lb ≤ 12) else true
end
end Go.Proofs.YtalkkcfojplmdaaGreatDoor
end

section
namespace Go.Proofs.YtalkkcfojplmdaaGreatDoor
open Go.Vc
set_option maxHeartbeats 1000000

/-- A made program is right. -/
structure Right (p : Pg) : Prop where
  lim : limB p = true
  nam : namB p = true
  ran : ranB p = true
  lab : ∀ t ∈ p.tasks, labT t = true
  lck : ∀ t ∈ p.tasks, Sm.lcks p.shared ⟨#[]⟩ t.body = true
  wgt : ∀ t ∈ p.tasks, wAll 20 t.body 0 ≤ 2000
end Go.Proofs.YtalkkcfojplmdaaGreatDoor
end

section
namespace Go.Proofs.YtalkkcfojplmdaaGreatDoor
open Go.Vc
attribute [local irreducible] progT StG BlG
set_option maxHeartbeats 1000000

/-- A program that is right, and can be printed, has no error. -/
theorem ck_right {p : Pg} (h1 : okPg p = true) (h2 : p.tasks.any (fun t => dpF 8 t.body) = false) (h3 : (progT p).size ≤ 8192) (hR : Right p) : ckF p = 0 := by
  have h0 : (progF p).2 = 0 := by
    unfold progF
    rw [if_neg (by rw [h1]; decide), if_neg (by rw [h2]; decide), if_neg (by omega)]
  have hlab : p.tasks.all labF = true := by
    rw [List.all_eq_true]
    intro t ht
    rw [List.any_eq_false] at h2
    have hd := h2 t ht
    rw [labF_labT (by revert hd; cases dpF 8 t.body <;> simp)]
    exact hR.lab t ht
  have hlck : p.tasks.all (fun t => Sm.lcks p.shared ⟨#[]⟩ t.body) = true := List.all_eq_true.2 hR.lck
  have hwgt : p.tasks.all (fun t => decide (wAll 20 t.body 0 ≤ 2000)) = true := List.all_eq_true.2 (fun t ht => decide_eq_true (hR.wgt t ht))
  unfold ckF
  rw [if_neg (by rw [h0]; decide), if_neg (by rw [hR.lim]; decide), if_neg (by rw [hR.nam]; decide), if_neg (by rw [hR.ran]; decide), if_neg (by rw [hlab]; decide), if_neg (by rw [hlck]; decide), if_neg (by rw [hwgt]; decide)]
theorem runF_in {p : Pg} {k : Nat} (h0 : ckF p = 0) (hk : k < p.tasks.length) {ins : List Int} {ss : List (List Int)} (hi : fitB (p.tasks[k]).inputs ins = true) (hs : filB p.shared ss = true) : runF p (k : Int) ins ss = (runO p p.tasks[k] ins ss, 0) := by
  have e : p.tasks.getD ((k : Int)).toNat tk0 = p.tasks[k] := by
    rw [show ((k : Int)).toNat = k by omega, List.getD_eq_getElem?_getD, List.getElem?_eq_getElem hk]
    rfl
  unfold runF
  rw [if_neg (fun h => h h0), if_pos ⟨by omega, by omega⟩, e, if_neg (by rw [hi]; decide), if_neg (by rw [hs]; decide)]
end Go.Proofs.YtalkkcfojplmdaaGreatDoor
end

section
namespace Go.Proofs.YtalkkcfojplmdaaGreatDoor
open Go.Vc
attribute [local irreducible] progT StG BlG
set_option maxHeartbeats 1000000

abbrev Nt : ByteArray := ⟨#[116]⟩
/-- An expression of at most five parts. -/
structure Ez (x : T) : Prop where
  fm : Fm x
  use : useB VS [] x = true
  wd : wdT x = true
  txt : (textT x).size ≤ 40
  wp : wPartsL [x] 20 0 ≤ 5
  fr : ∀ h, freeB [] h x = true
structure Ql (n w z c : Nat) (labs : List Int) (l : List Sm) : Prop where
  md : ∀ s ∈ l, mdS n s
  txt : ∀ sp : ByteArray, sp.size + 2 * n ≤ 20 → (stsT sp l).size ≤ z
  szs : Sm.szs l ≤ c
  nms : Sm.nmss VS [] [] l = true
  wds : Sm.wdss l = true
  lbs : Sm.lbss isIW l = labs
  lck : ∀ h, Sm.lcks [] h l = true
  wgt : ∀ f (m : Int), n ≤ f → 0 ≤ m → wAll f l m ≤ m + w
theorem lim_le (n : Int) : lim n ≤ n := by unfold lim; omega
theorem wAll_app (f : Nat) : ∀ (l m : List Sm) (n : Int), wAll f (l ++ m) n = wAll f m (wAll f l n)
  | [], m, n => by rw [List.nil_append, wAll]
  | s :: l, m, n => by rw [List.cons_append, wAll, wAll, wAll_app f l m]
theorem wAll_nn (f : Nat) : ∀ (l : List Sm) (n : Int), 0 ≤ n → 0 ≤ wAll f l n
  | [], n, h => by rw [wAll]; exact h
  | s :: l, n, h => by rw [wAll]; exact wAll_nn f l _ (lim_bd _ (by have := wOne_bd f s; omega)).1
theorem mdS_mono : ∀ (n : Nat) (s : Sm), mdS n s → mdS (n + 1) s
  | 0, _, h => h.elim
  | n + 1, s, h => by
    unfold mdS at h ⊢
    rcases h with h | h | ⟨x, lab, t, e, hx, hl, ht, he, rfl⟩ | ⟨x, mx, lab, t, hx, hm, hl, ht, rfl⟩ | ⟨v, t, hv, ht, rfl⟩
    · exact .inl h
    · exact .inr (.inl h)
    · exact .inr (.inr (.inl ⟨x, lab, t, e, hx, hl, fun u hu => mdS_mono n u (ht u hu), fun u hu => mdS_mono n u (he u hu), rfl⟩))
    · exact .inr (.inr (.inr (.inl ⟨x, mx, lab, t, hx, hm, hl, fun u hu => mdS_mono n u (ht u hu), rfl⟩)))
    · exact .inr (.inr (.inr (.inr ⟨v, t, hv, fun u hu => mdS_mono n u (ht u hu), rfl⟩)))
theorem Ql.nil (n : Nat) : Ql n 0 0 0 [] [] := ⟨by simp, fun _ _ => by rw [stsT]; exact Nat.le_refl _, Nat.le_refl _, rfl, rfl, rfl, fun _ => rfl, fun f m _ _ => by rw [wAll]; omega⟩
theorem Ql.app {n w1 z1 c1 w2 z2 c2 : Nat} {la lb : List Int} {l m : List Sm} (h : Ql n w1 z1 c1 la l) (g : Ql n w2 z2 c2 lb m) : Ql n (w1 + w2) (z1 + z2) (c1 + c2) (la ++ lb) (l ++ m) := by
  refine ⟨fun s hs => ?_, fun sp hsp => ?_, ?_, ?_, ?_, ?_, fun hd => ?_, fun f k hf hk => ?_⟩
  · rcases List.mem_append.1 hs with hs | hs
    · exact h.md s hs
    · exact g.md s hs
  · rw [stsT_app, ByteArray.size_append]
    have := h.txt sp hsp
    have := g.txt sp hsp
    omega
  · rw [Sm.szs_app]; have := h.szs; have := g.szs; omega
  · have := h.nms; have := g.nms
    rw [Sm.nmss_all, List.all_append, ← Sm.nmss_all, ← Sm.nmss_all, h.nms, g.nms]; rfl
  · rw [Sm.wdss_all, List.all_append, ← Sm.wdss_all, ← Sm.wdss_all, h.wds, g.wds]; rfl
  · rw [Sm.lbss_app, h.lbs, g.lbs]
  · rw [Sm.lcks_all, List.all_append, ← Sm.lcks_all, ← Sm.lcks_all, h.lck, g.lck]; rfl
  · rw [wAll_app]
    have h1 := h.wgt f k hf hk
    have h2 := g.wgt f (wAll f l k) hf (wAll_nn f l k hk)
    omega
theorem Ql.up {n w z c : Nat} {la : List Int} {l : List Sm} (h : Ql n w z c la l) : Ql (n + 1) w z c la l :=
  ⟨fun s hs => mdS_mono n s (h.md s hs), fun sp hsp => h.txt sp (by omega), h.szs, h.nms, h.wds, h.lbs, h.lck, fun f m hf hm => h.wgt f m (by omega) hm⟩
theorem Ql.mono {n w z c w' z' c' : Nat} {la : List Int} {l : List Sm} (h : Ql n w z c la l) (hw : w ≤ w') (hz : z ≤ z') (hc : c ≤ c') : Ql n w' z' c' la l :=
  ⟨h.md, fun sp hsp => Nat.le_trans (h.txt sp hsp) hz, Nat.le_trans h.szs hc, h.nms, h.wds, h.lbs, h.lck, fun f m hf hm => by have := h.wgt f m hf hm; omega⟩
theorem VS_ok {s : ByteArray} (h : s ∈ VS) : nmOk s ∧ s.size = 1 ∧ hasB VS s = true := by
  simp only [List.mem_cons, List.not_mem_nil, or_false] at h
  rcases h with rfl | rfl | rfl <;> exact ⟨nmOk_lit (by decide +kernel), by decide, by decide +kernel⟩
theorem one_le (f : Nat) (s : Sm) (m : Int) : wAll f [s] m ≤ m + wOne f s := by rw [wAll, wAll]; exact lim_le _
theorem Ql.set {v : ByteArray} {x : T} (n : Nat) (hv : v ∈ VS) (hx : Ez x) : Ql (n + 1) 6 66 1 [] [.mk 1 v [] [x] 0 0 [] []] := by
  have hv := VS_ok hv
  refine ⟨fun s hs => ?_, fun sp hsp => ?_, by simp [Sm.szs, Sm.sz], ?_, ?_, rfl, fun hd => ?_, fun f m hf hm => ?_⟩
  · rw [List.mem_singleton.1 hs]; exact .inl ⟨v, x, hv.1, hx.fm, rfl⟩
  · rw [stsT, stsT, stT_leaf sp (.inl rfl), ByteArray.size_append, ByteArray.size_append]
    have := hx.txt
    simp only [hdT, Sm.kind, Sm.name, Sm.value, tx1, if_true, ByteArray.size_append, show Kst.size = 3 from rfl, show Knl.size = 1 from rfl, ba_lit, List.length_nil]
    omega
  · simp [Sm.nmss, Sm.nms, hv.2.2, hx.use]
  · simp [Sm.wdss, Sm.wds, hx.wd]
  · simp [Sm.lcks, Sm.lck, hx.fr]
  · obtain ⟨g, rfl⟩ : ∃ g, f = g + 1 := ⟨f - 1, by omega⟩
    refine Int.le_trans (one_le _ _ _) ?_
    rw [wOne, if_pos (.inl rfl)]
    have h1 := lim_le (1 + wPartsL (Sm.mk 1 v [] [x] 0 0 [] []).index 20 0 + wPartsL (Sm.mk 1 v [] [x] 0 0 [] []).value 20 0)
    have h2 : wPartsL (Sm.mk 1 v [] [x] 0 0 [] []).index 20 0 = 0 := rfl
    have h3 : wPartsL (Sm.mk 1 v [] [x] 0 0 [] []).value 20 0 = wPartsL [x] 20 0 := rfl
    have := hx.wp
    omega
/-- The same values, by every name. -/
def VEq (V V' : List (ByteArray × Int)) : Prop := ∀ s, (aget V s).getD 0 = (aget V' s).getD 0
theorem VEq.set {V V' : List (ByteArray × Int)} (h : VEq V V') (k : ByteArray) (v : Int) : VEq (aset V k v) (aset V' k v) := fun s => by
  rw [aget_aset, aget_aset]
  split
  · rfl
  · exact h s
def litX (n : Int) : T := if n > -2147483648 then .nu n else .bn 2 (.nu (n + 1)) (.nu 1)
def litS (s : ByteArray) (n : Int) : Sm := .mk 1 s [] [litX n] 0 0 [] []
def lits (V : List (ByteArray × Int)) (n : Nat) : List Sm := (VS.take n).map (fun s => litS s ((aget V s).getD 0))
end Go.Proofs.YtalkkcfojplmdaaGreatDoor
end

section
namespace Go.Vc
open Go.RowKit
def SLes : List S → List S → Prop
  | [], [] => True
  | s :: ss, t :: tt => SLe s t ∧ SLes ss tt
  | _, _ => False
theorem sles_ok {w : World} {A : Nat → Prop} : ∀ {ss tt : List S}, SLes ss tt → ∀ vs, SOks w A ss vs → SOks w A tt vs
  | [], [], _, _, h => h
  | s :: ss, t :: tt, hh, vs, h => by
    obtain ⟨v, r, rfl, h1, h2⟩ := h
    exact ⟨v, r, rfl, hh.1 _ _ _ h1, sles_ok hh.2 r h2⟩
  | [], _ :: _, hh, _, _ => hh.elim
  | _ :: _, [], hh, _, _ => hh.elim
theorem con_args {P : Program} [Gl P] {f : FuncId} {ss ss' : List S} {Hin : List Ch} {post : (S → List Ch → Prop) → Prop} (con : Con P f ss Hin post) (h : SLes ss' ss) : Con P f ss' Hin post :=
  fun vs w A h1 h2 h3 h4 h5 h6 => con vs w A h1 h2 h3 (sles_ok h vs h4) h5 h6
section
variable {P : Program} [Gl P] {nt : Nat} {c : Cx P nt} {env : Env} {H Hr : List Ch} {L : List (Nat × List Value × TypeId)} {t ty : TypeId} {pos : String} {af : Array Edge} {x : Operand}
end
section
variable {P : Program} [Gl P] {nt : Nat} {c : Cx P nt} {env : Env} {H Hr : List Ch} {K : S → List Ch → Prop}
end
section
variable {P : Program} [Gl P] {nt : Nat} {c : Cx P nt} {env : Env} {H Hr : List Ch} {ops : Array Oper} {Q : Exit → Act → World → Prop} {Sw : World → Prop}
variable {m fuel : Nat} {listed : Array Bool} {i j d : Nat} {op : Op} {ty : TypeId} {pos : String} {af : Array Edge} {want b : Bool}
end
section
variable {P : Program} [Gl P] {nt : Nat} {c : Cx P nt} {env : Env} {H : List Ch} {Sw : World → Prop} {t ty : TypeId} {pos : String} {af : Array Edge} {x y : Operand} {d : Option Tmp}
end
end Go.Vc
end

section
namespace Go.Proofs.YtalkkcfojplmdaaGreatDoor
open Go.Vc
attribute [local irreducible] JL JC JQ OpWp Con ConN HOk
set_option maxHeartbeats 4000000

abbrev Ni : ByteArray := ⟨#[105]⟩
def cntP : Pg := ⟨[], [], [⟨Nt, 9, 9, 1, 0, [], [Ni], [], [], [], [.mk 1 Ni [] [.nu 0] 0 0 [] [], .mk 4 E0 [] [.bn 11 (.nm Ni) (.nu 3)] 2 1 [.mk 1 Ni [] [.bn 1 (.nm Ni) (.nu 1)] 0 0 [] []] []]⟩]⟩
theorem cnt_ok : PgOk cntP := by
  refine ⟨⟨by decide, by decide, by decide, fun t ht => ?_⟩, fun t ht => ?_⟩
  · rw [List.mem_singleton.1 ht]
    exact ⟨by decide, by decide, by decide, by decide, by decide, by decide⟩
  · rw [List.mem_singleton.1 ht]
    exact ⟨⟨by decide, by decide, trivial, trivial⟩, ⟨by decide, by decide, ⟨⟨by decide, by decide, trivial, trivial⟩, trivial⟩, trivial⟩, trivial⟩
def cntO : Out := ⟨[2], [], [], [1, 0, 0, 1, 2, 1, 0, 0, 0, 0, 0, 0, 0, 0, 0, 0, 0, 0, 0, 0, 0, 0, 0, 0, 0, 0, 0, 0, 0, 0, 0, 0, 0, 0, 0, 0, 0, 0, 0], 5⟩
theorem cnt_w : wAll 20 (cntP.tasks[0]'(by decide)).body 0 ≤ 2000 := by
  show wAll 20 [.mk 1 Ni [] [.nu 0] 0 0 [] [], .mk 4 E0 [] [.bn 11 (.nm Ni) (.nu 3)] 2 1 [.mk 1 Ni [] [.bn 1 (.nm Ni) (.nu 1)] 0 0 [] []] []] 0 ≤ 2000
  simp [wAll, wOne, wPartsL, wParts, wP, T.args, Sm.kind, Sm.index, Sm.value, Sm.thn, Sm.max, lim]
  decide
theorem cnt_ck : ckF cntP = 0 := ck_right (by decide +kernel) (by decide +kernel) (by decide +kernel) ⟨by decide +kernel, by decide +kernel, by decide +kernel, fun t ht => by rw [List.mem_singleton.1 ht]; decide +kernel, fun t ht => by rw [List.mem_singleton.1 ht]; decide +kernel, fun t ht => by rw [List.mem_singleton.1 ht]; exact cnt_w⟩
theorem cnt_runO : runO cntP (cntP.tasks[0]'(by decide)) [] [] = cntO := by kernel_rfl
theorem cnt_run : runF cntP 0 [] [] = (cntO, 0) := by
  have h := runF_in (p := cntP) (k := 0) cnt_ck (by decide) (ins := []) (ss := []) rfl rfl
  rw [cnt_runO] at h
  exact h
theorem cnt_rn : ckF cntP = 0 → ∀ t ∈ cntP.tasks, Rn cntP t := fun h t ht => rn_of h ht (by rw [List.mem_singleton.1 ht]; decide) (by decide)
theorem counting_c : Con Tryz.prog 65 [] [] (fun K => K (.row cntP.row) []) := by
  refine con_intro Tryz.func65 rfl rfl (Nat.le_of_ble_eq_true rfl) (fun c hc => R_ (o_ r_ (bl_ r_ r_ (fun bl => T_ (R_ (o_ r_ (bm_ r_ (gName_c _) (o_ r_ (bl_ r_ r_ (fun bl => S_ 0 r_ (T_ (am_ (jc_anyB 12 (some 11) rfl k_ k_ (aa_ (fun c => bs_ 0 r_ r_ r_ r_ p_) (aa_ (fun c => bm_ r_ (gNum_c _) p_) (aa_ (fun c => bm_ r_ (gBin_c _ _ _) p_) (aa_ (fun c => bq_ r_ r_ b_ r_ r_ b_ p_) ?_)))))))))))))))))
  refine aa_ (fun c => bs_ 0 r_ r_ r_ r_ p_) (aa_ (fun c => bm_ r_ (gNum_c _) p_) (aa_ (fun c => bm_ r_ (gBin_c _ _ _) p_) (aa_ (fun c => bq_ r_ r_ b_ r_ r_ b_ p_) (aa_ (fun c => bu_ r_ r_ r_ r_ r_ p_) (aa_ (fun c => bq_ r_ r_ b_ r_ r_ b_ p_) (aa_ (fun c => bu_ r_ r_ r_ r_ r_ p_) (af_ (ae_ (afin_some rfl rfl rfl (fun bl => S_ 0 r_ (T_ (am_ (jc_anyB 9 none rfl k_ k_ (aa_ (fun c => bq_ r_ r_ b_ r_ r_ b_ p_) ?_))))))))))))))
  refine aa_ (fun c => bm_ r_ (gNum_c _) p_) (aa_ (fun c => bq_ r_ r_ b_ r_ r_ b_ p_) (aa_ (fun c => bu_ r_ r_ r_ r_ r_ p_) (aa_ (fun c => bs_ 0 r_ r_ r_ r_ p_) (aa_ (fun c => bq_ r_ r_ b_ r_ r_ b_ p_) (aa_ (fun c => bu_ r_ r_ r_ r_ r_ p_) (aa_ (fun c => bq_ r_ r_ b_ r_ r_ b_ p_) (aa_ (fun c => bu_ r_ r_ r_ r_ r_ p_) (ae_ (afin_none (S_ 2 r_ (T_ (ar_ (jq_row 0 cntP.row rfl ?_ ?_)))))))))))))
  · (repeat (first | exact RowLe.nil | exact RowsLe.nil | exact CLe.nil | exact CLe.refl _ | refine RowLe.cons ?_ ?_ | refine RowsLe.cons ?_ ?_ | refine CLe.list ?_))
  · refine jq_retRow rfl rfl rfl rfl 0 rfl [] rfl (fun K h => h)
theorem awake6_c : Con Tryz.prog 27 [] [] (fun K => K (Bl true) []) := by
  have hE := con_args (ss' := [.row cntP.row, In .i64 0, .cell (.val (.slice none 0 0)), .cell (.val (.slice none 0 0))]) (eRun_c cntP cnt_ok cnt_rn 0 [] []) ⟨SLe.row (RowLe.refl _), SLe.cell (CLe.refl _), SLe.cell CLe.nil, SLe.cell CLe.nil, trivial⟩
  rw [cnt_run] at hE
  refine con_intro Tryz.func27 rfl rfl (Nat.le_of_ble_eq_true rfl) (fun c hc => R_ (E_ r_ (T_ (R_ (o_ r_ (bm_ r_ (counting_c) (o_ r_ (bm_ r_ (hE) (M_ r_ (X_ r_ (X_ r_ (o_ r_ (bl_ r_ r_ (fun bl => S_ 0 r_ (E_ r_ (T_ (R_ (M_ r_ ?_))))))))))))))))))
  refine o_ r_ (bn_ r_ r_ (M_ r_ (ah_ r_ r_ b_ (bf_ r_ r_ r_ b_ (ah_ r_ r_ b_ (bg_ 0 r_ r_ r_ r_ (ah_ r_ r_ b_ (br_ r_ (fun hlen => ah_ r_ r_ b_ (bn_ r_ r_ (o_ r_ (bp_ r_ x_ r_ (M_ r_ (ah_ r_ r_ b_ (bf_ r_ r_ r_ b_ (ah_ r_ r_ b_ (bg_ 0 r_ r_ r_ r_ (ah_ r_ r_ b_ (ow_indexAddr r_ r_ g_ r_ r_ b_ (ah_ r_ r_ b_ (cb_ r_ r_ (ah_ r_ r_ b_ (bn_ r_ r_ (o_ r_ (bp_ r_ x_ r_ (M_ r_ ?_))))))))))))))))))))))))))
  refine ah_ r_ r_ b_ (bf_ r_ r_ r_ b_ (ah_ r_ r_ b_ (bg_ 0 r_ r_ r_ r_ (ah_ r_ r_ b_ (br_ r_ (fun hlen => ah_ r_ r_ b_ (bn_ r_ r_ (o_ r_ (bp_ r_ x_ r_ (M_ r_ (ah_ r_ r_ b_ (bf_ r_ r_ r_ b_ (ah_ r_ r_ b_ (bg_ 0 r_ r_ r_ r_ (ah_ r_ r_ b_ (ow_indexAddr r_ r_ g_ r_ r_ b_ (ah_ r_ r_ b_ (cb_ r_ r_ (ah_ r_ r_ b_ (bn_ r_ r_ (o_ r_ (bp_ r_ x_ r_ (M_ r_ (ah_ r_ r_ b_ (bf_ r_ r_ r_ b_ ?_)))))))))))))))))))))))))
  refine ah_ r_ r_ b_ (bg_ 0 r_ r_ r_ r_ (ah_ r_ r_ b_ (ow_indexAddr r_ r_ g_ r_ r_ b_ (ah_ r_ r_ b_ (cb_ r_ r_ (ah_ r_ r_ b_ (bn_ r_ r_ (o_ r_ (bp_ r_ x_ r_ (M_ r_ (ah_ r_ r_ b_ (bf_ r_ r_ r_ b_ (ah_ r_ r_ b_ (bg_ 0 r_ r_ r_ r_ (ah_ r_ r_ b_ (ow_indexAddr r_ r_ g_ r_ r_ b_ (ah_ r_ r_ b_ (cb_ r_ r_ (ah_ r_ r_ b_ (bn_ r_ r_ (o_ r_ (bp_ r_ x_ r_ (M_ r_ (ah_ r_ r_ b_ (bf_ r_ r_ r_ b_ ?_)))))))))))))))))))))))))
  refine ah_ r_ r_ b_ (bg_ 0 r_ r_ r_ r_ (ah_ r_ r_ b_ (bn_ r_ r_ (o_ r_ (bp_ r_ x_ r_ (E_ r_ (T_ (ar_ (jq_ret1 rfl rfl [] rfl (fun K h => h))))))))))
end Go.Proofs.YtalkkcfojplmdaaGreatDoor
end

section
namespace Go.Vc
open Go.RowKit
section
variable {P : Program} [Gl P] {nt : Nat} {c : Cx P nt} {env : Env} {H Hr : List Ch} {Q : Exit → Act → World → Prop} {K : S → List Ch → Prop}
theorem SLe.both {v : Value} {c0 : C} : SLe (.cell (.both v c0)) (.cell (.val v)) := fun _ _ _ h => ⟨h.1, h.1 ▸ rd1_one c0 _ h.2⟩
theorem jc_both {code : Code} (i : Nat) {c0 : C} (hi : env.lookup i = some (.cell c0)) (h : ∀ v, v.oneCell' = true → JC c code Q ((i, .cell (.both v c0)) :: env) H) : JC c code Q env H := by
  intro a w hs
  have h1 := hs.slots i _ hi
  refine h (a.tmps.getD i undef) (rd1_one c0 _ h1) a w ⟨hs.size, hs.defers, ?_, hs.heap⟩
  intro t s hl
  rcases lookup_cons hl with ⟨rfl, rfl⟩ | ⟨_, hl⟩
  · exact ⟨rfl, h1⟩
  · exact hs.slots t s hl
theorem ow_sle {o : Oper} (i : Nat) {s s' : S} (hi : env.lookup i = some s) (hs : SLe s s') (h : OpWp c o ((i, s') :: env) H K) : OpWp c o env H K :=
  fun a w hst next Q hn => h a w (st_sle hst hi hs) next Q hn
/-- Slots that hold values of which so much is known. -/
def KnowQ (env : Env) : List Nat → List Value → List C → Prop
  | [], [], [] => True
  | q :: qs, v :: vs, c :: cs => env.lookup q = some (.cell (.both v c)) ∧ KnowQ env qs vs cs
  | _, _, _ => False
theorem knowQ_rd {a : Act} {w : World} (hs : St c env H a w) {A : Nat → Prop} (hA : ∀ s v, SOk w (c.av H) s v → SOk w A s v) : ∀ {qs : List Nat} {vs : List Value} {cs : List C}, KnowQ env qs vs cs → RdRow w A cs vs
  | [], [], [], _ => rfl
  | q :: qs, v :: vs, c0 :: cs, h => by
    have h1 := hA (.cell (.both v c0)) _ (hs.slots q _ h.1)
    obtain ⟨e, h2⟩ := h1
    exact ⟨v, vs, rfl, e ▸ h2, knowQ_rd hs hA h.2⟩
  | [], _ :: _, _, h => h.elim
  | [], [], _ :: _, h => h.elim
  | _ :: _, [], _, h => h.elim
  | _ :: _, _ :: _, [], h => h.elim
theorem jc_freezeMR {code : Code} (i j : Nat) (qs : List Nat) {b : Nat} {es : List (Value × Value)} {ks : List Value} {cs : List C} (hi : env.lookup i = some (.cell (.val (.map (some b))))) (hp : pick [j] H = some ([.mapc b es], Hr)) (hb' : c.B.heap.size ≤ b)
    (hk : es.map (·.1) = ks) (hq : KnowQ env qs (es.map (·.2)) cs) (h : JC c code Q ((i, .cell (.mapR ks cs)) :: env) Hr) : JC c code Q env H := by
  intro a w hs
  have h1 := hs.perm (pick_perm hp)
  have h2 : St c env Hr a w := h1.drop
  have h3 := st_freezeM hs hi hp hb'
  have hA : ∀ s v, SOk w (c.av H) s v → SOk w (c.av Hr) s v := fun s v hv => by
    have := (hs.heap.perm (pick_perm hp)).drop.2 s v
    rw [av_perm c (pick_perm hp)] at this
    exact this hv
  have hr := knowQ_rd hs hA hq
  refine h a w ⟨h2.size, h2.defers, ?_, h2.heap⟩
  intro t s hl
  rcases lookup_cons hl with ⟨rfl, rfl⟩ | ⟨_, hl⟩
  · have h4 : SOk w (c.av Hr) (.cell (.map es)) (a.tmps.getD t undef) := h3.slots t _ (by rw [List.lookup_cons]; simp)
    obtain ⟨b', ents, clock, e, hnb, hh, he⟩ := h4
    refine ⟨b', ents, clock, e, hnb, hh, ?_, ?_⟩
    · rw [← hk, ← he, List.map_map]; rfl
    · have e2 : ents.toList.map (fun e => e.val) = es.map (·.2) := by rw [← he, List.map_map]; rfl
      rw [e2]
      exact hr
  · exact h2.slots t s hl
theorem jc_freezeM {code : Code} (i j : Nat) {b : Nat} {es : List (Value × Value)} (hi : env.lookup i = some (.cell (.val (.map (some b))))) (hp : pick [j] H = some ([.mapc b es], Hr)) (hb' : c.B.heap.size ≤ b)
    (h : JC c code Q ((i, .cell (.map es)) :: env) Hr) : JC c code Q env H := fun a w hs => h a w (st_freezeM hs hi hp hb')
end
end Go.Vc
end

section
namespace Go.Proofs.YtalkkcfojplmdaaGreatDoor
open Go.Vc
attribute [local irreducible] JL JC JQ OpWp Con ConN HOk
attribute [local irreducible] StG BlG evF
set_option maxHeartbeats 4000000

abbrev Nx : ByteArray := ⟨#[120]⟩
abbrev Ny : ByteArray := ⟨#[121]⟩
abbrev Nk : ByteArray := ⟨#[107]⟩
abbrev Nn : ByteArray := ⟨#[110]⟩
abbrev Abuf : ByteArray := ⟨#[98, 117, 102]⟩
abbrev Aa : ByteArray := ⟨#[97]⟩
def exV (x y i k n : Int) : List (ByteArray × Int) := aset (aset (aset (aset (aset [] Nx x) Ny y) Ni i) Nk k) Nn n
def exA (a b : List Int) : List (ByteArray × List Int) := [(Aa, a), (Abuf, b)]
theorem exA_small {a b : List Int} (ha : a.length ≤ 1000) (hb : b.length ≤ 1000) : smallA (exA a b) := by
  intro s
  unfold exA
  rw [aget, aget, aget]
  split
  · show a.length ≤ _; omega
  · split
    · show b.length ≤ _; omega
    · show 0 ≤ _; omega
theorem EvalExprs_c (L : List Int) (hL : InR L) (x y i k n : Int) (hx : -2147483648 ≤ x ∧ x ≤ 2147483647) (hy : -2147483648 ≤ y ∧ y ≤ 2147483647) (hi : -2147483648 ≤ i ∧ i ≤ 2147483647) (hk : -2147483648 ≤ k ∧ k ≤ 2147483647) (hn : -2147483648 ≤ n ∧ n ≤ 2147483647) (a b : List Int) (hal : a.length ≤ 17592186044416) (hbl : b.length ≤ 17592186044416) :
    Con Tryz.prog 7 [.cell (.list (L.map Irow)), In .i32 x, In .i32 y, In .i32 i, In .i32 k, In .i32 n, .cell (.list (a.map Irow)), .cell (.list (b.map Irow))] [] (fun K => K (Bl true) []) := by
  have ha := awake6_c
  have eA : (a.map Irow).length = a.length := List.length_map _
  have eB : (b.map Irow).length = b.length := List.length_map _
  refine con_intro Tryz.func7 rfl rfl (Nat.le_of_ble_eq_true rfl) (fun c hc => ?_)
  by_cases hLn : L.length ≤ 400
  · have hd : (!decide (L.length ≤ 400)) = false := by simp [hLn]
    have hd2 : ¬ ¬ L.length ≤ 400 := fun h => h hLn
    by_cases hab : a.length + b.length > 100
    · have hab2 : ((a.map Irow).length : Int) + ((b.map Irow).length : Int) > 100 := by omega
      refine R_ (E_ r_ (T_ (am_ (R_ (M_ r_ (o_ r_ (bm_ r_ (gFew_c _) (o_ r_ (ce_ r_ (M_ r_ (ah_ r_ w_ b_ (bd_ r_ (ah_ r_ w_ b_ (br_ r_ (fun hlen => ah_ r_ w_ b_ (bd_ r_ (ah_ r_ w_ b_ (br_ r_ (fun hlen => ah_ r_ w_ b_ (bj_ r_ r_ g_ (ah_ r_ w_ b_ (bz_ r_ r_ (o_ r_ (bv_ r_ w_ r_ ?_))))))))))))))))))))))))
      refine T_ (aq_ r_ u_ (R_ (o_ r_ (bm_ r_ (ha) (E_ r_ (T_ (ar_ (aw_ (jq_ret1 rfl rfl [] rfl (fun K h => h))))))))))
    have hab2 : ¬ ((a.map Irow).length : Int) + ((b.map Irow).length : Int) > 100 := by omega
    refine R_ (E_ r_ (T_ (am_ (R_ (M_ r_ (o_ r_ (bm_ r_ (gFew_c _) (o_ r_ (ce_ r_ (M_ r_ (ah_ r_ w_ b_ (bd_ r_ (ah_ r_ w_ b_ (br_ r_ (fun hlen => ah_ r_ w_ b_ (bd_ r_ (ah_ r_ w_ b_ (br_ r_ (fun hlen => ah_ r_ w_ b_ (bj_ r_ r_ g_ (ah_ r_ w_ b_ (bz_ r_ r_ (o_ r_ (bv_ r_ w_ r_ ?_))))))))))))))))))))))))
    refine T_ (ap_ r_ w_ (as_ (al_ (R_ (M_ r_ (o_ r_ (bt_ [] rfl rfl (gNewT_c L) (fun bd hbd => ?_))))))))
    skip
    refine o_ r_ (bt_ [0] rfl rfl (gProgram_c hL hLn 1) (fun p hp => ?_))
    have hp : PgG 1 300 p := hp
    have hlen := hp.len
    have h0 : 0 < p.tasks.length := by omega
    have hrow0 : (p.tasks.map Tk.row)[0]? = some (p.tasks[0]).row := by rw [List.getElem?_map, List.getElem?_eq_getElem h0]; rfl
    generalize p.tasks[0] = t at *
    clear hp hlen
    refine o_ r_ (bl_ r_ r_ (fun bl => S_ 0 r_ (T_ (R_ (o_ r_ (ow_makeMapE ByteArray Int (Value.int .i64) (fun bv hbv => M_ r_ (o_ r_ (ow_convI64 r_ r_ r_ g_ (ag_ (ow_mapIns (κ := ByteArray) (vv := Value.int .i64) (M := []) 0 r_ r_ r_ r_ r_ (M_ r_ (o_ r_ (ow_convI64 r_ r_ r_ g_ (ag_ (ow_mapIns (κ := ByteArray) (vv := Value.int .i64) (M := aset [] Nx x) 0 r_ r_ r_ r_ r_ (M_ r_ ?_)))))))))))))))))
    refine o_ r_ (ow_convI64 r_ r_ r_ g_ (ag_ (ow_mapIns (κ := ByteArray) (vv := Value.int .i64) (M := aset (aset [] Nx x) Ny y) 0 r_ r_ r_ r_ r_ (M_ r_ (o_ r_ (ow_convI64 r_ r_ r_ g_ (ag_ (ow_mapIns (κ := ByteArray) (vv := Value.int .i64) (M := aset (aset (aset [] Nx x) Ny y) Ni i) 0 r_ r_ r_ r_ r_ (M_ r_ (o_ r_ (ow_convI64 r_ r_ r_ g_ ?_)))))))))))
    refine ag_ (ow_mapIns (κ := ByteArray) (vv := Value.int .i64) (M := aset (aset (aset (aset [] Nx x) Ny y) Ni i) Nk k) 0 r_ r_ r_ r_ r_ (M_ r_ (E_ r_ (T_ (am_ ?_)))))
    generalize bl = bp at *
    refine jc_freezeM (es := mapE (Value.int .i64) (exV x y i k n)) 18 0 rfl rfl hbv (jc_both 6 rfl (fun wa hwa => jc_both 7 rfl (fun wb hwb => an_ (o_ r_ (ow_makeMapE ByteArray Value (fun v : Value => v) (fun bA hbA => M_ r_ (ag_ (ow_sle 51 rfl SLe.both (ow_mapIns (κ := ByteArray) (vv := fun v : Value => v) (M := []) 0 rfl rfl rfl rfl rfl (M_ r_ ?_))))))))))
    refine ag_ (ow_sle 52 rfl SLe.both (ow_mapIns (κ := ByteArray) (vv := fun v : Value => v) (M := aset [] Aa wa) 0 rfl rfl rfl rfl rfl (M_ r_ (E_ r_ (T_ (am_ (am_ (jc_freezeMR (es := mapE (fun v : Value => v) (aset (aset [] Aa wa) Abuf wb)) (ks := (exA a b).map (fun e => KY.v e.1)) (cs := (exA a b).map (fun e => .list (e.2.map Irow))) 19 0 [6, 7] rfl rfl hbA rfl ⟨rfl, rfl, trivial⟩ ?_))))))))
    have hsm := exA_small (a := a) (b := b) (by omega) (by omega)
    have hP := pEExpr_c (exV x y i k n) (exA a b) hsm
    have hR := rExpr6_c (exV x y i k n) (exA a b) hsm
    generalize exV x y i k n = V at *
    generalize exA a b = A at *
    refine an_ (E_ r_ (T_ (au_ (jc_loopS (ι := Nat) [] (fun i => i ≤ (t.body).length) (fun i => (20, In .i64 (i : Int)) :: [(17, Ptr bp), (18, VMp V), (19, AMp A)]) (fun i => [.blk bp 31 p.row]) (fun i => (t.body).length - i) 0 (Nat.zero_le _) ?_ ?_ ?_))))
    · exact bc_ 0 r_ sub_end
    · (repeat (first | exact True.intro | refine ⟨rfl, ?_⟩))
    rintro i hi
    have eLi : ((t.body).map Sm.row).length = (t.body).length := List.length_map _
    by_cases hlti : i < (t.body).length
    · have hlti2 : (i : Int) < (((t.body).map Sm.row).length : Int) := by omega
      refine am_ (R_ (M_ r_ (F_ r_ (L_ 0 r_ (o_ r_ (ow_indexAddrN 0 r_ r_ r_ hrow0 r_ b_ (o_ r_ (cf_ r_ r_ r_ b_ r_ b_ (o_ r_ (cb_ r_ r_ (o_ r_ (br_ r_ (fun hlen => o_ r_ (bw_ r_ r_ (T_ (aq_ r_ u_ (as_ (al_ (B_ (R_ ?_))))))))))))))))))))
      refine F_ r_ (L_ 0 r_ (o_ r_ (ow_indexAddrN 0 r_ r_ r_ hrow0 r_ b_ (o_ r_ (cf_ r_ r_ r_ b_ r_ b_ (o_ r_ (cb_ r_ r_ (M_ r_ (o_ r_ (cc_ r_ r_ g_ (Sm.row_eq _) r_ b_ (o_ r_ (cf_ r_ r_ r_ b_ r_ b_ (o_ r_ (cb_ r_ r_ (E_ r_ (T_ (R_ (E_ r_ (T_ (au_ ?_))))))))))))))))))))
      refine jc_loopS (ι := Nat) [] (fun j => j ≤ ((t.body[i]).value).length) (fun j => (22, In .i64 (j : Int)) :: (20, In .i64 (i : Int)) :: (21, .cell (.list ((t.body[i]).value.map T.row))) :: [(17, Ptr bp), (18, VMp V), (19, AMp A)]) (fun j => [.blk bp 31 p.row]) (fun j => ((t.body[i]).value).length - j) 0 (Nat.zero_le _) ?_ ?_ ?_
      · exact bc_ 0 r_ sub_end
      · (repeat (first | exact True.intro | refine ⟨rfl, ?_⟩))
      rintro j hj
      have eLj : (((t.body[i]).value).map T.row).length = ((t.body[i]).value).length := List.length_map _
      by_cases hltj : j < ((t.body[i]).value).length
      · have hltj2 : (j : Int) < ((((t.body[i]).value).map T.row).length : Int) := by omega
        have hP := hP ((t.body[i]).value)[j]
        have hR := hR ((t.body[i]).value)[j]
        refine am_ (R_ (M_ r_ (M_ r_ (o_ r_ (br_ r_ (fun hlen => o_ r_ (bw_ r_ r_ (T_ (aq_ r_ u_ (as_ (al_ (B_ (am_ (ao_ r_ r_ k_ k_ (yM_ r_ (yM_ r_ (aa_ (fun c => cc_ r_ r_ g_ (T.row_eq _) r_ b_ p_) ?_)))))))))))))))))
        refine aa_ (fun c => cr_ r_ r_ r_ p_) (yM_ r_ (yM_ r_ (aa_ (fun c => bm_ r_ (hP) p_) (yM_ r_ (yM_ r_ (aa_ (fun c => cc_ r_ r_ g_ (T.row_eq _) r_ b_ p_) (aa_ (fun c => cr_ r_ r_ r_ p_) (yM_ r_ (yM_ r_ (aa_ (fun c => bm_ r_ (hR) p_) (aa_ (fun c => bx_ r_ r_ p_) (ae_ (al_ (ap_ r_ v_ (as_ ?_)))))))))))))))
        refine ay_ (al_ (an_ (M_ r_ (o_ r_ (bj_ r_ r_ g_ (E_ r_ (ak_ (jq_againS (i := j) (j + 1) hltj g_ ?_ ?_))))))))
        · exact bc_ 0 r_ sub_end
        · (repeat (first | exact True.intro | refine ⟨rfl, ?_⟩))
      · have hltj2 : ¬ (j : Int) < ((((t.body[i]).value).map T.row).length : Int) := by omega
        refine am_ (R_ (M_ r_ (M_ r_ (o_ r_ (br_ r_ (fun hlen => o_ r_ (bw_ r_ r_ (T_ (ap_ r_ w_ (av_ (ax_ (ax_ (ba_ (ay_ (al_ (an_ (M_ r_ ?_)))))))))))))))))
        refine o_ r_ (bj_ r_ r_ g_ (E_ r_ (ak_ (jq_againS (i := i) (i + 1) hlti g_ ?_ ?_))))
        · exact bc_ 0 r_ sub_end
        · (repeat (first | exact True.intro | refine ⟨rfl, ?_⟩))
    · have hlti2 : ¬ (i : Int) < (((t.body).map Sm.row).length : Int) := by omega
      refine am_ (R_ (M_ r_ (F_ r_ (L_ 0 r_ (o_ r_ (ow_indexAddrN 0 r_ r_ r_ hrow0 r_ b_ (o_ r_ (cf_ r_ r_ r_ b_ r_ b_ (o_ r_ (cb_ r_ r_ (o_ r_ (br_ r_ (fun hlen => o_ r_ (bw_ r_ r_ (T_ (ap_ r_ w_ (av_ (ax_ (ax_ (ba_ ?_))))))))))))))))))))
      refine al_ (R_ (o_ r_ (bm_ r_ (ha) (E_ r_ (T_ (ar_ (jq_ret1 rfl rfl [] rfl (fun K h => h))))))))
  · have hd : (!decide (L.length ≤ 400)) = true := by simp [hLn]
    have hd2 : ¬ L.length ≤ 400 := hLn
    refine R_ (E_ r_ (T_ (am_ (R_ (M_ r_ (o_ r_ (bm_ r_ (gFew_c _) (o_ r_ (ce_ r_ (M_ r_ (ai_ r_ u_ b_ (ai_ r_ u_ b_ (ai_ r_ u_ b_ (ai_ r_ u_ b_ (ai_ r_ u_ b_ (ai_ r_ u_ b_ (o_ r_ (bp_ r_ u_ r_ ?_))))))))))))))))))
    refine T_ (aq_ r_ r_ (R_ (o_ r_ (bm_ r_ (ha) (E_ r_ (T_ (ar_ (aw_ (jq_ret1 rfl rfl [] rfl (fun K h => h))))))))))
end Go.Proofs.YtalkkcfojplmdaaGreatDoor
end

section
namespace Go.Vc
open Go.RowKit Go.ChangeShapes Go.WideShapes

section
variable {H : Type} {enc : TypeId × Value → H} {P : Program}

/-- Arguments read as they did. -/
theorem args_stay (hl : laidOutB P = true) {W W' : World} (hb : Below W.heap.size W W') : ∀ {ts : List TypeId} {vs : List Value} {ds : List (DataW H)} {ps : List MemPlace}, ts.all (fun t => P.readableRec t && decide (t < P.types.size)) = true →
    DataW.TrodAll enc P W 0 (fun _ => true) true ts vs ds ps → (∀ p ∈ ps, p.block < W.heap.size) → DataW.TrodAll enc P W' 0 (fun b => decide (b < W.heap.size)) true ts vs ds ps
  | [], vs, ds, ps, _, h, _ => by
    obtain ⟨rfl, rfl, rfl⟩ := trodAll_nil h
    rfl
  | t :: ts, vs, ds, ps, hr, h, hlt => by
    simp only [List.all_cons, Bool.and_eq_true, decide_eq_true_eq] at hr
    obtain ⟨⟨h1, h2⟩, h3⟩ := hr
    obtain ⟨v, vr, d, dr, p, q, rfl, rfl, rfl, g1, g2⟩ := trodAll_cons h
    exact ⟨p, q, Below.trod hl h1 h2 g1 hb (fun x hx => hlt x (List.mem_append.2 (.inl hx))), args_stay hl hb h3 g2 (fun x hx => hlt x (List.mem_append.2 (.inr hx))), rfl⟩

/-- What a law's row asks behind the call: true, and each argument reads as it did. -/
theorem law_post {f : Func} {s : ChangeSpec} {W W' : World} {args : Array Value} {ds : List (DataW H)} {before : List MemPlace} {bt : TypeId} (hv : s.vars = []) (hW : DataW.Whole enc P f.params.toList s.vars false W args.toList ds [] before)
    (hr : (s.fn H (ds ++ [])).results = [.lit (.bool true)]) (ha : (s.fn H (ds ++ [])).args = ds) (hg : (s.fn H (ds ++ [])).vars = []) (hrt : f.resultTypes = #[bt]) (hbt : P.underlying bt = some .bool)
    (hl : laidOutB P = true) (hrd : f.params.toList.all (fun t => P.readableRec t && decide (t < P.types.size)) = true) (hb : Below W.heap.size W W') : s.post enc P f false true false false W args (.bool true) W' := by
  have hlt := hW.lt
  have hW' := hW
  obtain ⟨p, q, hA, hV, rfl, _, _⟩ := hW'
  rw [hv] at hV
  obtain ⟨_, rfl⟩ := trodVars_none hV
  refine ⟨ds, [], p ++ [], [], p, [], hW, ?_, ?_, ?_, World.keptBut_mono (fun x hx => ⟨hx, .inr (.inl (by simpa using hx))⟩) (hb.frame (· ∈ p ++ [])), fun h => by cases h⟩
  · rw [hr, hrt]
    exact trodAll_mk1 (shut_bool hbt _)
  · rw [ha]
    exact args_stay hl hb hrd hA (fun x hx => hlt x (by simpa using hx))
  · rw [hg, hv]
    rfl

/-- A slice of integers that came in. -/
theorem rd_ints {W : World} {t e : TypeId} {k : IntKind} (ht : P.underlying t = some (.slice e)) (he : P.underlying e = some (.int k)) (hc : P.cellsOf e = 1) {v : Value} {d : DataW H} {ps : List MemPlace} (hs : ∃ a len cap, v = .slice a len cap)
    (h : DataW.Trod enc P W 0 (fun _ => true) true t v d ps) : ∃ L : List Int, Rd1 W (fun _ => False) (.list (L.map (fun n => [.val (.int k n)]))) v ∧ ∀ n ∈ L, (Lit.int k n).wf = true := by
  obtain ⟨a0, len0, cap0, rfl⟩ := hs
  obtain ⟨fuel, hf⟩ := h
  rcases open_ints ht he hc hf with ⟨hn, _⟩ | ⟨a, len, cap, zs, hcs, _, hle, hcap, hz, _, hcell, hwf⟩
  · simp only [Value.cells, List.cons.injEq, Value.slice.injEq, and_true] at hn
    obtain ⟨rfl, rfl, rfl⟩ := hn
    exact ⟨[], ⟨none, 0, rfl, Nat.le_refl _, Nat.zero_le _, .inl rfl⟩, by simp⟩
  · simp only [Value.cells, List.cons.injEq, Value.slice.injEq, and_true] at hcs
    obtain ⟨rfl, rfl, rfl⟩ := hcs
    simp only [if_true] at hz
    have hlen : (zs.take len0).length = len0 := by simp; omega
    refine ⟨zs.take len0, ⟨some a, cap0, by rw [List.length_map, hlen], by rw [List.length_map, hlen]; exact hle, hcap, ?_⟩, fun n hn => hwf n (List.mem_of_mem_take hn)⟩
    by_cases h0 : len0 = 0
    · exact .inl (by rw [List.length_map, hlen]; exact h0)
    · have h1 := hcell 0 (by omega)
      have hsp : a.spot = none := by simpa [Addr.add] using World.cell?_spot h1
      obtain ⟨b, off, sp⟩ := a
      simp only at hsp
      subst hsp
      refine .inr ⟨b, off, (zs.take len0).map (Value.int k), 1, rfl, id, ?_, Nat.one_pos, ?_⟩
      · intro j u hj
        rw [List.getElem?_map, Option.map_eq_some_iff] at hj
        obtain ⟨z, hz1, rfl⟩ := hj
        rw [List.getElem?_take] at hz1
        split at hz1
        · have hjl : j < zs.length := by omega
          have := hcell j hjl
          rw [add_at] at this
          rw [this]
          congr 2
          rw [List.getD_eq_getElem?_getD, hz1]
          rfl
        · cases hz1
      · generalize zs.take len0 = L
        induction L with
        | nil => rfl
        | cons n L ih => exact ⟨[.int k n], L.map (Value.int k), rfl, rfl, ⟨_, _, rfl, ⟨rfl, rfl⟩, rfl⟩, ih⟩

/-- From a contract to a run. -/
theorem con_run [Gl P] {f : FuncId} {ss : List S} {vs : List Value} {W : World} (con : Con P f ss [] (fun K => K (Bl true) [])) (hs : SOks W (fun _ => False) ss vs) (hgl : Gl.ok P W (fun _ => False) := by exact trivial) : Calls P f vs.toArray W (fun e W' => e = .returned (.bool true) ∧ Below W.heap.size W W') := by
  refine (con vs W (fun _ => False) (fun _ h => h.elim) (by simp [hb]) (by simp [hb]) hs (by simp) hgl).mono ?_
  rintro e W' ⟨v, s, Ho, rfl, hK, hv, _, _, _, hg⟩
  obtain ⟨rfl, rfl⟩ := hK (fun s' H' => s' = Bl true ∧ H' = []) ⟨rfl, rfl⟩
  obtain ⟨rfl, _⟩ := hv
  exact ⟨rfl, hg.os, hg.tape, hg.output, hg.size, fun k hk => hg.block k hk (by simp [hb])⟩
end
end Go.Vc
end

section
namespace Go.Vc
open Go.RowKit Go.ChangeShapes Go.WideShapes
variable {H : Type} {enc : TypeId × Value → H} {P : Program}

/-- As 'rd_ints', with its length told by what was read. -/
theorem rd_intsZ {W : World} {t e : TypeId} {k : IntKind} (ht : P.underlying t = some (.slice e)) (he : P.underlying e = some (.int k)) (hc : P.cellsOf e = 1) {v : Value} {d : DataW H} {ps : List MemPlace} (hs : ∃ a len cap, v = .slice a len cap)
    (h : DataW.Trod enc P W 0 (fun _ => true) true t v d ps) : ∃ L : List Int, Rd1 W (fun _ => False) (.list (L.map (fun n => [.val (.int k n)]))) v ∧ (∀ n ∈ L, (Lit.int k n).wf = true) ∧ (L.length = 0 ∨ ∃ el sp : List (DataW H), d = .slice el sp ∧ el.length = L.length) := by
  obtain ⟨a0, len0, cap0, rfl⟩ := hs
  obtain ⟨fuel, hf⟩ := h
  rcases open_ints ht he hc hf with ⟨hn, _⟩ | ⟨a, len, cap, zs, hcs, _, hle, hcap, hz, hx, hcell, hwf⟩
  · simp only [Value.cells, List.cons.injEq, Value.slice.injEq, and_true] at hn
    obtain ⟨rfl, rfl, rfl⟩ := hn
    exact ⟨[], ⟨none, 0, rfl, Nat.le_refl _, Nat.zero_le _, .inl rfl⟩, by simp, .inl rfl⟩
  · simp only [Value.cells, List.cons.injEq, Value.slice.injEq, and_true] at hcs
    obtain ⟨rfl, rfl, rfl⟩ := hcs
    simp only [if_true] at hz
    have hlen : (zs.take len0).length = len0 := by simp; omega
    refine ⟨zs.take len0, ⟨some a, cap0, by rw [List.length_map, hlen], by rw [List.length_map, hlen]; exact hle, hcap, ?_⟩, fun n hn => hwf n (List.mem_of_mem_take hn), .inr ⟨_, _, congrArg Prod.fst hx, by rw [lits, List.length_map]⟩⟩
    by_cases h0 : len0 = 0
    · exact .inl (by rw [List.length_map, hlen]; exact h0)
    · have h1 := hcell 0 (by omega)
      have hsp : a.spot = none := by simpa [Addr.add] using World.cell?_spot h1
      obtain ⟨b, off, sp⟩ := a
      simp only at hsp
      subst hsp
      refine .inr ⟨b, off, (zs.take len0).map (Value.int k), 1, rfl, id, ?_, Nat.one_pos, ?_⟩
      · intro j u hj
        rw [List.getElem?_map, Option.map_eq_some_iff] at hj
        obtain ⟨z, hz1, rfl⟩ := hj
        rw [List.getElem?_take] at hz1
        split at hz1
        · have hjl : j < zs.length := by omega
          have := hcell j hjl
          rw [add_at] at this
          rw [this]
          congr 2
          rw [List.getD_eq_getElem?_getD, hz1]
          rfl
        · cases hz1
      · generalize zs.take len0 = L
        induction L with
        | nil => rfl
        | cons n L ih => exact ⟨[.int k n], L.map (Value.int k), rfl, rfl, ⟨_, _, rfl, ⟨rfl, rfl⟩, rfl⟩, ih⟩

/-- What came in fits what a process reaches. -/
theorem ints_fit {P : Program} {H : Type} {ts : List TypeId} {ds : List (DataW H)} (h : (DataW.weightsEach P ts ds).all (· ≤ reachBytes) = true) {j : Nat} {t e : TypeId} (ht : ts[j]? = some t) (hu : P.underlying t = some (.slice e)) (hb : P.bytesOf e = 8) {L : List Int} {d : DataW H} (hd : ds[j]? = some d)
    (hl : L.length = 0 ∨ ∃ el sp : List (DataW H), d = .slice el sp ∧ el.length = L.length) : L.length ≤ 17592186044416 := by
  rcases hl with h0 | ⟨el, sp, rfl, hl⟩
  · omega
  · have h1 := sized_slice h ht hd hu
    rw [hb] at h1
    have : reachBytes = 140737488351232 := rfl
    omega
end Go.Vc
end

section
namespace Go.Vc
open Go.ChangeShapes Go.WideShapes Go.ChangeAt Go.RowKit Go.Joins Go.Deep

theorem strs_inj {H : Type} : ∀ {a b : List ByteArray}, (strs a : List (DataW H)) = strs b → a = b
  | [], [], _ => rfl
  | [], _ :: _, h => by simp [strs] at h
  | _ :: _, [], h => by simp [strs] at h
  | x :: a, y :: b, h => by
    simp only [strs, List.map_cons, List.cons.injEq, DataW.lit.injEq, Lit.string.injEq] at h
    have e : x = y := by
      cases x; cases y
      simp only at h
      congr 1
      exact Array.ext' h.1
    subst e
    rw [strs_inj (H := H) (a := a) (b := b) h.2]

section
variable {H : Type} {enc : TypeId × Value → H} {P : Program}
/-- A slice of strings that reads so. -/
theorem rd_strings {W : World} {t e : TypeId} (ht : P.underlying t = some (.slice e)) (he : P.underlying e = some .string) (hc : P.cellsOf e = 1) {cs : List Value} {L : List ByteArray} {ps : List MemPlace} {base : Nat} {sp : Nat → Bool} {held : Bool} {fuel : Nat} (h0 : 0 < L.length)
    (h : DataW.trod enc P W base sp held fuel t cs = some ((.slice (strs L) [] : DataW H), ps)) : ∃ v, cs = [v] ∧ Rd1 W (fun _ => False) (.list (L.map fun s => [.val (.string s)])) v := by
  rcases open_strings ht he hc h with ⟨_, hx⟩ | ⟨a, len, cap, ss, rfl, _, hle, hcap, hz, hx, hcell, _⟩
  · cases hx
  · simp only [Prod.mk.injEq, DataW.slice.injEq] at hx
    have hL : L = ss.take len := strs_inj hx.1.1
    have hlen : L.length = len := by
      rw [hL, List.length_take]
      have : len ≤ ss.length := by rw [hz]; split <;> omega
      omega
    refine ⟨_, rfl, some a, cap, by rw [List.length_map, hlen], by rw [List.length_map, hlen]; exact hle, hcap, ?_⟩
    have hss : len ≤ ss.length := by rw [hz]; split <;> omega
    have h1 := hcell 0 (by omega)
    have hsp : a.spot = none := by simpa [Addr.add] using World.cell?_spot h1
    obtain ⟨b, off, sp⟩ := a
    simp only at hsp
    subst hsp
    refine .inr ⟨b, off, L.map Value.string, 1, rfl, id, ?_, Nat.one_pos, ?_⟩
    · intro j u hj
      rw [List.getElem?_map, Option.map_eq_some_iff] at hj
      obtain ⟨z, hz1, rfl⟩ := hj
      have hjl : j < L.length := (List.getElem?_eq_some_iff.1 hz1).1
      have := hcell j (by omega)
      rw [add_at] at this
      rw [this]
      congr 2
      rw [List.getD_eq_getElem?_getD]
      rw [hL, List.getElem?_take] at hz1
      split at hz1
      · rw [hz1]; rfl
      · cases hz1
    · clear hL hlen h0 h hx
      induction L with
      | nil => rfl
      | cons s L ih => exact ⟨[.string s], _, rfl, rfl, ⟨.string s, [], rfl, ⟨rfl, rfl⟩, rfl⟩, ih⟩
/-- An array of strings that reads so. -/
theorem cells_of_strs {w : World} {base : Nat} {sp : Nat → Bool} {held : Bool} {fuel : Nat} {t e : TypeId} {n : Nat} {cs : List Value} {L : List ByteArray} {p : List MemPlace}
    (ht : P.underlying t = some (.array n e)) (he : P.underlying e = some .string) (hce : P.cellsOf e = 1) (hct : P.cellsOf t = n)
    (h : DataW.trod enc P w base sp held fuel t cs = some ((.agg (strs L) : DataW H), p)) : cs = L.map Value.string := by
  cases fuel with
  | zero => simp [DataW.trod] at h
  | succ fuel =>
    simp only [DataW.trod, ht, hce, hct, Nat.mul_one] at h
    split at h
    · rename_i hl
      obtain ⟨xs, hm, hx⟩ := Option.map_eq_some_iff.1 h
      have hxs : xs.map (·.1) = (strs L : List (DataW H)) := by
        have := congrArg Prod.fst hx
        simpa using this
      have hxl : xs.length = n := by simpa using Lib.mapM_length hm
      have hzl : L.length = n := by
        have := congrArg List.length hxs
        simp [strs] at this
        omega
      apply List.ext_getElem?
      intro i
      by_cases hi : i < n
      · obtain ⟨b, hb, hf⟩ := Lib.mapM_at hm i i (by simp [hi])
        obtain ⟨z, hc, rfl, _⟩ := DataW.trod_string he hf
        have h1 : cs[i]? = some (.string z) := by
          have := congrArg (·[0]?) hc
          simpa [List.getElem?_take, List.getElem?_drop] using this
        have h2 : (xs.map (·.1))[i]? = some (DataW.lit (.string z.data.toList) : DataW H) := by simp [hb]
        rw [hxs] at h2
        simp only [strs, List.getElem?_map, Option.map_eq_some_iff, DataW.lit.injEq, Lit.string.injEq] at h2
        obtain ⟨z', hz', e⟩ := h2
        have e2 : z' = z := by
          cases z; cases z'
          simp only at e
          congr 1
          exact Array.ext' e
        subst e2
        simp [h1, hz']
      · rw [List.getElem?_eq_none (by omega), List.getElem?_eq_none (by simp; omega)]
    · cases h
theorem gv_of_var {W : World} {name : String} {g : Nat} {cs : Array Value} {row : List C} (hg : P.globalNamed name = some g) (hvar : W.var? P name = some cs) (hr : RdRow W (fun _ => False) row cs.toList) : GV W (fun _ => False) g row := by
  unfold World.var? at hvar
  rw [hg] at hvar
  simp only [Option.bind_some] at hvar
  split at hvar
  · rename_i cs' t f hh
    cases hvar
    exact ⟨id, _, t, f, hh, hr⟩
  · cases hvar
end

theorem rdRow_strs {W : World} {A : Nat → Prop} : ∀ L : List ByteArray, RdRow W A (L.map (fun s => .val (.string s))) (L.map Value.string)
  | [] => rfl
  | s :: L => ⟨.string s, _, rfl, ⟨rfl, rfl⟩, rdRow_strs L⟩

section
variable {H : Type} {enc : TypeId × Value → H} {P : Program}
end
end Go.Vc
end

section
namespace Go.Proofs.YtalkkcfojplmdaaGreatDoor
open Go.ChangeShapes Go.WideShapes Go.ChangeAt Go.RowKit Go.Vc Go.Joins Go.Deep

theorem own : ownKnob Tryz.prog.godebug = none := by kernel_rfl
theorem laidOut : laidOutB Tryz.prog = true := by kernel_rfl
theorem cells3 : Tryz.prog.cellsOf 3 = 1 := by kernel_rfl
theorem cellsS : Tryz.prog.cellsOf 9 = 1 := by kernel_rfl
theorem gTab : Tryz.prog.globalNamed "internal/strconv.uint64pow10" = some 3 := by kernel_rfl
theorem gTabType : (Tryz.prog.globals[3]?).map (·.type) = some 239 := by kernel_rfl
theorem cellsTab : Tryz.prog.cellsOf 239 = 20 := by kernel_rfl
theorem cellsU64 : Tryz.prog.cellsOf 202 = 1 := by kernel_rfl
theorem tabData_eq : (Rows.laid_internal_strconv_uint64pow10 : DataW Unit) = Lib.tabData .u64 Lib.pow10Tab := by kernel_rfl
theorem wordsData_eq : (Rows.laid_timebound_tree_words : DataW Unit) = .slice (strs words) [] := by kernel_rfl
theorem signsData_eq : (Rows.laid_timebound_tree_signs : DataW Unit) = .agg (strs signL) := by kernel_rfl
theorem gWords : Tryz.prog.globalNamed "timebound/tree.words" = some 0 := by kernel_rfl
theorem gWordsType : (Tryz.prog.globals[0]?).map (·.type) = some 27 := by kernel_rfl
theorem gSigns : Tryz.prog.globalNamed "timebound/tree.signs" = some 1 := by kernel_rfl
theorem gSignsType : (Tryz.prog.globals[1]?).map (·.type) = some 230 := by kernel_rfl
theorem cellsSigns : Tryz.prog.cellsOf 230 = 14 := by kernel_rfl
theorem gl_of {W : World} (h : laidMetH Tryz.prog Rows.evalCountsRow.laid W) : Gl.ok Tryz.prog W (fun _ => False) := by
  have h1 : laidMet Tryz.prog Rows.evalCountsRow.laid W := h
  have h2 := laidMet.tail (laidMet.tail h1)
  have h3 := laidMet.tail h2
  have h4 := laidMet.tail h3
  rw [tabData_eq] at h2
  rw [wordsData_eq] at h3
  rw [signsData_eq] at h4
  refine ⟨⟨3, gTab, id, Lib.tabIs_of_head gTab gTabType Tryz.underlying239 Tryz.underlying202 cellsU64 cellsTab h2⟩, ?_, ?_⟩
  · obtain ⟨ps, ⟨g', t', cs, fuel, p, q, hg', ht', hvar, hd, _, _⟩, _⟩ := h3
    obtain rfl := Option.some.inj (gWords.symm.trans hg')
    obtain rfl := Option.some.inj (gWordsType.symm.trans ht')
    obtain ⟨v, hcs, hr⟩ := rd_strings Tryz.underlying27 Tryz.underlying9 cellsS (by decide) hd
    exact gv_of_var gWords hvar (by rw [hcs]; exact ⟨v, [], rfl, hr, rfl⟩)
  · obtain ⟨ps, ⟨g', t', cs, fuel, p, q, hg', ht', hvar, hd, _, _⟩, _⟩ := h4
    obtain rfl := Option.some.inj (gSigns.symm.trans hg')
    obtain rfl := Option.some.inj (gSignsType.symm.trans ht')
    have e := cells_of_strs Tryz.underlying230 Tryz.underlying9 cellsS cellsSigns hd
    exact gv_of_var gSigns hvar (by rw [e]; exact rdRow_strs signL)
/-- A world for the witness: as the program's start lays it. -/
noncomputable def laidWorld (os : Os) : World := World.doorLaid Tryz.prog 400 os
theorem laid_met (os : Os) (args : Array Value) : laidMet Tryz.prog Rows.evalCountsRow.laid ((laidWorld os).forCall (fun _ _ => 0) ⟨#[], args, []⟩).memory :=
  laidMet_of_run' 8 (by kernel_rfl) (by kernel_rfl)
end Go.Proofs.YtalkkcfojplmdaaGreatDoor
end

section
namespace Go.Proofs.YtalkkcfojplmdaaGreatDoor.evalExprs
open Go.ChangeShapes Go.WideShapes Go.ChangeAt Go.RowKit Go.Vc Go.Joins

set_option maxRecDepth 100000 in
theorem contract (H : Type) (enc : TypeId × Value → H) (W : World) (base : Nat) (args : Array Value) (ds gs : List (DataW H)) (before : List MemPlace)
    (hval : ∀ (j : Nat) t v, Tryz.f7.params[j]? = some t → args[j]? = some v → Value.okWide Tryz.prog W .any base t v)
    (hsz : (DataW.weightsEach Tryz.prog (Tryz.f7.params.toList ++ (OpenSpec.ofChange Rows.evalExprsSpec).bare.plain.varTypes Tryz.prog) (ds ++ gs)).all (· ≤ reachBytes) = true)
    (hW : DataW.Whole enc Tryz.prog Tryz.f7.params.toList Rows.evalExprsSpec.vars false W args.toList ds gs before) (hL : laidMetH Tryz.prog Rows.evalExprsRow.laid W) :
    Calls Tryz.prog 7 args W fun e W' => ∃ v, e = .returned v ∧ Rows.evalExprsSpec.post enc Tryz.prog Tryz.f7 false true false false W args v W' := by
  have hW' := hW
  obtain ⟨p, q, hA0, hV, rfl, hfz, hnd⟩ := hW
  have hA : DataW.TrodAll enc Tryz.prog W 0 (fun _ => true) true Tryz.f7.params.toList args.toList ds p := hA0
  rw [Tryz.params7] at hA hval
  obtain ⟨v0, vs0, d0, ds0, p0, q0, hargs, rfl, rfl, h0, r0⟩ := trodAll_cons hA
  obtain ⟨v1, vs1, d1, ds1, p1, q1, rfl, rfl, rfl, h1, r1⟩ := trodAll_cons r0
  obtain ⟨v2, vs2, d2, ds2, p2, q2, rfl, rfl, rfl, h2, r2⟩ := trodAll_cons r1
  obtain ⟨v3, vs3, d3, ds3, p3, q3, rfl, rfl, rfl, h3, r3⟩ := trodAll_cons r2
  obtain ⟨v4, vs4, d4, ds4, p4, q4, rfl, rfl, rfl, h4, r4⟩ := trodAll_cons r3
  obtain ⟨v5, vs5, d5, ds5, p5, q5, rfl, rfl, rfl, h5, r5⟩ := trodAll_cons r4
  obtain ⟨v6, vs6, d6, ds6, p6, q6, rfl, rfl, rfl, h6, r6⟩ := trodAll_cons r5
  obtain ⟨v7, vs7, d7, ds7, p7, q7, rfl, rfl, rfl, h7, r7⟩ := trodAll_cons r6
  obtain ⟨rfl, rfl, rfl⟩ := trodAll_nil r7
  obtain rfl : args = #[v0, v1, v2, v3, v4, v5, v6, v7] := by cases args; simp_all
  obtain ⟨rfl, rfl⟩ := trodVars_none hV
  obtain ⟨L0, hL0, hwf0⟩ := rd_ints Tryz.underlying22 Tryz.underlying3 cells3 (okWide_slice Tryz.underlying22 (hval 0 22 v0 rfl rfl)) h0
  have hn0 : ∀ n ∈ L0, -9223372036854775808 ≤ n ∧ n ≤ 9223372036854775807 := fun n hn => by simpa [Lit.wf, IntKind.min, IntKind.max, IntKind.signed, IntKind.bits] using hwf0 n hn
  obtain ⟨n1, rfl, rfl, rfl, w1⟩ := open_int Tryz.underlying21 (hval 1 21 v1 rfl rfl) h1
  have hn1 : -2147483648 ≤ n1 ∧ n1 ≤ 2147483647 := by simpa [Lit.wf, IntKind.min, IntKind.max, IntKind.signed, IntKind.bits] using w1
  obtain ⟨n2, rfl, rfl, rfl, w2⟩ := open_int Tryz.underlying21 (hval 2 21 v2 rfl rfl) h2
  have hn2 : -2147483648 ≤ n2 ∧ n2 ≤ 2147483647 := by simpa [Lit.wf, IntKind.min, IntKind.max, IntKind.signed, IntKind.bits] using w2
  obtain ⟨n3, rfl, rfl, rfl, w3⟩ := open_int Tryz.underlying21 (hval 3 21 v3 rfl rfl) h3
  have hn3 : -2147483648 ≤ n3 ∧ n3 ≤ 2147483647 := by simpa [Lit.wf, IntKind.min, IntKind.max, IntKind.signed, IntKind.bits] using w3
  obtain ⟨n4, rfl, rfl, rfl, w4⟩ := open_int Tryz.underlying21 (hval 4 21 v4 rfl rfl) h4
  have hn4 : -2147483648 ≤ n4 ∧ n4 ≤ 2147483647 := by simpa [Lit.wf, IntKind.min, IntKind.max, IntKind.signed, IntKind.bits] using w4
  obtain ⟨n5, rfl, rfl, rfl, w5⟩ := open_int Tryz.underlying21 (hval 5 21 v5 rfl rfl) h5
  have hn5 : -2147483648 ≤ n5 ∧ n5 ≤ 2147483647 := by simpa [Lit.wf, IntKind.min, IntKind.max, IntKind.signed, IntKind.bits] using w5
  obtain ⟨L6, hL6, hwf6, hl6⟩ := rd_intsZ Tryz.underlying22 Tryz.underlying3 cells3 (okWide_slice Tryz.underlying22 (hval 6 22 v6 rfl rfl)) h6
  have hn6 : ∀ n ∈ L6, -9223372036854775808 ≤ n ∧ n ≤ 9223372036854775807 := fun n hn => by simpa [Lit.wf, IntKind.min, IntKind.max, IntKind.signed, IntKind.bits] using hwf6 n hn
  have hz6 := ints_fit hsz (j := 6) rfl Tryz.underlying22 (by kernel_rfl) rfl hl6
  obtain ⟨L7, hL7, hwf7, hl7⟩ := rd_intsZ Tryz.underlying22 Tryz.underlying3 cells3 (okWide_slice Tryz.underlying22 (hval 7 22 v7 rfl rfl)) h7
  have hn7 : ∀ n ∈ L7, -9223372036854775808 ≤ n ∧ n ≤ 9223372036854775807 := fun n hn => by simpa [Lit.wf, IntKind.min, IntKind.max, IntKind.signed, IntKind.bits] using hwf7 n hn
  have hz7 := ints_fit hsz (j := 7) rfl Tryz.underlying22 (by kernel_rfl) rfl hl7
  refine (con_run (vs := [v0, .int .i32 n1, .int .i32 n2, .int .i32 n3, .int .i32 n4, .int .i32 n5, v6, v7]) (EvalExprs_c L0 hn0 n1 n2 n3 n4 n5 hn1 hn2 hn3 hn4 hn5 L6 L7 hz6 hz7) ⟨_, _, rfl, hL0, _, _, rfl, ⟨rfl, rfl⟩, _, _, rfl, ⟨rfl, rfl⟩, _, _, rfl, ⟨rfl, rfl⟩, _, _, rfl, ⟨rfl, rfl⟩, _, _, rfl, ⟨rfl, rfl⟩, _, _, rfl, hL6, _, _, rfl, hL7, rfl⟩ (gl_of hL)).mono ?_
  rintro e W' ⟨rfl, hb⟩
  exact ⟨_, rfl, law_post rfl hW' rfl rfl rfl rfl Tryz.underlying4 laidOut (by kernel_rfl) hb⟩

theorem reads (os : Os) {H : Type} (enc : TypeId × Value → H) : ∃ places, DataW.whole enc Tryz.prog ((laidWorld os).forCall (fun _ _ => 0) ⟨#[], #[.slice none 0 0, .int .i32 0, .int .i32 0, .int .i32 0, .int .i32 0, .int .i32 0, .slice none 0 0, .slice none 0 0], []⟩).memory Tryz.f7.params.toList Rows.evalExprsSpec.vars false #[Value.slice none 0 0, .int .i32 0, .int .i32 0, .int .i32 0, .int .i32 0, .int .i32 0, .slice none 0 0, .slice none 0 0].toList 8 = some ([.nil, .lit (.int .i32 0), .lit (.int .i32 0), .lit (.int .i32 0), .lit (.int .i32 0), .lit (.int .i32 0), .nil, .nil], [], places) :=
  ⟨[], by kernel_rfl⟩

set_option maxRecDepth 100000 in
theorem lifted (os : Os) (started : os.Started) (H : Type) (enc : TypeId × Value → H) (F : Stop.Interp) :
    ReturnsInHanded {} Tryz.checked os 7 .any ((OpenSpec.ofChange Rows.evalExprsSpec).preRow enc Tryz.prog Tryz.f7 Rows.evalExprsRow.domain false Rows.evalExprsRow.laid) (((OpenSpec.ofChange Rows.evalExprsSpec).at F).post enc Tryz.prog Tryz.f7 false true false false) := by
  obtain ⟨places, hx⟩ := reads os enc
  refine returnsInHanded_of_row (C := Tryz.checked) (s := OpenSpec.ofChange Rows.evalExprsSpec) own started (by kernel_rfl) Tryz.func7
    (witness_row_atRef (enc := enc) (C := Tryz.checked) false (laidWorld os) _ rfl (by kernel_rfl) (by kernel_rfl) (by kernel_rfl)
      (OpenSpec.preRow_of_cond 8 hx (by kernel_rfl) (fun k hk => by cases hk) (by kernel_rfl) (laid_met os _))) ?_
  intro W base args ds gs before hval hW _ _ hsz hL _ _
  exact contract H enc W base args ds gs before hval hsz hW hL

theorem said : Rows.EvalExprsSaid :=
  OpenClaim.holds_of_cond 7 Tryz.f7 rfl rfl rfl rfl rfl rfl rfl ⟨rfl, rfl, rfl, rfl, rfl⟩ rfl rfl rfl rfl rfl (by kernel_rfl) Tryz.func7 (by kernel_rfl)
    (of_decide_eq_true (by kernel_rfl)) (by unfold Func.isWrapper; first | (rw [if_pos (by decide +kernel)]; kernel_rfl) | (rw [if_neg (by decide +kernel)]; exact ⟨rfl, rfl⟩))
    (fun os started H enc _ F => by rw [OpenClaim.pre_eq_preRow]; exact lifted os started H enc F)

theorem plain (f : FuncId) (fn : Func) (hf : Tryz.pinned.checked.prog.funcNamed "timebound/timeboundlaw06.EvalExprs" = some f) (hfn : Tryz.pinned.checked.prog.funcs[f]? = some fn) :
    false = Tryz.pinned.checked.prog.looks [] ∧ ∀ (j : Nat) t, fn.params[j]? = some t → Tryz.pinned.checked.prog.wantsStandIn t = false := by
  obtain rfl : f = 7 := Option.some.inj ((show Tryz.prog.funcNamed "timebound/timeboundlaw06.EvalExprs" = some 7 by kernel_rfl).symm.trans hf) |>.symm
  obtain rfl : fn = Tryz.f7 := (Option.some.inj (Tryz.func7.symm.trans hfn)).symm
  refine ⟨by kernel_rfl, fun j t ht => ?_⟩
  have hall : (Tryz.f7.params.toList.all fun u => !Tryz.prog.wantsStandIn u) = true := by kernel_rfl
  have hm : t ∈ Tryz.f7.params.toList := by simpa using Array.mem_of_getElem? ht
  exact (show Tryz.prog.wantsStandIn t = false by simpa using List.all_eq_true.1 hall t hm)

theorem card : Rows.EvalExprsCardSaid :=
  Claim7.holds_tied_plain_at .later [] _ _ _ _ said (fun _ h => by cases h) (by kernel_rfl) (fun _ h => by cases h) evalExprs_row_tie rfl ⟨rfl, rfl⟩ (by kernel_rfl) rfl plain (by kernel_rfl)
end Go.Proofs.YtalkkcfojplmdaaGreatDoor.evalExprs
end
