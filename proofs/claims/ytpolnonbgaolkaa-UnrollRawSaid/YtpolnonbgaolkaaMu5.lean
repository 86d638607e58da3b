import Derived.Test.YtpolnonbgaolkaaMu4
section
namespace Go.Proofs.Ytpolnonbgaolkaa
open Go.Vc
attribute [local irreducible] JL JC JQ OpWp Con ConN HOk
set_option maxHeartbeats 4000000

noncomputable def lfV (B : List Bk) (x : Nat) : Nat := if alB B x then (befL B x).countP fun a => edB B x a.toNat else 0
noncomputable def lfQ (B : List Bk) (b : Nat) (c : Nat) : List Int := (List.range B.length).map fun x => if x < b then (lfV B x : Int) else if x = b then (c : Int) else 0
theorem lfQ_len (B : List Bk) (b c : Nat) : (lfQ B b c).length = B.length := by simp [lfQ]
theorem lfQ_zero (B : List Bk) : lfQ B 0 0 = List.replicate B.length 0 := by
  unfold lfQ
  rw [List.eq_replicate_iff]
  refine ⟨by simp, fun x hx => ?_⟩
  obtain ⟨y, _, rfl⟩ := List.mem_map.1 hx
  simp
theorem lfQ_next (B : List Bk) (b : Nat) : lfQ B (b + 1) 0 = lfQ B b (lfV B b) := by
  refine List.map_congr_left (fun x _ => ?_)
  by_cases h1 : x < b
  · rw [if_pos h1, if_pos (by omega)]
  · rw [if_neg h1]
    by_cases h2 : x = b
    · subst h2; rw [if_pos (by omega), if_pos rfl]
    · rw [if_neg (by omega), if_neg h2]
      split <;> rfl
theorem lfQ_end (B : List Bk) : lfQ B B.length 0 = lf0 B := by
  unfold lf0
  refine List.map_congr_left (fun x hx => ?_)
  rw [if_pos (List.mem_range.1 hx)]
  unfold lfV
  split <;> rfl
theorem lfQ_set {B : List Bk} {b c d : Nat} : (lfQ B b c).set b (d : Int) = lfQ B b d := by
  refine List.ext_getElem (by simp [lfQ]) (fun x h1 h2 => ?_)
  rw [List.getElem_set]
  simp only [lfQ, List.getElem_map, List.getElem_range]
  by_cases hx : b = x
  · subst hx; simp
  · rw [if_neg hx, if_neg (show ¬ x = b from fun e => hx e.symm), if_neg (show ¬ x = b from fun e => hx e.symm)]
theorem lfQ_get {B : List Bk} {b c : Nat} (h : b < B.length) : (lfQ B b c).getD b 0 = (c : Int) := by
  rw [List.getD_eq_getElem?_getD, List.getElem?_eq_getElem (by rw [lfQ_len]; exact h)]
  simp [lfQ]
noncomputable def rdQ (B : List Bk) (b : Nat) : List Int := ((List.range b).filter fun b => alB B b && decide (lfV B b = 0)).map fun i : Nat => (i : Int)
theorem rdQ_len (B : List Bk) (b : Nat) : (rdQ B b).length ≤ b := by
  unfold rdQ
  rw [List.length_map]
  have := List.length_filter_le (fun b => alB B b && decide (lfV B b = 0)) (List.range b)
  rwa [List.length_range] at this
theorem rdQ_snoc (B : List Bk) (b : Nat) : rdQ B (b + 1) = rdQ B b ++ if alB B b && decide (lfV B b = 0) then [(b : Int)] else [] := by
  unfold rdQ
  rw [List.range_succ, List.filter_append, List.map_append]
  congr 1
  cases h : (alB B b && decide (lfV B b = 0)) <;> simp [h]
theorem rdQ_end (B : List Bk) : rdQ B B.length = rdy B := by
  unfold rdQ rdy
  congr 1
  refine List.filter_congr (fun b hb => ?_)
  have hb := List.mem_range.1 hb
  rw [← lfQ_end, lfQ, List.getD_eq_getElem?_getD, List.getElem?_eq_getElem (by simpa using hb)]
  simp only [List.getElem_map, List.getElem_range, if_pos hb, Option.getD_some]
  congr 1
  exact decide_eq_decide.2 g_
theorem nAl_snoc (B : List Bk) (b : Nat) : (List.range (b + 1)).countP (alB B) = (List.range b).countP (alB B) + if alB B b then 1 else 0 := by
  rw [List.range_succ, List.countP_append]
  simp [List.countP_cons]
theorem nAl_le (B : List Bk) (b : Nat) : (List.range b).countP (alB B) ≤ b := by
  have := List.countP_le_length (p := alB B) (l := List.range b)
  rwa [List.length_range] at this
theorem cnt_snoc {α : Type} {l : List α} {p : α → Bool} {k : Nat} (hk : k < l.length) : (l.take (k + 1)).countP p = (l.take k).countP p + if p l[k] then 1 else 0 := by
  rw [List.take_succ_eq_append_getElem hk, List.countP_append]
  simp [List.countP_cons]
theorem dmX_c (g : Gh) (x y : Int) (hx : 0 ≤ x ∧ x < (g.blocks.length : Int)) (hy : 0 ≤ y ∧ y < (g.blocks.length : Int)) (b : Bool) (hb : dmB g.blocks y.toNat x.toNat = b) : Con Try.prog 59 [.row (ShF g), In .i64 x, In .i64 y] [] (fun K => K (Bl b) []) := by
  subst hb
  exact back_c g x y hx hy
def bdL (l : List Int) (c : Nat) : Prop := ∀ i, -(c : Int) ≤ l.getD i 0 ∧ l.getD i 0 ≤ 64
theorem getD_setS {l : List Int} {i : Nat} {n : Int} (h : i < l.length) : (l.set i n).getD i 0 = n := by
  rw [List.getD_eq_getElem?_getD, List.getElem?_set_self h]
  rfl
theorem bdL.set {l : List Int} {c i : Nat} (h : bdL l c) : bdL (l.set i (l.getD i 0 - 1)) (c + 1) := fun j => by
  have hj := h j
  have hi := h i
  by_cases e : i = j
  · subst e
    by_cases hl : i < l.length
    · rw [getD_setS hl]; omega
    · rw [List.set_eq_of_length_le (by omega)]; omega
  · have : (l.set i (l.getD i 0 - 1)).getD j 0 = l.getD j 0 := by
      simp only [List.getD_eq_getElem?_getD, List.getElem?_set_ne e]
    rw [this]; omega
structure OrdI (g : Gh) (l T : List Int) (dn : Nat) : Prop where
  all : kAll g.blocks (l, T) dn = kAll g.blocks (lf0 g.blocks, rdy g.blocks) 0
  len : l.length = g.blocks.length
  inr : ∀ x ∈ T, 0 ≤ x ∧ x < (g.blocks.length : Int)
  mes : mK (l, T) + dn ≤ 128
  bnd : bdL l (2 * dn)
theorem OrdI.few {g : Gh} {l T : List Int} {dn : Nat} (h : OrdI g l T dn) : dn ≤ 128 := by have := h.mes; omega
structure OrdJ (g : Gh) (a M R dn k : Nat) (l T : List Int) : Prop where
  all : kAll g.blocks (kStep g.blocks a ((nxOf g.blocks a).drop k) (l, T)) (dn + 1) = R
  len : l.length = g.blocks.length
  inr : ∀ x ∈ T, 0 ≤ x ∧ x < (g.blocks.length : Int)
  mes : mK (kStep g.blocks a ((nxOf g.blocks a).drop k) (l, T)) ≤ M ∧ M + 1 + dn ≤ 128
  bnd : bdL l (2 * dn + k)
theorem lf0_bdL {B : List Bk} (h : B.length ≤ 64) : bdL (lf0 B) 0 := fun i => by
  rw [List.getD_eq_getElem?_getD]
  by_cases hi : i < (lf0 B).length
  · rw [List.getElem?_eq_getElem hi, Option.getD_some]
    simp only [lf0, List.getElem_map, List.getElem_range]
    have h1 := List.countP_le_length (p := fun a : Int => edB B i a.toNat) (l := befL B i)
    have h2 := bef_len B i
    split <;> omega
  · rw [List.getElem?_eq_none (by omega)]
    exact ⟨by simp, by simp⟩
theorem ordI_init {g : Gh} (hck : chG g = 0) : OrdI g (lf0 g.blocks) (rdy g.blocks) 0 := by
  have hn := ch_len hck
  refine ⟨rfl, by simp [lf0], fun x hx => ?_, ?_, lf0_bdL hn.1⟩
  · obtain ⟨i, hi, rfl⟩ := List.mem_map.1 hx
    have := List.mem_range.1 (List.mem_filter.1 hi).1
    omega
  · have h1 := List.countP_le_length (p := fun n : Int => decide (1 ≤ n)) (l := lf0 g.blocks)
    have h2 : (lf0 g.blocks).length = g.blocks.length := by simp [lf0]
    have h3 : (rdy g.blocks).length ≤ g.blocks.length := by rw [← rdQ_end]; exact rdQ_len _ _
    unfold mK
    dsimp only
    omega
theorem OrdI.start {g : Gh} {l T : List Int} {x : Int} {dn : Nat} (h : OrdI g l (x :: T) dn) (hck : chG g = 0) : OrdJ g x.toNat (mK (l, T)) (kAll g.blocks (lf0 g.blocks, rdy g.blocks) 0) dn 0 l T := by
  have hB := ch_okN hck
  have h2 : mK (l, x :: T) = mK (l, T) + 1 := by unfold mK; simp only [List.length_cons]; omega
  have h3 := h.mes
  refine ⟨?_, h.len, fun y hy => h.inr y (List.mem_cons_of_mem _ hy), ⟨?_, by omega⟩, h.bnd⟩
  · rw [List.drop_zero, ← kAll_cons hB h.len]; exact h.all
  · rw [List.drop_zero]; exact mK_step h.len (hB.all _)
theorem OrdJ.no {g : Gh} {a M R dn k : Nat} {l T : List Int} (h : OrdJ g a M R dn k l T) (hk : k < (nxOf g.blocks a).length) (hd : dmB g.blocks ((nxOf g.blocks a)[k]).toNat a = true) : OrdJ g a M R dn (k + 1) l T := by
  have h1 := h.all
  have h2 := h.mes
  rw [List.drop_eq_getElem_cons hk, kStep, if_pos hd] at h1 h2
  exact ⟨h1, h.len, h.inr, h2, fun i => by have := h.bnd i; omega⟩
theorem OrdJ.go {g : Gh} {a M R dn k : Nat} {l T : List Int} (h : OrdJ g a M R dn k l T) (hck : chG g = 0) (hk : k < (nxOf g.blocks a).length) (hd : dmB g.blocks ((nxOf g.blocks a)[k]).toNat a = false) :
    OrdJ g a M R dn (k + 1) (l.set ((nxOf g.blocks a)[k]).toNat (l.getD ((nxOf g.blocks a)[k]).toNat 0 - 1)) (if l.getD ((nxOf g.blocks a)[k]).toNat 0 - 1 = 0 then T ++ [(nxOf g.blocks a)[k]] else T) := by
  have h1 := h.all
  have h2 := h.mes
  rw [List.drop_eq_getElem_cons hk, kStep, if_neg (by rw [hd]; decide)] at h1 h2
  refine ⟨h1, by rw [List.length_set]; exact h.len, fun x hx => ?_, h2, h.bnd.set⟩
  have hy := (ch_next hck a).2.2 _ (List.getElem_mem hk)
  split at hx
  · rcases List.mem_append.1 hx with hx | hx
    · exact h.inr x hx
    · rw [List.mem_singleton.1 hx]; omega
  · exact h.inr x hx
theorem OrdJ.fin {g : Gh} {a M dn k : Nat} {l T : List Int} (h : OrdJ g a M (kAll g.blocks (lf0 g.blocks, rdy g.blocks) 0) dn k l T) (hk : (nxOf g.blocks a).length ≤ k) (hn : k ≤ 2) : OrdI g l T (dn + 1) ∧ mK (l, T) ≤ M := by
  have h1 := h.all
  have h2 := h.mes
  rw [List.drop_eq_nil_of_le hk, kStep] at h1 h2
  exact ⟨⟨h1, h.len, h.inr, by omega, fun i => by have := h.bnd i; omega⟩, h2.1⟩
theorem ordered_c (g : Gh) (hck : chG g = 0) : Con Try.prog 28 [.row (ShF g)] [] (fun K => K (Bl (acyB g.blocks)) []) := by
  have hsz := ch_len hck
  have hB := ch_okN hck
  have eBm : ((befM g.blocks).map Lrow).length = g.blocks.length := by rw [List.length_map, befM_len]
  have eA : ((rchL g.blocks (-1)).map Brow).length = g.blocks.length := by rw [List.length_map, rchL_len]
  have eB : (g.blocks.map Bk.row).length = g.blocks.length := List.length_map _
  refine con_intro Try.func28 rfl rfl (Nat.le_of_ble_eq_true rfl) (fun c hc => R_ (o_ r_ (ci_ r_ (fun bx => E_ r_ (T_ (R_ (F_ r_ (L_ 0 r_ (o_ r_ (br_ r_ (fun hlen => o_ r_ (ow_makeSliceI g.blocks.length rfl rfl rfl rfl rfl g_ g_ (fun V hV fV => E_ r_ (T_ (R_ (E_ r_ (T_ (R_ ?_))))))))))))))))))
  refine E_ r_ (T_ (am_ (R_ (M_ r_ (o_ r_ (cw_ 0 r_ r_ (fun hlen => M_ r_ (T_ (au_ (jc_ownNil 3 1 g_ ?_))))))))))
  rw [← lfQ_zero]
  refine jc_loopS (ι := Nat × Value) [] (fun i => i.1 ≤ (lfQ g.blocks 0 0).length) (fun i => (19, In .i64 (i.1 : Int)) :: [(18, In .i64 (((lfQ g.blocks 0 0).map irow).length : Int)), (3, .cell (.val V)), (4, .cell (.val i.2)), (5, In .i64 (((List.range i.1).countP (alB g.blocks) : Nat) : Int)), (1, Ptr bx)]) (fun i => [.own V 3 1 ((lfQ g.blocks i.1 0).map irow), .own i.2 3 1 ((rdQ g.blocks i.1).map irow), .blk bx 71 (ShF g)]) (fun i => (lfQ g.blocks 0 0).length - i.1) (0, .slice none 0 0) (Nat.zero_le _) ?_ ?_ ?_
  · exact bc_ 1 r_ (bc_ 0 r_ (bc_ 0 r_ sub_end))
  · (repeat (first | exact True.intro | refine ⟨rfl, ?_⟩))
  rintro ⟨b, r⟩ hz
  dsimp only at hz ⊢
  obtain hb := hz
  have eLb : ((lfQ g.blocks 0 0).map irow).length = (lfQ g.blocks 0 0).length := List.length_map _
  by_cases hltb : b < (lfQ g.blocks 0 0).length
  · have hltb2 : (b : Int) < (((lfQ g.blocks 0 0).map irow).length : Int) := by omega
    have el0 := lfQ_len g.blocks 0 0
    have el1 := lfQ_len g.blocks b 0
    have el2 : ((lfQ g.blocks b 0).map irow).length = g.blocks.length := by rw [List.length_map, el1]
    have hbn : b < g.blocks.length := by omega
    have ia : b < (rchL g.blocks (-1)).length := by rw [rchL_len]; omega
    have ib : b < (befM g.blocks).length := by rw [befM_len]; omega
    have hrs := rdQ_snoc g.blocks b
    have hrl := rdQ_len g.blocks b
    have hns := nAl_snoc g.blocks b
    have hnl := nAl_le g.blocks b
    have hlx := lfQ_next g.blocks b
    cases hal : (rchL g.blocks (-1))[b] with
    | false =>
      have ha : alB g.blocks b = false := by rw [← alB_get ia]; exact hal
      have hal2 : (!(rchL g.blocks (-1))[b]) = true := by rw [hal]; rfl
      rw [ha, Bool.false_and, if_neg (by simp), List.append_nil] at hrs
      rw [ha, if_neg (by simp), Nat.add_zero] at hns
      have hv : lfV g.blocks b = 0 := by unfold lfV; rw [ha]; rfl
      rw [hv] at hlx
      refine R_ (o_ r_ (bw_ r_ r_ (T_ (am_ (aq_ r_ u_ (as_ (al_ (B_ (R_ (M_ r_ (E_ r_ (T_ (am_ (R_ (F_ r_ (L_ 2 r_ ?_))))))))))))))))
      refine M_ r_ (o_ r_ (cc_ r_ r_ g_ r_ r_ b_ (o_ r_ (cb_ r_ r_ (o_ r_ (cd_ r_ (T_ (aq_ r_ h_ (av_ (ax_ (ba_ (al_ (an_ (o_ r_ (bj_ r_ r_ g_ (M_ r_ (ak_ (jq_againS (i := (b, r)) (b + 1, r) hltb (by dsimp only; omega) ?_ ?_))))))))))))))))))
      · dsimp only
        rw [hrs, hlx]
        exact bc_ 0 r_ (bc_ 0 r_ (bc_ 0 r_ sub_end))
      · dsimp only
        rw [hns]
        (repeat (first | exact True.intro | refine ⟨rfl, ?_⟩))
    | true =>
      have ha : alB g.blocks b = true := by rw [← alB_get ia]; exact hal
      have hal2 : (!(rchL g.blocks (-1))[b]) = false := by rw [hal]; rfl
      have hv : lfV g.blocks b = (befL g.blocks b).countP fun a => edB g.blocks b a.toNat := by unfold lfV; rw [ha]; rfl
      rw [ha, Bool.true_and] at hrs
      rw [ha, if_pos rfl] at hns
      have hbl := bef_len g.blocks b
      have hrb : ((befM g.blocks).map Lrow)[b]? = some (Lrow (befL g.blocks b)) := by rw [List.getElem?_map, List.getElem?_eq_getElem ib, befM_get]; rfl
      refine R_ (o_ r_ (bw_ r_ r_ (T_ (am_ (aq_ r_ u_ (as_ (al_ (B_ (R_ (M_ r_ (E_ r_ (T_ (am_ (R_ (F_ r_ (L_ 2 r_ ?_))))))))))))))))
      refine M_ r_ (o_ r_ (cc_ r_ r_ g_ r_ r_ b_ (o_ r_ (cb_ r_ r_ (o_ r_ (cd_ r_ (T_ (ap_ r_ h_ (as_ (al_ (R_ (M_ r_ (o_ r_ (bj_ r_ r_ g_ (E_ r_ (T_ (am_ (R_ (F_ r_ ?_)))))))))))))))))))
      refine L_ 2 r_ (M_ r_ (o_ r_ (ow_indexAddrN b r_ r_ r_ hrb r_ b_ (o_ r_ (cb_ r_ r_ (o_ r_ (br_ r_ (fun hlen => M_ r_ (T_ (au_ ?_))))))))))
      refine jc_loopS (ι := Nat) [] (fun k => k ≤ (befL g.blocks b).length) (fun k => (36, In .i64 (k : Int)) :: [(34, .cell (.list ((befL g.blocks b).map Irow))), (35, In .i64 (((befL g.blocks b).map Irow).length : Int)), (6, In .i64 (b : Int)), (19, In .i64 (b : Int)), (18, In .i64 (((lfQ g.blocks 0 0).map irow).length : Int)), (3, .cell (.val V)), (4, .cell (.val r)), (5, In .i64 (((List.range b).countP (alB g.blocks) : Nat) + 1 : Int)), (1, Ptr bx)]) (fun k => [.own V 3 1 ((lfQ g.blocks b (((befL g.blocks b).take k).countP fun a => edB g.blocks b a.toNat)).map irow), .own r 3 1 ((rdQ g.blocks b).map irow), .blk bx 71 (ShF g)]) (fun k => (befL g.blocks b).length - k) 0 (Nat.zero_le _) ?_ ?_ ?_
      · exact bc_ 0 r_ (bc_ 0 r_ (bc_ 0 r_ sub_end))
      · (repeat (first | exact True.intro | refine ⟨rfl, ?_⟩))
      rintro k hk
      have eLk : ((befL g.blocks b).map Irow).length = (befL g.blocks b).length := List.length_map _
      by_cases hltk : k < (befL g.blocks b).length
      · have hltk2 : (k : Int) < (((befL g.blocks b).map Irow).length : Int) := by omega
        have hcs := cnt_snoc (p := fun a : Int => edB g.blocks b a.toNat) hltk
        have hcl := List.countP_le_length (p := fun a : Int => edB g.blocks b a.toNat) (l := (befL g.blocks b).take k)
        rw [List.length_take] at hcl
        have hbd := bef_bnd hltk
        obtain ⟨y, hy⟩ : ∃ y, y = (befL g.blocks b)[k] := ⟨_, rfl⟩
        rw [← hy] at hbd hcs
        have iy : ((befL g.blocks b)[k]).toNat < (rchL g.blocks (-1)).length := by rw [rchL_len, ← hy]; omega
        have iy0 : 0 ≤ (befL g.blocks b)[k] := by rw [← hy]; omega
        generalize hcn : ((befL g.blocks b).take k).countP (fun a => edB g.blocks b a.toNat) = cn at hcs hcl ⊢
        have el3 := lfQ_len g.blocks b cn
        have hgd := lfQ_get (B := g.blocks) (b := b) (c := cn) hbn
        have hgd' : (lfQ g.blocks b cn).getD (b : Int).toNat 0 = (cn : Int) := hgd
        have hst : (lfQ g.blocks b cn).set (b : Int).toNat ((lfQ g.blocks b cn).getD (b : Int).toNat 0 + 1) = lfQ g.blocks b (cn + 1) := by rw [hgd']; exact lfQ_set (d := cn + 1)
        cases hy1 : (rchL g.blocks (-1))[((befL g.blocks b)[k]).toNat] with
        | false =>
          have hay : alB g.blocks y.toNat = false := by rw [hy, ← alB_get iy]; exact hy1
          have he : edB g.blocks b y.toNat = false := by unfold edB; rw [hay]; rfl
          rw [he, if_neg (by simp), Nat.add_zero] at hcs
          refine R_ (o_ r_ (bw_ r_ r_ (T_ (am_ (aq_ r_ u_ (as_ (al_ (B_ (R_ (o_ r_ (cc_ r_ r_ g_ r_ r_ b_ (o_ r_ (cb_ r_ r_ (E_ r_ (T_ (R_ (F_ r_ (L_ 2 r_ ?_))))))))))))))))))
          refine M_ r_ (o_ r_ (cv_ r_ r_ g_ g_ r_ r_ b_ (o_ r_ (cb_ r_ r_ (M_ r_ (ai_ r_ h_ b_ (ai_ r_ h_ b_ (ai_ r_ h_ b_ (ai_ r_ h_ b_ (ai_ r_ h_ b_ (o_ r_ (bv_ r_ h_ r_ (T_ (ap_ r_ r_ (as_ (ay_ (al_ (an_ ?_))))))))))))))))))
          refine o_ r_ (bj_ r_ r_ g_ (M_ r_ (ak_ (jq_againS (i := k) (k + 1) hltk g_ ?_ ?_))))
          · rw [hcs]
            exact bc_ 0 r_ (bc_ 0 r_ (bc_ 0 r_ sub_end))
          · (repeat (first | exact True.intro | refine ⟨rfl, ?_⟩))
        | true =>
          have hay : alB g.blocks y.toNat = true := by rw [hy, ← alB_get iy]; exact hy1
          cases hd : dmB g.blocks b y.toNat with
          | true =>
            have hC := dmC_c g y b hbd hbn true hd
            rw [hy] at hC
            have he : edB g.blocks b y.toNat = false := by unfold edB; rw [hay, hd]; rfl
            rw [he, if_neg (by simp), Nat.add_zero] at hcs
            refine R_ (o_ r_ (bw_ r_ r_ (T_ (am_ (aq_ r_ u_ (as_ (al_ (B_ (R_ (o_ r_ (cc_ r_ r_ g_ r_ r_ b_ (o_ r_ (cb_ r_ r_ (E_ r_ (T_ (R_ (F_ r_ (L_ 2 r_ ?_))))))))))))))))))
            refine M_ r_ (o_ r_ (cv_ r_ r_ g_ g_ r_ r_ b_ (o_ r_ (cb_ r_ r_ (M_ r_ (ah_ r_ h_ b_ (bs_ 2 r_ r_ r_ r_ (ah_ r_ h_ b_ (bd_ r_ (ah_ r_ h_ b_ (bd_ r_ (ah_ r_ h_ b_ (bm_ r_ (hC) (ah_ r_ h_ b_ (cd_ r_ (o_ r_ (bp_ r_ h_ r_ (T_ (ap_ r_ r_ (as_ (ay_ (al_ (an_ ?_)))))))))))))))))))))))
            refine o_ r_ (bj_ r_ r_ g_ (M_ r_ (ak_ (jq_againS (i := k) (k + 1) hltk g_ ?_ ?_))))
            · rw [hcs]
              exact bc_ 0 r_ (bc_ 0 r_ (bc_ 0 r_ sub_end))
            · (repeat (first | exact True.intro | refine ⟨rfl, ?_⟩))
          | false =>
            have hC := dmC_c g y b hbd hbn false hd
            rw [hy] at hC
            have he : edB g.blocks b y.toNat = true := by unfold edB; rw [hay, hd]; rfl
            rw [he, if_pos rfl] at hcs
            refine R_ (o_ r_ (bw_ r_ r_ (T_ (am_ (aq_ r_ u_ (as_ (al_ (B_ (R_ (o_ r_ (cc_ r_ r_ g_ r_ r_ b_ (o_ r_ (cb_ r_ r_ (E_ r_ (T_ (R_ (F_ r_ (L_ 2 r_ ?_))))))))))))))))))
            refine M_ r_ (o_ r_ (cv_ r_ r_ g_ g_ r_ r_ b_ (o_ r_ (cb_ r_ r_ (M_ r_ (ah_ r_ h_ b_ (bs_ 2 r_ r_ r_ r_ (ah_ r_ h_ b_ (bd_ r_ (ah_ r_ h_ b_ (bd_ r_ (ah_ r_ h_ b_ (bm_ r_ (hC) (ah_ r_ h_ b_ (cd_ r_ (o_ r_ (bp_ r_ h_ r_ (T_ (aq_ r_ r_ (an_ (M_ r_ (M_ r_ (o_ r_ (ow_indexI 0 r_ r_ r_ g_ r_ ?_))))))))))))))))))))))))
            refine o_ r_ (ow_loadI 0 r_ r_ r_ g_ (o_ r_ (bj_ r_ r_ g_ (o_ r_ (ow_indexI 0 r_ r_ r_ g_ r_ (ag_ (ow_storeI 0 r_ r_ r_ g_ r_ (ak_ (ay_ (al_ (an_ (o_ r_ (bj_ r_ r_ g_ (M_ r_ (ak_ (jq_againS (i := k) (k + 1) hltk g_ ?_ ?_))))))))))))))))
            · rw [hcs, ← hst]
              exact bc_ 0 r_ (bc_ 0 r_ (bc_ 0 r_ sub_end))
            · (repeat (first | exact True.intro | refine ⟨rfl, ?_⟩))
      · have hltk2 : ¬ (k : Int) < (((befL g.blocks b).map Irow).length : Int) := by omega
        have ht : ((befL g.blocks b).take k).countP (fun a => edB g.blocks b a.toNat) = lfV g.blocks b := by rw [List.take_of_length_le (by omega), hv]
        rw [ht]
        have el4 := lfQ_len g.blocks b (lfV g.blocks b)
        have hgd : (lfQ g.blocks b (lfV g.blocks b)).getD (b : Int).toNat 0 = (lfV g.blocks b : Int) := lfQ_get hbn
        by_cases hz : lfV g.blocks b = 0
        · have hz2 : (lfQ g.blocks b (lfV g.blocks b)).getD (b : Int).toNat 0 = 0 := by rw [hgd, hz]; rfl
          rw [decide_eq_true hz, if_pos rfl] at hrs
          refine R_ (o_ r_ (bw_ r_ r_ (T_ (am_ (ap_ r_ w_ (av_ (ax_ (ax_ (ba_ (al_ (R_ (M_ r_ (M_ r_ (o_ r_ (ow_indexI 0 r_ r_ r_ g_ r_ (o_ r_ (ow_loadI 0 r_ r_ r_ g_ (o_ r_ (bn_ r_ r_ ?_)))))))))))))))))))
          refine T_ (aq_ r_ u_ (an_ (M_ r_ (M_ r_ (o_ r_ (bq_ r_ r_ b_ r_ r_ b_ (o_ r_ (ow_append1 1 ((b : Int)) rfl rfl rfl rfl rfl rfl rfl (fun _ => rfl) (by show (_ + _) * 8 ≤ _; first | omega | (simp only [List.length_append]; omega)) (by first | omega | (simp only [List.length_append]; omega)) (fun v1 hv1 => E_ r_ (ak_ (ay_ (al_ (an_ (o_ r_ (bj_ r_ r_ g_ (M_ r_ (ak_ ?_)))))))))))))))))
          refine jq_againS (i := (b, r)) (b + 1, v1) hltb (by dsimp only; omega) ?_ ?_
          · dsimp only
            rw [hrs, hlx]
            exact bc_ 1 r_ (bc_ 0 r_ (bc_ 0 r_ sub_end))
          · dsimp only
            rw [hns]
            (repeat (first | exact True.intro | refine ⟨rfl, ?_⟩))
        · have hz2 : ¬ (lfQ g.blocks b (lfV g.blocks b)).getD (b : Int).toNat 0 = 0 := by rw [hgd]; omega
          rw [decide_eq_false hz, if_neg (by simp), List.append_nil] at hrs
          refine R_ (o_ r_ (bw_ r_ r_ (T_ (am_ (ap_ r_ w_ (av_ (ax_ (ax_ (ba_ (al_ (R_ (M_ r_ (M_ r_ (o_ r_ (ow_indexI 0 r_ r_ r_ g_ r_ (o_ r_ (ow_loadI 0 r_ r_ r_ g_ (o_ r_ (bn_ r_ r_ ?_)))))))))))))))))))
          refine T_ (ap_ r_ w_ (as_ (ay_ (al_ (an_ (o_ r_ (bj_ r_ r_ g_ (M_ r_ (ak_ (jq_againS (i := (b, r)) (b + 1, r) hltb (by dsimp only; omega) ?_ ?_))))))))))
          · dsimp only
            rw [hrs, hlx]
            exact bc_ 0 r_ (bc_ 0 r_ (bc_ 0 r_ sub_end))
          · dsimp only
            rw [hns]
            (repeat (first | exact True.intro | refine ⟨rfl, ?_⟩))
  · have hltb2 : ¬ (b : Int) < (((lfQ g.blocks 0 0).map irow).length : Int) := by omega
    have ebn : b = g.blocks.length := by have := lfQ_len g.blocks 0 0; omega
    have e1 : lfQ g.blocks b 0 = lf0 g.blocks := by rw [ebn]; exact lfQ_end _
    have e2 : rdQ g.blocks b = rdy g.blocks := by rw [ebn]; exact rdQ_end _
    have e3 : (List.range b).countP (alB g.blocks) = nAl g.blocks := by rw [ebn]; rfl
    have e4 : nAl g.blocks ≤ 64 := by rw [← e3]; exact Nat.le_trans (nAl_le _ _) (by omega)
    have e5 : (rdy g.blocks).length ≤ g.blocks.length := by rw [← rdQ_end]; exact rdQ_len _ _
    have hin := ordI_init hck
    rw [e1, e2, e3]
    clear e1 e2 e3 hz
    refine R_ (o_ r_ (bw_ r_ r_ (T_ (am_ (ap_ r_ w_ (av_ (ax_ (ax_ (ba_ (al_ (R_ (E_ r_ (T_ (am_ (jc_toQ 4 1 rfl rfl (au_ ?_))))))))))))))))
    refine jc_loopS (ι := List Int × Value × Nat × List Int × Nat) [] (fun i => OrdI g i.1 (i.2.2.2.1.drop i.2.2.1) i.2.2.2.2 ∧ i.2.2.2.1.length ≤ 64 + 2 * i.2.2.2.2) (fun i => [(4, .cell (QC i.2.1 i.2.2.1 1)), (3, .cell (.val V)), (5, In .i64 (nAl g.blocks : Int)), (9, In .i64 (i.2.2.2.2 : Int)), (1, Ptr bx)]) (fun i => [.own V 3 1 (i.1.map irow), .own i.2.1 3 1 (i.2.2.2.1.map irow), .blk bx 71 (ShF g)]) (fun i => mK (i.1, i.2.2.2.1.drop i.2.2.1)) (lf0 g.blocks, r, 0, rdy g.blocks, 0) ⟨hin, by dsimp only; omega⟩ ?_ ?_ ?_
    · exact bc_ 0 r_ (bc_ 0 r_ (bc_ 0 r_ sub_end))
    · (repeat (first | exact True.intro | refine ⟨rfl, ?_⟩))
    rintro ⟨l, q, m, L, dn⟩ ⟨hP, hLn⟩
    dsimp only at hP hLn ⊢
    have eL : (L.map irow).length = L.length := List.length_map _
    have hll := hP.len
    have hdn := hP.few
    by_cases hlt : m < L.length
    · have hlt2 : ((L.map irow).length : Int) - (m : Int) > 0 := by omega
      obtain ⟨x, T, hT⟩ : ∃ x T, L.drop m = x :: T := by
        cases hd : L.drop m with
        | nil => have := congrArg List.length hd; rw [List.length_drop, List.length_nil] at this; omega
        | cons x T => exact ⟨x, T, rfl⟩
      obtain ⟨_, hT2⟩ := drop_lt hT
      rw [hT] at hP
      obtain ⟨hx0, hxl⟩ := hP.inr x (by simp)
      have hxn : x.toNat < g.blocks.length := by omega
      have hnx := nx_at hxn
      have hst0 : OrdJ g x.toNat (mK (l, T)) (kAll g.blocks (lf0 g.blocks, rdy g.blocks) 0) dn 0 l (L.drop (m + 1)) := by rw [hT2]; exact hP.start hck
      have hn2 := (ch_next hck x.toNat).1
      rw [hnx] at hn2
      refine am_ (R_ (M_ r_ (o_ r_ (ow_lenQ 1 rfl rfl (fun _ => o_ r_ (bz_ r_ r_ (T_ (aq_ r_ u_ (as_ (al_ (B_ (R_ (M_ r_ (o_ r_ (ow_indexQ 1 rfl rfl rfl g_ (by rw [List.length_map] ; show m + 0 < _ ; omega) rfl (o_ r_ (ow_loadQI 1 r_ r_ r_ hT (E_ r_ (T_ ?_)))))))))))))))))))
      refine R_ (M_ r_ (o_ r_ (ow_sufQ 1 rfl rfl rfl rfl (by rw [List.length_map] ; omega) rfl (E_ r_ (T_ (R_ (F_ r_ (F_ r_ (L_ 2 r_ (M_ r_ (o_ r_ (cv_ r_ r_ g_ g_ r_ r_ b_ (o_ r_ (cf_ r_ r_ r_ b_ r_ b_ (o_ r_ (cb_ r_ r_ (o_ r_ (br_ r_ (fun hlen => M_ r_ (T_ ?_))))))))))))))))))))
      refine au_ ?_
      refine jc_loopS (ι := Nat × List Int × Value × Nat × List Int) [] (fun i => i.1 ≤ (g.blocks[x.toNat]).next.length ∧ OrdJ g x.toNat (mK (l, T)) (kAll g.blocks (lf0 g.blocks, rdy g.blocks) 0) dn i.1 i.2.1 (i.2.2.2.2.drop i.2.2.2.1) ∧ i.2.2.2.2.length ≤ 64 + 2 * dn + i.1) (fun i => [(87, In .i64 (i.1 : Int)), (85, .cell (.list ((g.blocks[x.toNat]).next.map Irow))), (86, In .i64 (((g.blocks[x.toNat]).next.map Irow).length : Int)), (10, In .i64 x), (4, .cell (QC i.2.2.1 i.2.2.2.1 1)), (3, .cell (.val V)), (5, In .i64 (nAl g.blocks : Int)), (9, In .i64 (dn : Int)), (1, Ptr bx)]) (fun i => [.own V 3 1 (i.2.1.map irow), .own i.2.2.1 3 1 (i.2.2.2.2.map irow), .blk bx 71 (ShF g)]) (fun i => (g.blocks[x.toNat]).next.length - i.1) (0, l, q, m + 1, L) ⟨Nat.zero_le _, hst0, by dsimp only; omega⟩ ?_ ?_ ?_
      · exact bc_ 0 r_ (bc_ 0 r_ (bc_ 0 r_ sub_end))
      · (repeat (first | exact True.intro | refine ⟨rfl, ?_⟩))
      rintro ⟨k, l1, q1, m1, L1⟩ ⟨hk, hJ, hL1⟩
      dsimp only at hk hJ hL1 ⊢
      have eN : ((g.blocks[x.toNat]).next.map Irow).length = (g.blocks[x.toNat]).next.length := List.length_map _
      have hl1 := hJ.len
      by_cases hltk : k < (g.blocks[x.toNat]).next.length
      · have hltk2 : (k : Int) < (((g.blocks[x.toNat]).next.map Irow).length : Int) := by omega
        have hkn : k < (nxOf g.blocks x.toNat).length := by rw [hnx]; exact hltk
        have hgk : (nxOf g.blocks x.toNat)[k] = (g.blocks[x.toNat]).next[k] := by simp only [hnx]
        have hyb := (ch_next hck x.toNat).2.2 _ (List.getElem_mem hkn)
        have hgo := fun h => hJ.go hck hkn h
        have hno := fun h => hJ.no hkn h
        rw [hgk] at hyb hgo hno
        cases hd : dmB g.blocks ((g.blocks[x.toNat]).next[k]).toNat x.toNat with
        | true =>
          have hC := dmX_c g x ((g.blocks[x.toNat]).next[k]) ⟨hx0, hxl⟩ (by omega) true hd
          refine R_ (o_ r_ (bw_ r_ r_ (T_ (am_ (aq_ r_ u_ (as_ (al_ (B_ (R_ (o_ r_ (cc_ r_ r_ g_ r_ r_ b_ (o_ r_ (cb_ r_ r_ (E_ r_ (T_ (am_ (R_ (A_ 2 r_ ?_))))))))))))))))))
          refine M_ r_ (M_ r_ (o_ r_ (bm_ r_ (hC) (T_ (aq_ r_ r_ (av_ (ax_ (ba_ (al_ (an_ (o_ r_ (bj_ r_ r_ g_ (M_ r_ (ak_ (jq_againS (i := (k, l1, q1, m1, L1)) (k + 1, l1, q1, m1, L1) ⟨hltk, hno hd, by dsimp only; omega⟩ (by dsimp only; omega) ?_ ?_)))))))))))))))
          · exact bc_ 0 r_ (bc_ 0 r_ (bc_ 0 r_ sub_end))
          · (repeat (first | exact True.intro | refine ⟨rfl, ?_⟩))
        | false =>
          have hC := dmX_c g x ((g.blocks[x.toNat]).next[k]) ⟨hx0, hxl⟩ (by omega) false hd
          have hyl : ((g.blocks[x.toNat]).next[k]).toNat < l1.length := by omega
          have hbd := hJ.bnd ((g.blocks[x.toNat]).next[k]).toNat
          have hgs := getD_setS (n := l1.getD ((g.blocks[x.toNat]).next[k]).toNat 0 - 1) hyl
          have hsl : (l1.set ((g.blocks[x.toNat]).next[k]).toNat (l1.getD ((g.blocks[x.toNat]).next[k]).toNat 0 - 1)).length = l1.length := List.length_set
          have hg2 := hgo hd
          by_cases hz : l1.getD ((g.blocks[x.toNat]).next[k]).toNat 0 - 1 = 0
          · have hz2 : (l1.set ((g.blocks[x.toNat]).next[k]).toNat (l1.getD ((g.blocks[x.toNat]).next[k]).toNat 0 - 1)).getD ((g.blocks[x.toNat]).next[k]).toNat 0 = 0 := by rw [hgs]; exact hz
            rw [if_pos hz] at hg2
            refine R_ (o_ r_ (bw_ r_ r_ (T_ (am_ (aq_ r_ u_ (as_ (al_ (B_ (R_ (o_ r_ (cc_ r_ r_ g_ r_ r_ b_ (o_ r_ (cb_ r_ r_ (E_ r_ (T_ (am_ (R_ (A_ 2 r_ ?_))))))))))))))))))
            refine M_ r_ (M_ r_ (o_ r_ (bm_ r_ (hC) (T_ (ap_ r_ r_ (as_ (al_ (R_ (M_ r_ (M_ r_ (o_ r_ (ow_indexI 0 r_ r_ r_ g_ r_ (o_ r_ (ow_loadI 0 r_ r_ r_ g_ (o_ r_ (cg_ r_ r_ g_ (o_ r_ (ow_indexI 0 r_ r_ r_ g_ r_ (ag_ (ow_storeI 0 r_ r_ r_ g_ r_ (T_ ?_)))))))))))))))))))))
            refine R_ (M_ r_ (M_ r_ (o_ r_ (ow_indexI 0 r_ r_ r_ g_ r_ (o_ r_ (ow_loadI 0 r_ r_ r_ g_ (o_ r_ (bn_ r_ r_ (T_ (aq_ r_ u_ (an_ (M_ r_ (M_ r_ (o_ r_ (bq_ r_ r_ b_ r_ r_ b_ (o_ r_ (ow_appendQM 1 (f := irow) (l1 := L1) (l2 := [(g.blocks[x.toNat]).next[k]]) rfl rfl rfl rfl rfl rfl rfl (fun _ => rfl) (by show (_ + 1) * 8 ≤ _ ; omega) (by show _ + 1 ≤ _ ; omega) (fun q2 m2 L2 hq2 hm2 hL2 hl2 => E_ r_ (ak_ ?_)))))))))))))))))))
            refine ay_ (al_ (an_ (o_ r_ (bj_ r_ r_ g_ (M_ r_ (ak_ ?_))))))
            rw [List.length_singleton] at hl2
            rw [← hL2] at hg2
            refine jq_againS (i := (k, l1, q1, m1, L1)) (k + 1, l1.set ((g.blocks[x.toNat]).next[k]).toNat (l1.getD ((g.blocks[x.toNat]).next[k]).toNat 0 - 1), q2, m2, L2) ⟨hltk, hg2, by dsimp only; omega⟩ (by dsimp only; omega) ?_ ?_
            · exact bc_ 1 r_ (bc_ 0 r_ (bc_ 0 r_ sub_end))
            · (repeat (first | exact True.intro | refine ⟨rfl, ?_⟩))
          · have hz2 : ¬ (l1.set ((g.blocks[x.toNat]).next[k]).toNat (l1.getD ((g.blocks[x.toNat]).next[k]).toNat 0 - 1)).getD ((g.blocks[x.toNat]).next[k]).toNat 0 = 0 := by rw [hgs]; exact hz
            rw [if_neg hz] at hg2
            refine R_ (o_ r_ (bw_ r_ r_ (T_ (am_ (aq_ r_ u_ (as_ (al_ (B_ (R_ (o_ r_ (cc_ r_ r_ g_ r_ r_ b_ (o_ r_ (cb_ r_ r_ (E_ r_ (T_ (am_ (R_ (A_ 2 r_ ?_))))))))))))))))))
            refine M_ r_ (M_ r_ (o_ r_ (bm_ r_ (hC) (T_ (ap_ r_ r_ (as_ (al_ (R_ (M_ r_ (M_ r_ (o_ r_ (ow_indexI 0 r_ r_ r_ g_ r_ (o_ r_ (ow_loadI 0 r_ r_ r_ g_ (o_ r_ (cg_ r_ r_ g_ (o_ r_ (ow_indexI 0 r_ r_ r_ g_ r_ (ag_ (ow_storeI 0 r_ r_ r_ g_ r_ (T_ ?_)))))))))))))))))))))
            refine R_ (M_ r_ (M_ r_ (o_ r_ (ow_indexI 0 r_ r_ r_ g_ r_ (o_ r_ (ow_loadI 0 r_ r_ r_ g_ (o_ r_ (bn_ r_ r_ (T_ (ap_ r_ w_ (as_ (ay_ (al_ (an_ (o_ r_ (bj_ r_ r_ g_ (M_ r_ (ak_ (jq_againS (i := (k, l1, q1, m1, L1)) (k + 1, l1.set ((g.blocks[x.toNat]).next[k]).toNat (l1.getD ((g.blocks[x.toNat]).next[k]).toNat 0 - 1), q1, m1, L1) ⟨hltk, hg2, by dsimp only; omega⟩ (by dsimp only; omega) ?_ ?_)))))))))))))))))))
            · exact bc_ 0 r_ (bc_ 0 r_ (bc_ 0 r_ sub_end))
            · (repeat (first | exact True.intro | refine ⟨rfl, ?_⟩))
      · have hltk2 : ¬ (k : Int) < (((g.blocks[x.toNat]).next.map Irow).length : Int) := by omega
        have hfn := hJ.fin (by rw [hnx]; omega) (by omega)
        have hms : mK (l, x :: T) = mK (l, T) + 1 := by unfold mK; simp only [List.length_cons]; omega
        refine R_ (o_ r_ (bw_ r_ r_ (T_ (am_ (ap_ r_ w_ (av_ (ax_ (ax_ (ba_ (ay_ (al_ (an_ (M_ r_ (o_ r_ (bj_ r_ r_ g_ (E_ r_ (ak_ ?_)))))))))))))))))
        refine jq_againS (i := (l, q, m, L, dn)) (l1, q1, m1, L1, dn + 1) ⟨hfn.1, by dsimp only; omega⟩ (by dsimp only; rw [hT]; have := hfn.2; omega) ?_ ?_
        · exact bc_ 0 r_ (bc_ 0 r_ (bc_ 0 r_ sub_end))
        · (repeat (first | exact True.intro | refine ⟨rfl, ?_⟩))
    · have hlt2 : ¬ ((L.map irow).length : Int) - (m : Int) > 0 := by omega
      rw [List.drop_eq_nil_of_le (by omega)] at hP
      have hres : decide ((dn : Int) = (nAl g.blocks : Int)) = acyB g.blocks := by
        have := hP.all
        rw [kAll_nil] at this
        unfold acyB
        rw [← this]
        exact decide_eq_decide.2 g_
      refine am_ (R_ (M_ r_ (o_ r_ (ow_lenQ 1 rfl rfl (fun _ => o_ r_ (bz_ r_ r_ (T_ (ap_ r_ w_ (av_ (ax_ (ax_ (ba_ (al_ (R_ (M_ r_ (M_ r_ (o_ r_ (bn_ r_ r_ ?_))))))))))))))))))
      refine E_ r_ (T_ (ar_ (jq_bl 2 rfl hres (jq_ret1 rfl rfl [] rfl (fun K h => h)))))
end Go.Proofs.Ytpolnonbgaolkaa
end

section
namespace Go.Proofs.Ytpolnonbgaolkaa
open Go.Vc
attribute [local irreducible] JL JC JQ OpWp Con ConN HOk
set_option maxHeartbeats 4000000

theorem nAlP_le (B : List Bk) (b : Nat) : nAlP B b ≤ b := nAl_le B b
theorem rAcyclic_c (g : Gh) (hck : chG g = 0) : Con Try.prog 48 [.row g.row, .cell (.list ((rchL g.blocks (-1)).map Brow)), .cell (.list ((domM g.blocks).map DRow))] [] (fun K => K (Bl (acyB g.blocks)) []) := by
  have hsz := ch_len hck
  have hB := ch_okN hck
  have eB : (g.blocks.map Bk.row).length = g.blocks.length := List.length_map _
  have eD : ((domM g.blocks).map DRow).length = g.blocks.length := by rw [List.length_map, domM_len]
  have eA : ((rchL g.blocks (-1)).map Brow).length = g.blocks.length := by rw [List.length_map, rchL_len]
  have eDr : ∀ h, ((domR g.blocks h).map Brow).length = g.blocks.length := fun h => by simp
  refine con_intro Try.func48 rfl rfl (Nat.le_of_ble_eq_true rfl) (fun c hc => R_ (o_ r_ (ci_ r_ (fun bx => E_ r_ (T_ (R_ (F_ r_ (L_ 0 r_ (o_ r_ (br_ r_ (fun hlen => o_ r_ (ow_makeSliceI g.blocks.length rfl rfl rfl rfl rfl g_ g_ (fun V hV fV => E_ r_ (T_ (R_ (E_ r_ (T_ (R_ ?_))))))))))))))))))
  refine E_ r_ (T_ (am_ (R_ (E_ r_ (T_ (au_ ?_))))))
  rw [← lfPL_zero]
  refine jc_loopS (ι := Nat) [] (fun i => i ≤ (g.blocks).length) (fun i => (10, In .i64 (i : Int)) :: [(7, .cell (.val V)), (8, .cell (.val (.slice none 0 0))), (9, In .i64 ((nAlP g.blocks i : Nat) : Int)), (1, .cell (.list ((rchL g.blocks (-1)).map Brow))), (2, .cell (.list ((domM g.blocks).map DRow))), (3, Ptr bx)]) (fun i => [.own V 3 1 ((lfPL g.blocks i 0).map irow), .blk bx 28 g.row]) (fun i => (g.blocks).length - i) 0 (Nat.zero_le _) ?_ ?_ ?_
  · exact bc_ 0 r_ (bc_ 0 r_ sub_end)
  · (repeat (first | exact True.intro | refine ⟨rfl, ?_⟩))
  rintro i hi
  have eLi : ((g.blocks).map Bk.row).length = (g.blocks).length := List.length_map _
  by_cases hlti : i < (g.blocks).length
  · have hlti2 : (i : Int) < (((g.blocks).map Bk.row).length : Int) := by omega
    have hnl := nAlP_le g.blocks i
    have hns := nAlP_succ g.blocks i
    cases hal : alB g.blocks i with
    | false =>
      have ha := rch_at hlti hal
      have hd := lfPL_dead hal
      rw [hal, if_neg (by simp), Nat.add_zero] at hns
      refine am_ (R_ (M_ r_ (F_ r_ (L_ 1 r_ (o_ r_ (br_ r_ (fun hlen => o_ r_ (bw_ r_ r_ (T_ (aq_ r_ u_ (as_ (al_ (B_ (am_ (R_ (M_ r_ (M_ r_ ?_)))))))))))))))))
      refine o_ r_ (ow_indexAddrN i r_ r_ r_ ha r_ b_ (o_ r_ (cb_ r_ r_ (o_ r_ (cd_ r_ (T_ (aq_ r_ r_ (av_ (ax_ (ba_ (al_ (an_ (M_ r_ (o_ r_ (bj_ r_ r_ g_ (E_ r_ (ak_ (jq_againS (i := i) (i + 1) hlti g_ ?_ ?_))))))))))))))))))
      · rw [hd]
        exact bc_ 0 r_ (bc_ 0 r_ sub_end)
      · rw [hns]
        (repeat (first | exact True.intro | refine ⟨rfl, ?_⟩))
    | true =>
      have ha := rch_at hlti hal
      have hnx := nx_at hlti
      have hnd := (ch_next hck i).2.1
      have hn2 := (ch_next hck i).1
      have hnxt := lfPL_next hal hnd
      rw [hnx] at hnd hnxt hn2
      rw [hal, if_pos rfl] at hns
      refine am_ (R_ (M_ r_ (F_ r_ (L_ 1 r_ (o_ r_ (br_ r_ (fun hlen => o_ r_ (bw_ r_ r_ (T_ (aq_ r_ u_ (as_ (al_ (B_ (am_ (R_ (M_ r_ (M_ r_ ?_)))))))))))))))))
      refine o_ r_ (ow_indexAddrN i r_ r_ r_ ha r_ b_ (o_ r_ (cb_ r_ r_ (o_ r_ (cd_ r_ (T_ (ap_ r_ r_ (as_ (al_ (R_ (M_ r_ (o_ r_ (bj_ r_ r_ g_ (E_ r_ (T_ (R_ (E_ r_ (T_ (au_ ?_)))))))))))))))))))
      refine jc_loopS (ι := Nat) [] (fun k => k ≤ ((g.blocks[i]).next).length) (fun k => (11, In .i64 (k : Int)) :: [(10, In .i64 (i : Int)), (7, .cell (.val V)), (8, .cell (.val (.slice none 0 0))), (9, In .i64 ((nAlP g.blocks i : Nat) + 1 : Int)), (1, .cell (.list ((rchL g.blocks (-1)).map Brow))), (2, .cell (.list ((domM g.blocks).map DRow))), (3, Ptr bx)]) (fun k => [.own V 3 1 ((lfPL g.blocks i k).map irow), .blk bx 28 g.row]) (fun k => ((g.blocks[i]).next).length - k) 0 (Nat.zero_le _) ?_ ?_ ?_
      · exact bc_ 0 r_ (bc_ 0 r_ sub_end)
      · (repeat (first | exact True.intro | refine ⟨rfl, ?_⟩))
      rintro k hk
      have eLk : (((g.blocks[i]).next).map Irow).length = ((g.blocks[i]).next).length := List.length_map _
      by_cases hltk : k < ((g.blocks[i]).next).length
      · have hltk2 : (k : Int) < ((((g.blocks[i]).next).map Irow).length : Int) := by omega
        have hkn : k < (nxOf g.blocks i).length := by rw [hnx]; exact hltk
        obtain ⟨y, hy⟩ : ∃ y, y = (g.blocks[i]).next[k] := ⟨_, rfl⟩
        have hy2 : (nxOf g.blocks i)[k] = y := by rw [hy]; simp only [hnx]
        have hyr : ((g.blocks[i]).next.map Irow)[k]? = some (Irow y) := by rw [List.getElem?_map, List.getElem?_eq_getElem hltk, hy]; rfl
        have hyb := (ch_next hck i).2.2 _ (List.getElem_mem hkn)
        have hno := fun h => lfPL_no hal hkn h
        have hyes := fun h0 h1 h => lfPL_yes hal hkn h0 h1 h
        rw [hy2] at hno hyes hyb
        have hyl : y.toNat < g.blocks.length := by omega
        have hdr := domM_at hyl
        have eY := eDr y.toNat
        have el := lfPL_len g.blocks i k
        have hbd := lfPL_bd (B := g.blocks) (b := i) (k := k) y.toNat
        cases hd : dmB g.blocks y.toNat i with
        | true =>
          have hdd := domR_at hlti hd
          have hs := hno hd
          refine am_ (R_ (M_ r_ (F_ r_ (L_ 1 r_ (M_ r_ (o_ r_ (cc_ r_ r_ g_ r_ r_ b_ (o_ r_ (cf_ r_ r_ r_ b_ r_ b_ (o_ r_ (cb_ r_ r_ (o_ r_ (br_ r_ (fun hlen => o_ r_ (bw_ r_ r_ (T_ (aq_ r_ u_ (as_ (al_ (B_ ?_))))))))))))))))))))
          refine R_ (F_ r_ (L_ 1 r_ (M_ r_ (o_ r_ (cc_ r_ r_ g_ r_ r_ b_ (o_ r_ (cf_ r_ r_ r_ b_ r_ b_ (o_ r_ (cb_ r_ r_ (M_ r_ (o_ r_ (ow_indexAddrN k r_ r_ r_ hyr r_ b_ (o_ r_ (cb_ r_ r_ (E_ r_ (T_ (R_ (M_ r_ (M_ r_ (o_ r_ (ow_indexAddrN y.toNat r_ r_ g_ hdr r_ b_ ?_)))))))))))))))))))))
          refine o_ r_ (cb_ r_ r_ (M_ r_ (o_ r_ (ow_indexAddrN i r_ r_ r_ hdd r_ b_ (o_ r_ (cb_ r_ r_ (o_ r_ (cd_ r_ (T_ (ap_ r_ r_ (as_ (ay_ (al_ (an_ (M_ r_ (o_ r_ (bj_ r_ r_ g_ (E_ r_ (ak_ (jq_againS (i := k) (k + 1) hltk g_ ?_ ?_))))))))))))))))))))
          · rw [hs]
            exact bc_ 0 r_ (bc_ 0 r_ sub_end)
          · (repeat (first | exact True.intro | refine ⟨rfl, ?_⟩))
        | false =>
          have hdd := domR_at hlti hd
          have hs := hyes (by omega) (by omega) hd
          refine am_ (R_ (M_ r_ (F_ r_ (L_ 1 r_ (M_ r_ (o_ r_ (cc_ r_ r_ g_ r_ r_ b_ (o_ r_ (cf_ r_ r_ r_ b_ r_ b_ (o_ r_ (cb_ r_ r_ (o_ r_ (br_ r_ (fun hlen => o_ r_ (bw_ r_ r_ (T_ (aq_ r_ u_ (as_ (al_ (B_ ?_))))))))))))))))))))
          refine R_ (F_ r_ (L_ 1 r_ (M_ r_ (o_ r_ (cc_ r_ r_ g_ r_ r_ b_ (o_ r_ (cf_ r_ r_ r_ b_ r_ b_ (o_ r_ (cb_ r_ r_ (M_ r_ (o_ r_ (ow_indexAddrN k r_ r_ r_ hyr r_ b_ (o_ r_ (cb_ r_ r_ (E_ r_ (T_ (R_ (M_ r_ (M_ r_ (o_ r_ (ow_indexAddrN y.toNat r_ r_ g_ hdr r_ b_ ?_)))))))))))))))))))))
          refine o_ r_ (cb_ r_ r_ (M_ r_ (o_ r_ (ow_indexAddrN i r_ r_ r_ hdd r_ b_ (o_ r_ (cb_ r_ r_ (o_ r_ (cd_ r_ (T_ (aq_ r_ r_ (an_ (M_ r_ (M_ r_ (o_ r_ (ow_indexI 0 r_ r_ r_ g_ r_ (o_ r_ (ow_loadI 0 r_ r_ r_ g_ (o_ r_ (bj_ r_ r_ g_ (o_ r_ (ow_indexI 0 r_ r_ r_ g_ r_ (ag_ (ow_storeI 0 r_ r_ r_ g_ r_ (ak_ ?_))))))))))))))))))))))))
          refine ay_ (al_ (an_ (M_ r_ (o_ r_ (bj_ r_ r_ g_ (E_ r_ (ak_ (jq_againS (i := k) (k + 1) hltk g_ ?_ ?_))))))))
          · rw [hs]
            exact bc_ 0 r_ (bc_ 0 r_ sub_end)
          · (repeat (first | exact True.intro | refine ⟨rfl, ?_⟩))
      · have hltk2 : ¬ (k : Int) < ((((g.blocks[i]).next).map Irow).length : Int) := by omega
        have hkn : k = (g.blocks[i]).next.length := by omega
        rw [hkn, ← hnxt]
        refine am_ (R_ (M_ r_ (F_ r_ (L_ 1 r_ (M_ r_ (o_ r_ (cc_ r_ r_ g_ r_ r_ b_ (o_ r_ (cf_ r_ r_ r_ b_ r_ b_ (o_ r_ (cb_ r_ r_ (o_ r_ (br_ r_ (fun hlen => o_ r_ (bw_ r_ r_ (T_ (ap_ r_ v_ (av_ (ax_ (ax_ ?_))))))))))))))))))))
        refine ba_ (ay_ (al_ (an_ (M_ r_ (o_ r_ (bj_ r_ r_ g_ (E_ r_ (ak_ (jq_againS (i := i) (i + 1) hlti g_ ?_ ?_)))))))))
        · exact bc_ 0 r_ (bc_ 0 r_ sub_end)
        · rw [hns]
          (repeat (first | exact True.intro | refine ⟨rfl, ?_⟩))
  · have hlti2 : ¬ (i : Int) < (((g.blocks).map Bk.row).length : Int) := by omega
    have ein : i = g.blocks.length := by omega
    have e1 : lfPL g.blocks i 0 = lf0 g.blocks := by rw [ein]; exact lfPL_end _
    have e3 : nAlP g.blocks i = nAl g.blocks := by rw [ein]; rfl
    have e4 : nAl g.blocks ≤ 64 := by rw [← e3]; exact Nat.le_trans (nAlP_le _ _) (by omega)
    have elf := lf0_len g.blocks
    rw [e1, e3]
    clear e1 e3
    refine am_ (R_ (M_ r_ (F_ r_ (L_ 1 r_ (o_ r_ (br_ r_ (fun hlen => o_ r_ (bw_ r_ r_ (T_ (ap_ r_ w_ (av_ (ax_ (ax_ (ba_ (al_ (am_ (R_ ?_)))))))))))))))))
    refine E_ r_ (T_ (au_ (jc_ownNil 3 1 g_ ?_)))
    refine jc_loopS (ι := Nat × Value) [] (fun i => i.1 ≤ (g.blocks).length) (fun i => (13, In .i64 (i.1 : Int)) :: [(8, .cell (.val i.2)), (7, .cell (.val V)), (9, In .i64 ((nAl g.blocks : Nat) : Int)), (1, .cell (.list ((rchL g.blocks (-1)).map Brow))), (2, .cell (.list ((domM g.blocks).map DRow))), (3, Ptr bx)]) (fun i => [.own i.2 3 1 ((rdyP g.blocks i.1).map irow), .own V 3 1 ((lf0 g.blocks).map irow), .blk bx 28 g.row]) (fun i => (g.blocks).length - i.1) (0, .slice none 0 0) (Nat.zero_le _) ?_ ?_ ?_
    · exact bc_ 0 r_ (bc_ 0 r_ (bc_ 0 r_ sub_end))
    · (repeat (first | exact True.intro | refine ⟨rfl, ?_⟩))
    rintro ⟨b, r⟩ hz
    dsimp only at hz ⊢
    obtain hb := hz
    have eLb : ((g.blocks).map Bk.row).length = (g.blocks).length := List.length_map _
    by_cases hltb : b < (g.blocks).length
    · have hltb2 : (b : Int) < (((g.blocks).map Bk.row).length : Int) := by omega
      have hrl := rdyP_len g.blocks b
      have hrs : rdyP g.blocks (b + 1) = rdyP g.blocks b ++ if alB g.blocks b && decide ((lf0 g.blocks).getD b 0 = 0) then [(b : Int)] else [] := rdy_snoc g.blocks b
      cases hal : alB g.blocks b with
      | false =>
        have ha := rch_at hltb hal
        rw [hal, Bool.false_and, if_neg (by simp), List.append_nil] at hrs
        refine am_ (R_ (M_ r_ (F_ r_ (L_ 2 r_ (o_ r_ (br_ r_ (fun hlen => o_ r_ (bw_ r_ r_ (T_ (aq_ r_ u_ (as_ (al_ (B_ (R_ (M_ r_ (M_ r_ (o_ r_ (ow_indexAddrN b r_ r_ r_ ha r_ b_ ?_))))))))))))))))))
        refine o_ r_ (cb_ r_ r_ (M_ r_ (ai_ r_ r_ b_ (ai_ r_ r_ b_ (ai_ r_ r_ b_ (ai_ r_ r_ b_ (ai_ r_ r_ b_ (o_ r_ (bv_ r_ r_ r_ (T_ (ap_ r_ r_ (as_ (ay_ (al_ (an_ (M_ r_ (o_ r_ (bj_ r_ r_ g_ ?_))))))))))))))))))
        refine E_ r_ (ak_ (jq_againS (i := (b, r)) (b + 1, r) hltb (by dsimp only; omega) ?_ ?_))
        · dsimp only
          rw [hrs]
          exact bc_ 0 r_ (bc_ 0 r_ (bc_ 0 r_ sub_end))
        · (repeat (first | exact True.intro | refine ⟨rfl, ?_⟩))
      | true =>
        have ha := rch_at hltb hal
        rw [hal, Bool.true_and] at hrs
        by_cases hz : (lf0 g.blocks).getD b 0 = 0
        · have hz2 : (lf0 g.blocks).getD (b : Int).toNat 0 = 0 := hz
          rw [decide_eq_true hz, if_pos rfl] at hrs
          refine am_ (R_ (M_ r_ (F_ r_ (L_ 2 r_ (o_ r_ (br_ r_ (fun hlen => o_ r_ (bw_ r_ r_ (T_ (aq_ r_ u_ (as_ (al_ (B_ (R_ (M_ r_ (M_ r_ (o_ r_ (ow_indexAddrN b r_ r_ r_ ha r_ b_ ?_))))))))))))))))))
          refine o_ r_ (cb_ r_ r_ (M_ r_ (ah_ r_ r_ b_ (bd_ r_ (ah_ r_ r_ b_ (bd_ r_ (ah_ r_ r_ b_ (ow_indexI 1 r_ r_ r_ g_ r_ (ah_ r_ r_ b_ (ow_loadI 1 r_ r_ r_ g_ (ah_ r_ r_ b_ (bn_ r_ r_ (o_ r_ (bp_ r_ r_ r_ (T_ (aq_ r_ u_ (an_ (M_ r_ (M_ r_ (o_ r_ (bq_ r_ r_ b_ r_ r_ b_ ?_)))))))))))))))))))))
          refine o_ r_ (ow_append1 0 ((b : Int)) rfl rfl rfl rfl rfl rfl rfl (fun _ => rfl) (by show (_ + _) * 8 ≤ _; first | omega | (simp only [List.length_append]; omega)) (by first | omega | (simp only [List.length_append]; omega)) (fun v1 hv1 => E_ r_ (ak_ (ay_ (al_ (an_ (M_ r_ (o_ r_ (bj_ r_ r_ g_ (E_ r_ (ak_ (jq_againS (i := (b, r)) (b + 1, v1) hltb (by dsimp only; omega) ?_ ?_))))))))))))
          · dsimp only
            rw [hrs]
            exact bc_ 0 r_ (bc_ 0 r_ (bc_ 0 r_ sub_end))
          · (repeat (first | exact True.intro | refine ⟨rfl, ?_⟩))
        · have hz2 : ¬ (lf0 g.blocks).getD (b : Int).toNat 0 = 0 := hz
          rw [decide_eq_false hz, if_neg (by simp), List.append_nil] at hrs
          refine am_ (R_ (M_ r_ (F_ r_ (L_ 2 r_ (o_ r_ (br_ r_ (fun hlen => o_ r_ (bw_ r_ r_ (T_ (aq_ r_ u_ (as_ (al_ (B_ (R_ (M_ r_ (M_ r_ (o_ r_ (ow_indexAddrN b r_ r_ r_ ha r_ b_ ?_))))))))))))))))))
          refine o_ r_ (cb_ r_ r_ (M_ r_ (ah_ r_ r_ b_ (bd_ r_ (ah_ r_ r_ b_ (bd_ r_ (ah_ r_ r_ b_ (ow_indexI 1 r_ r_ r_ g_ r_ (ah_ r_ r_ b_ (ow_loadI 1 r_ r_ r_ g_ (ah_ r_ r_ b_ (bn_ r_ r_ (o_ r_ (bp_ r_ r_ r_ (T_ (ap_ r_ w_ (as_ (ay_ (al_ (an_ (M_ r_ (o_ r_ (bj_ r_ r_ g_ ?_)))))))))))))))))))))))
          refine E_ r_ (ak_ (jq_againS (i := (b, r)) (b + 1, r) hltb (by dsimp only; omega) ?_ ?_))
          · dsimp only
            rw [hrs]
            exact bc_ 0 r_ (bc_ 0 r_ (bc_ 0 r_ sub_end))
          · (repeat (first | exact True.intro | refine ⟨rfl, ?_⟩))
    · have hltb2 : ¬ (b : Int) < (((g.blocks).map Bk.row).length : Int) := by omega
      have e2 : rdyP g.blocks b = rdy g.blocks := by rw [show b = g.blocks.length by omega]; exact rdyP_end _
      have hrb := rdyP_len g.blocks b
      rw [e2] at hrb
      have hin := ordI_init hck
      rw [e2]
      clear e2
      refine am_ (R_ (M_ r_ (F_ r_ (L_ 2 r_ (o_ r_ (br_ r_ (fun hlen => o_ r_ (bw_ r_ r_ (T_ (ap_ r_ w_ (av_ (ax_ (ax_ (ba_ (al_ (am_ (jc_toQ 8 0 rfl rfl ?_)))))))))))))))))
      refine au_ ?_
      refine jc_loopS (ι := List Int × Value × Nat × List Int × Nat) [] (fun i => OrdI g i.1 (i.2.2.2.1.drop i.2.2.1) i.2.2.2.2 ∧ i.2.2.2.1.length ≤ 64 + 2 * i.2.2.2.2) (fun i => [(8, .cell (QC i.2.1 i.2.2.1 1)), (7, .cell (.val V)), (9, In .i64 ((nAl g.blocks : Int) - (i.2.2.2.2 : Int))), (2, .cell (.list ((domM g.blocks).map DRow))), (3, Ptr bx)]) (fun i => [.own V 3 1 (i.1.map irow), .own i.2.1 3 1 (i.2.2.2.1.map irow), .blk bx 28 g.row]) (fun i => mK (i.1, i.2.2.2.1.drop i.2.2.1)) (lf0 g.blocks, r, 0, rdy g.blocks, 0) ⟨hin, by dsimp only; omega⟩ ?_ ?_ ?_
      · exact bc_ 1 r_ (bc_ 0 r_ (bc_ 0 r_ sub_end))
      · rw [show (nAl g.blocks : Int) - ((0 : Nat) : Int) = (nAl g.blocks : Int) by omega]
        (repeat (first | exact True.intro | refine ⟨rfl, ?_⟩))
      rintro ⟨l, q, m, L, dn⟩ ⟨hP, hLn⟩
      dsimp only at hP hLn ⊢
      have eL : (L.map irow).length = L.length := List.length_map _
      have hll := hP.len
      have hdn := hP.few
      by_cases hlt : m < L.length
      · have hlt2 : ((L.map irow).length : Int) - (m : Int) > 0 := by omega
        obtain ⟨x, T, hT⟩ : ∃ x T, L.drop m = x :: T := by
          cases hd : L.drop m with
          | nil => have := congrArg List.length hd; rw [List.length_drop, List.length_nil] at this; omega
          | cons x T => exact ⟨x, T, rfl⟩
        obtain ⟨_, hT2⟩ := drop_lt hT
        rw [hT] at hP
        obtain ⟨hx0, hxl⟩ := hP.inr x (by simp)
        have hxn : x.toNat < g.blocks.length := by omega
        have hnx := nx_at hxn
        have hxr : (g.blocks.map Bk.row)[x.toNat]? = some (Bk.row g.blocks[x.toNat]) := by rw [List.getElem?_map, List.getElem?_eq_getElem hxn]; rfl
        have hst0 : OrdJ g x.toNat (mK (l, T)) (kAll g.blocks (lf0 g.blocks, rdy g.blocks) 0) dn 0 l (L.drop (m + 1)) := by rw [hT2]; exact hP.start hck
        have hn2 := (ch_next hck x.toNat).1
        rw [hnx] at hn2
        refine am_ (R_ (M_ r_ (o_ r_ (ow_lenQ 1 rfl rfl (fun _ => o_ r_ (bz_ r_ r_ (T_ (aq_ r_ u_ (as_ (al_ (B_ (R_ (M_ r_ (o_ r_ (ow_indexQ 1 rfl rfl rfl g_ (by rw [List.length_map] ; show m + 0 < _ ; omega) rfl (o_ r_ (ow_loadQI 1 r_ r_ r_ hT (E_ r_ (T_ ?_)))))))))))))))))))
        refine R_ (M_ r_ (o_ r_ (ow_sufQ 1 rfl rfl rfl rfl (by rw [List.length_map] ; omega) rfl (E_ r_ (T_ (R_ (E_ r_ (T_ (au_ ?_)))))))))
        refine jc_loopS (ι := Nat × List Int × Value × Nat × List Int) [] (fun i => i.1 ≤ ((g.blocks[x.toNat]).next).length ∧ OrdJ g x.toNat (mK (l, T)) (kAll g.blocks (lf0 g.blocks, rdy g.blocks) 0) dn i.1 i.2.1 (i.2.2.2.2.drop i.2.2.2.1) ∧ i.2.2.2.2.length ≤ 64 + 2 * dn + i.1) (fun i => (15, In .i64 (i.1 : Int)) :: [(14, In .i64 x), (8, .cell (QC i.2.2.1 i.2.2.2.1 1)), (7, .cell (.val V)), (9, In .i64 ((nAl g.blocks : Int) - (dn : Int))), (2, .cell (.list ((domM g.blocks).map DRow))), (3, Ptr bx)]) (fun i => [.own V 3 1 (i.2.1.map irow), .own i.2.2.1 3 1 (i.2.2.2.2.map irow), .blk bx 28 g.row]) (fun i => ((g.blocks[x.toNat]).next).length - i.1) (0, l, q, m + 1, L) ⟨Nat.zero_le _, hst0, by dsimp only; omega⟩ ?_ ?_ ?_
        · exact bc_ 0 r_ (bc_ 0 r_ (bc_ 0 r_ sub_end))
        · (repeat (first | exact True.intro | refine ⟨rfl, ?_⟩))
        rintro ⟨k, l1, q1, m1, L1⟩ hz
        dsimp only at hz ⊢
        obtain ⟨hk, ⟨hJ, hL1⟩⟩ := hz
        have eLk : (((g.blocks[x.toNat]).next).map Irow).length = ((g.blocks[x.toNat]).next).length := List.length_map _
        by_cases hltk : k < ((g.blocks[x.toNat]).next).length
        · have hltk2 : (k : Int) < ((((g.blocks[x.toNat]).next).map Irow).length : Int) := by omega
          have hl1 := hJ.len
          have hkn : k < (nxOf g.blocks x.toNat).length := by rw [hnx]; exact hltk
          obtain ⟨y, hy⟩ : ∃ y, y = (g.blocks[x.toNat]).next[k] := ⟨_, rfl⟩
          have hy2 : (nxOf g.blocks x.toNat)[k] = y := by rw [hy]; simp only [hnx]
          have hyr : ((g.blocks[x.toNat]).next.map Irow)[k]? = some (Irow y) := by rw [List.getElem?_map, List.getElem?_eq_getElem hltk, hy]; rfl
          have hyb := (ch_next hck x.toNat).2.2 _ (List.getElem_mem hkn)
          have hgo := fun h => hJ.go hck hkn h
          have hno := fun h => hJ.no hkn h
          rw [hy2] at hyb hgo hno
          have hyl0 : y.toNat < g.blocks.length := by omega
          have hdr := domM_at hyl0
          have eY := eDr y.toNat
          cases hd : dmB g.blocks y.toNat x.toNat with
          | true =>
            have hdd := domR_at hxn hd
            refine am_ (R_ (M_ r_ (F_ r_ (L_ 2 r_ (M_ r_ (o_ r_ (ow_indexAddrN x.toNat r_ r_ g_ hxr r_ b_ (o_ r_ (cf_ r_ r_ r_ b_ r_ b_ (o_ r_ (cb_ r_ r_ (o_ r_ (br_ r_ (fun hlen => o_ r_ (bw_ r_ r_ (T_ (aq_ r_ u_ (as_ (al_ (B_ ?_))))))))))))))))))))
            refine R_ (F_ r_ (L_ 2 r_ (M_ r_ (o_ r_ (ow_indexAddrN x.toNat r_ r_ g_ hxr r_ b_ (o_ r_ (cf_ r_ r_ r_ b_ r_ b_ (o_ r_ (cb_ r_ r_ (M_ r_ (o_ r_ (ow_indexAddrN k r_ r_ r_ hyr r_ b_ (o_ r_ (cb_ r_ r_ (E_ r_ (T_ (R_ (M_ r_ (M_ r_ (o_ r_ (ow_indexAddrN y.toNat r_ r_ g_ hdr r_ b_ ?_)))))))))))))))))))))
            refine o_ r_ (cb_ r_ r_ (M_ r_ (o_ r_ (ow_indexAddrN x.toNat r_ r_ g_ hdd r_ b_ (o_ r_ (cb_ r_ r_ (o_ r_ (cd_ r_ (T_ (ap_ r_ r_ (as_ (ay_ (al_ (an_ (M_ r_ (o_ r_ (bj_ r_ r_ g_ (E_ r_ (ak_ (jq_againS (i := (k, l1, q1, m1, L1)) (k + 1, l1, q1, m1, L1) ⟨hltk, hno hd, by dsimp only; omega⟩ (by dsimp only; omega) ?_ ?_))))))))))))))))))))
            · exact bc_ 0 r_ (bc_ 0 r_ (bc_ 0 r_ sub_end))
            · (repeat (first | exact True.intro | refine ⟨rfl, ?_⟩))
          | false =>
            have hdd := domR_at hxn hd
            have hyl : y.toNat < l1.length := by omega
            have hbd := hJ.bnd y.toNat
            have hgs := getD_setS (n := l1.getD y.toNat 0 - 1) hyl
            have hsl : (l1.set y.toNat (l1.getD y.toNat 0 - 1)).length = l1.length := List.length_set
            have hg2 := hgo hd
            by_cases hz : l1.getD y.toNat 0 - 1 = 0
            · have hz2 : (l1.set y.toNat (l1.getD y.toNat 0 - 1)).getD y.toNat 0 = 0 := by rw [hgs]; exact hz
              rw [if_pos hz] at hg2
              refine am_ (R_ (M_ r_ (F_ r_ (L_ 2 r_ (M_ r_ (o_ r_ (ow_indexAddrN x.toNat r_ r_ g_ hxr r_ b_ (o_ r_ (cf_ r_ r_ r_ b_ r_ b_ (o_ r_ (cb_ r_ r_ (o_ r_ (br_ r_ (fun hlen => o_ r_ (bw_ r_ r_ (T_ (aq_ r_ u_ (as_ (al_ (B_ ?_))))))))))))))))))))
              refine R_ (F_ r_ (L_ 2 r_ (M_ r_ (o_ r_ (ow_indexAddrN x.toNat r_ r_ g_ hxr r_ b_ (o_ r_ (cf_ r_ r_ r_ b_ r_ b_ (o_ r_ (cb_ r_ r_ (M_ r_ (o_ r_ (ow_indexAddrN k r_ r_ r_ hyr r_ b_ (o_ r_ (cb_ r_ r_ (E_ r_ (T_ (R_ (M_ r_ (M_ r_ (o_ r_ (ow_indexAddrN y.toNat r_ r_ g_ hdr r_ b_ ?_)))))))))))))))))))))
              refine o_ r_ (cb_ r_ r_ (M_ r_ (o_ r_ (ow_indexAddrN x.toNat r_ r_ g_ hdd r_ b_ (o_ r_ (cb_ r_ r_ (o_ r_ (cd_ r_ (T_ (aq_ r_ r_ (R_ (M_ r_ (M_ r_ (o_ r_ (ow_indexI 0 r_ r_ r_ g_ r_ (o_ r_ (ow_loadI 0 r_ r_ r_ g_ (o_ r_ (cg_ r_ r_ g_ (o_ r_ (ow_indexI 0 r_ r_ r_ g_ r_ (ag_ (ow_storeI 0 r_ r_ r_ g_ r_ (T_ ?_))))))))))))))))))))))))
              refine R_ (M_ r_ (M_ r_ (o_ r_ (ow_indexI 0 r_ r_ r_ g_ r_ (o_ r_ (ow_loadI 0 r_ r_ r_ g_ (o_ r_ (bn_ r_ r_ (T_ (aq_ r_ u_ (an_ (M_ r_ (M_ r_ (o_ r_ (bq_ r_ r_ b_ r_ r_ b_ (o_ r_ (ow_appendQM 1 (f := irow) (l1 := L1) (l2 := [y]) rfl rfl rfl rfl rfl rfl rfl (fun _ => rfl) (by show (_ + 1) * 8 ≤ _ ; omega) (by show _ + 1 ≤ _ ; omega) (fun q2 m2 L2 hq2 hm2 hL2 hl2 => E_ r_ (ak_ (ay_ ?_))))))))))))))))))))
              refine al_ (an_ (M_ r_ (o_ r_ (bj_ r_ r_ g_ (E_ r_ (ak_ ?_))))))
              rw [List.length_singleton] at hl2
              rw [← hL2] at hg2
              refine jq_againS (i := (k, l1, q1, m1, L1)) (k + 1, l1.set y.toNat (l1.getD y.toNat 0 - 1), q2, m2, L2) ⟨hltk, hg2, by dsimp only; omega⟩ (by dsimp only; omega) ?_ ?_
              · exact bc_ 1 r_ (bc_ 0 r_ (bc_ 0 r_ sub_end))
              · (repeat (first | exact True.intro | refine ⟨rfl, ?_⟩))
            · have hz2 : ¬ (l1.set y.toNat (l1.getD y.toNat 0 - 1)).getD y.toNat 0 = 0 := by rw [hgs]; exact hz
              rw [if_neg hz] at hg2
              refine am_ (R_ (M_ r_ (F_ r_ (L_ 2 r_ (M_ r_ (o_ r_ (ow_indexAddrN x.toNat r_ r_ g_ hxr r_ b_ (o_ r_ (cf_ r_ r_ r_ b_ r_ b_ (o_ r_ (cb_ r_ r_ (o_ r_ (br_ r_ (fun hlen => o_ r_ (bw_ r_ r_ (T_ (aq_ r_ u_ (as_ (al_ (B_ ?_))))))))))))))))))))
              refine R_ (F_ r_ (L_ 2 r_ (M_ r_ (o_ r_ (ow_indexAddrN x.toNat r_ r_ g_ hxr r_ b_ (o_ r_ (cf_ r_ r_ r_ b_ r_ b_ (o_ r_ (cb_ r_ r_ (M_ r_ (o_ r_ (ow_indexAddrN k r_ r_ r_ hyr r_ b_ (o_ r_ (cb_ r_ r_ (E_ r_ (T_ (R_ (M_ r_ (M_ r_ (o_ r_ (ow_indexAddrN y.toNat r_ r_ g_ hdr r_ b_ ?_)))))))))))))))))))))
              refine o_ r_ (cb_ r_ r_ (M_ r_ (o_ r_ (ow_indexAddrN x.toNat r_ r_ g_ hdd r_ b_ (o_ r_ (cb_ r_ r_ (o_ r_ (cd_ r_ (T_ (aq_ r_ r_ (R_ (M_ r_ (M_ r_ (o_ r_ (ow_indexI 0 r_ r_ r_ g_ r_ (o_ r_ (ow_loadI 0 r_ r_ r_ g_ (o_ r_ (cg_ r_ r_ g_ (o_ r_ (ow_indexI 0 r_ r_ r_ g_ r_ (ag_ (ow_storeI 0 r_ r_ r_ g_ r_ (T_ ?_))))))))))))))))))))))))
              refine R_ (M_ r_ (M_ r_ (o_ r_ (ow_indexI 0 r_ r_ r_ g_ r_ (o_ r_ (ow_loadI 0 r_ r_ r_ g_ (o_ r_ (bn_ r_ r_ (T_ (ap_ r_ w_ (as_ (ay_ (al_ (an_ (M_ r_ (o_ r_ (bj_ r_ r_ g_ (E_ r_ (ak_ ?_)))))))))))))))))))
              refine jq_againS (i := (k, l1, q1, m1, L1)) (k + 1, l1.set y.toNat (l1.getD y.toNat 0 - 1), q1, m1, L1) ⟨hltk, hg2, by dsimp only; omega⟩ (by dsimp only; omega) ?_ ?_
              · exact bc_ 0 r_ (bc_ 0 r_ (bc_ 0 r_ sub_end))
              · (repeat (first | exact True.intro | refine ⟨rfl, ?_⟩))
        · have hltk2 : ¬ (k : Int) < ((((g.blocks[x.toNat]).next).map Irow).length : Int) := by omega
          have hl1 := hJ.len
          have hfn := hJ.fin (by rw [hnx]; omega) (by omega)
          have hms : mK (l, x :: T) = mK (l, T) + 1 := by unfold mK; simp only [List.length_cons]; omega
          refine am_ (R_ (M_ r_ (F_ r_ (L_ 2 r_ (M_ r_ (o_ r_ (ow_indexAddrN x.toNat r_ r_ g_ hxr r_ b_ (o_ r_ (cf_ r_ r_ r_ b_ r_ b_ (o_ r_ (cb_ r_ r_ (o_ r_ (br_ r_ (fun hlen => o_ r_ (bw_ r_ r_ (T_ (ap_ r_ w_ (av_ (ax_ (ax_ ?_))))))))))))))))))))
          refine ba_ (ay_ (al_ (an_ (M_ r_ (o_ r_ (cg_ r_ r_ g_ (E_ r_ (ak_ (jq_againS (i := (l, q, m, L, dn)) (l1, q1, m1, L1, dn + 1) ⟨hfn.1, by dsimp only; omega⟩ (by dsimp only; rw [hT]; have := hfn.2; omega) ?_ ?_)))))))))
          · exact bc_ 0 r_ (bc_ 0 r_ (bc_ 0 r_ sub_end))
          · rw [show (nAl g.blocks : Int) - ((dn + 1 : Nat) : Int) = (nAl g.blocks : Int) - (dn : Int) - 1 by omega]
            (repeat (first | exact True.intro | refine ⟨rfl, ?_⟩))
      · have hlt2 : ¬ ((L.map irow).length : Int) - (m : Int) > 0 := by omega
        rw [List.drop_eq_nil_of_le (by omega)] at hP
        have hres : decide ((nAl g.blocks : Int) - (dn : Int) = 0) = acyB g.blocks := by
          have := hP.all
          rw [kAll_nil] at this
          unfold acyB
          rw [← this]
          exact decide_eq_decide.2 g_
        refine am_ (R_ (M_ r_ (o_ r_ (ow_lenQ 1 rfl rfl (fun _ => o_ r_ (bz_ r_ r_ (T_ (ap_ r_ w_ (av_ (ax_ (ax_ (ba_ (al_ (R_ (M_ r_ (o_ r_ (bn_ r_ r_ (E_ r_ ?_))))))))))))))))))
        refine T_ (ar_ (jq_bl 6 rfl hres (jq_ret1 rfl rfl [] rfl (fun K h => h))))
end Go.Proofs.Ytpolnonbgaolkaa
end

section
namespace Go.Proofs.Ytpolnonbgaolkaa
open Go.Vc
attribute [local irreducible] JL JC JQ OpWp Con ConN
set_option maxHeartbeats 4000000

abbrev LzR (x : Lz) : List C := LpRow x.1 0
abbrev CFZ : S := .cell (.val (.func (.func 34) #[] #[]))
abbrev OwZ (V : Value) (l : List Lz) : Ch := .own V 49 5 (l.map LzR)
theorem zmap_at {l : List Lz} {i : Nat} (h : i < l.length) : (l.map LzR)[i]? = some (LzR l[i]) := by
  rw [List.getElem?_map, List.getElem?_eq_getElem h]
  rfl
theorem zmap_at2 {l : List Lz} {i j : Nat} {r : List C} (hij : j ≠ i) (h : i < l.length) : ((l.map LzR).set j r)[i]? = some (LzR l[i]) := by
  rw [List.getElem?_set_ne hij, zmap_at h]
theorem zmap_sw {l : List Lz} {i j : Nat} (hi : i < l.length) (hj : j < l.length) : ((l.map LzR).set i (LzR l[j])).set j (LzR l[i]) = (sw l i j).map LzR := by
  rw [sw_eq hi hj, List.map_set, List.map_set]

theorem zswapRange_c (V : Value) (l : List Lz) (a b n : Nat) (hab : a + n ≤ b) (hb : b + n ≤ l.length) (hl : l.length ≤ 1000000) :
    Con Try.prog 101 [.cell (.val V), In .i64 (a : Int), In .i64 (b : Int), In .i64 (n : Int), CFZ] [OwZ V l] (fun K => ∀ l' : List Lz, (l'.length = l.length ∧ l'.Perm l ∧ ∀ p, l'[p]? = l[swpI a b n p]?) → K (.tup []) [OwZ V l']) := by
  refine con_intro Try.func101 rfl rfl (Nat.le_of_ble_eq_true rfl) (fun c hc => R_ (E_ r_ (T_ (au_ ?_))))
  refine jc_loopS (ι := Nat × List Lz) [] (fun i => i.1 ≤ n ∧ i.2.length = l.length ∧ i.2.Perm l ∧ ∀ p, i.2[p]? = l[swpI a b i.1 p]?) (fun i => [(0, .cell (.val V)), (1, In .i64 (a : Int)), (2, In .i64 (b : Int)), (3, In .i64 (n : Int)), (10, In .i64 (i.1 : Int))]) (fun i => [OwZ V i.2]) (fun i => n - i.1) (0, l) ⟨Nat.zero_le _, rfl, .refl _, fun p => by rw [swp_zero]⟩ ?_ ?_ ?_
  · exact bc_ 0 r_ sub_end
  · (repeat (first | exact True.intro | refine ⟨rfl, ?_⟩))
  · rintro ⟨k, m⟩ ⟨hk, hlen, hperm, hm⟩
    dsimp only at hk hlen hperm hm ⊢
    refine jc_reset [(0, .cell (.val V)), (1, In .i64 (a : Int)), (2, In .i64 (b : Int)), (3, In .i64 (n : Int)), (10, In .i64 (k : Int))] [OwZ V m] ?_ ⟨[0], [], rfl⟩ ?_
    · (repeat (first | exact True.intro | refine ⟨rfl, ?_⟩))
    refine am_ (R_ (M_ r_ (M_ r_ (o_ r_ (bw_ r_ r_ (T_ (jc_condd rfl (fun hlt => ?_) (fun hge => ?_))))))))
    · have h1 : a + k < m.length := by omega
      have h2 : b + k < m.length := by omega
      refine as_ (al_ (B_ (jc_anyF 20 none [4,5,6,7] rfl k_ k_ k_ rfl (yM_ r_ (yM_ r_ (yM_ r_ (aa_ (fun c => bj_ r_ r_ g_ p_) (yM_ r_ (yM_ r_ (yM_ r_ (aa_ (fun c => bj_ r_ r_ g_ p_) (yM_ r_ (yM_ r_ (yM_ r_ (aa_ (fun c => bj_ r_ r_ g_ p_) ?_)))))))))))))))
      refine aa_ (fun c => dc_ 0 rfl rfl rfl g_ (by simp only [List.length_map]; omega) rfl p_) (aa_ (fun c => ow_loadInnN 0 (b + k) r_ r_ r_ g_ (zmap_at h2) r_ p_) (yM_ r_ (yM_ r_ (yM_ r_ (aa_ (fun c => bj_ r_ r_ g_ p_) (aa_ (fun c => dc_ 0 rfl rfl rfl g_ (by simp only [List.length_map]; omega) rfl p_) (aa_ (fun c => ow_loadInnN 0 (a + k) r_ r_ r_ g_ (zmap_at h1) r_ p_) (ae_ (afin_none ?_)))))))))
      refine o_ r_ (dc_ 0 rfl rfl rfl g_ (by simp only [List.length_map]; omega) rfl (ag_ (ow_storeInnAll 0 (a + k) r_ r_ r_ r_ g_ (zmap_at h1) r_ r_ r_ (o_ r_ (dc_ 0 rfl rfl rfl g_ (by simp only [List.length_map, List.length_set]; omega) rfl (ag_ (ow_storeInnAll 0 (b + k) r_ r_ r_ r_ g_ (zmap_at2 g_ h2) r_ r_ r_ (ak_ (jq_np (ay_ (al_ (an_ (M_ r_ (o_ r_ (bj_ r_ r_ g_ (E_ r_ (ak_ ?_)))))))))))))))))
      refine jq_againS (i := (k, m)) (k + 1, sw m (a + k) (b + k)) ⟨by dsimp only; omega, by rw [sw_len]; exact hlen, (sw_perm h1 h2).trans hperm, swp_step g_ g_ hlen hm⟩ (by dsimp only; omega) ?_ ?_
      · dsimp only
        rw [zmap_sw h1 h2]
        exact bc_ 0 r_ sub_end
      · (repeat (first | exact True.intro | refine ⟨rfl, ?_⟩))
    · obtain rfl : k = n := by omega
      refine av_ (ax_ (ax_ (ba_ (jq_retG (ss := []) (.inr rfl) rfl (is := [0]) rfl (fun K h => h m ⟨hlen, hperm, hm⟩)))))
end Go.Proofs.Ytpolnonbgaolkaa
end

section
namespace Go.Proofs.Ytpolnonbgaolkaa
open Go.Vc
attribute [local irreducible] JL JC JQ OpWp Con ConN
set_option maxHeartbeats 4000000

theorem zrotate_c (V : Value) (l : List Lz) (a m b : Nat) (ha : a < m) (hm : m < b) (hb : b ≤ l.length) (hl : l.length ≤ 1000000) :
    Con Try.prog 97 [.cell (.val V), In .i64 (a : Int), In .i64 (m : Int), In .i64 (b : Int), CFZ] [OwZ V l] (fun K => ∀ l' : List Lz, (Mv a b l l' ∧ ∀ p, l'[p]? = l[rotI a m b p]?) → K (.tup []) [OwZ V l']) := by
  refine con_intro Try.func97 rfl rfl (Nat.le_of_ble_eq_true rfl) (fun c hc => R_ (M_ r_ (M_ r_ (o_ r_ (cg_ r_ r_ g_ (E_ r_ (T_ (R_ (M_ r_ (M_ r_ (o_ r_ (cg_ r_ r_ g_ (E_ r_ (T_ (B_ ?_)))))))))))))))
  refine jc_loopS (ι := Nat × Nat × List Lz) [] (fun i => 0 < i.1 ∧ 0 < i.2.1 ∧ i.1 ≤ m - a ∧ i.2.1 ≤ b - m ∧ i.2.2.length = l.length ∧ i.2.2.Perm l ∧ ∀ p, i.2.2[rotI (m - i.1) m (m + i.2.1) p]? = l[rotI a m b p]?) (fun i => [(0, .cell (.val V)), (2, In .i64 (m : Int)), (4, CFZ), (10, In .i64 (i.1 : Int)), (11, In .i64 (i.2.1 : Int))]) (fun i => [OwZ V i.2.2]) (fun i => i.1 + i.2.1) (m - a, b - m, l) ⟨by dsimp only; omega, by dsimp only; omega, Nat.le_refl _, Nat.le_refl _, rfl, .refl _, fun p => by dsimp only; rw [show m - (m - a) = a by omega, show m + (b - m) = b by omega]⟩ ?_ ?_ ?_
  · exact bc_ 0 r_ sub_end
  · rw [show ((m : Int) - (a : Int)) = ((m - a : Nat) : Int) by omega, show ((b : Int) - (m : Int)) = ((b - m : Nat) : Int) by omega]
    (repeat (first | exact True.intro | refine ⟨rfl, ?_⟩))
  · rintro ⟨i, j, t⟩ ⟨hi0, hj0, hi, hj, hlen, hperm, ht⟩
    dsimp only at hi0 hj0 hi hj hlen hperm ht ⊢
    refine jc_reset [(0, .cell (.val V)), (2, In .i64 (m : Int)), (4, CFZ), (10, In .i64 (i : Int)), (11, In .i64 (j : Int))] [OwZ V t] ?_ ⟨[0], [], rfl⟩ ?_
    · (repeat (first | exact True.intro | refine ⟨rfl, ?_⟩))
    refine am_ (R_ (M_ r_ (M_ r_ (o_ r_ (bx_ r_ r_ (T_ (jc_condd rfl (fun hne => ?_) (fun heq => ?_))))))))
    · refine as_ (al_ (au_ (R_ (M_ r_ (M_ r_ (o_ r_ (bz_ r_ r_ (T_ (jc_condd rfl (fun hgt => ?_) (fun hle => ?_))))))))))
      · have hc1 := zswapRange_c V t (m - i) m j (by omega) (by omega) (by omega)
        rw [show ((m - i : Nat) : Int) = (m : Int) - (i : Int) by omega] at hc1
        refine R_ (M_ r_ (M_ r_ (M_ r_ (o_ r_ (cg_ r_ r_ g_ (M_ r_ (M_ r_ (M_ r_ (o_ r_ (bt_ [0] rfl rfl (hc1) (fun t2 h2 => ?_)))))))))))
        obtain ⟨g1, g2, g3⟩ := h2
        refine T_ (an_ (M_ r_ (M_ r_ (o_ r_ (cg_ r_ r_ g_ (E_ r_ (ak_ (ay_ (jq_againS (i := (i, j, t)) (i - j, j, t2) ⟨by dsimp only; omega, hj0, by dsimp only; omega, hj, g1.trans hlen, g2.trans hperm, fun p => by dsimp only; rw [g3, ← rot_gt m i j p g_ g_ hj0]; exact ht p⟩ (by dsimp only; omega) ?_ ?_)))))))))
        · exact bc_ 0 r_ sub_end
        · rw [show ((i : Int) - (j : Int)) = ((i - j : Nat) : Int) by omega]
          (repeat (first | exact True.intro | refine ⟨rfl, ?_⟩))
      · have hc1 := zswapRange_c V t (m - i) (m + j - i) i (by omega) (by omega) (by omega)
        rw [show ((m - i : Nat) : Int) = (m : Int) - (i : Int) by omega, show ((m + j - i : Nat) : Int) = (m : Int) + (j : Int) - (i : Int) by omega] at hc1
        refine R_ (M_ r_ (M_ r_ (M_ r_ (o_ r_ (cg_ r_ r_ g_ (M_ r_ (M_ r_ (o_ r_ (bj_ r_ r_ g_ (M_ r_ (o_ r_ (cg_ r_ r_ g_ (M_ r_ (M_ r_ (o_ r_ (bt_ [0] rfl rfl (hc1) (fun t2 h2 => ?_)))))))))))))))))
        obtain ⟨g1, g2, g3⟩ := h2
        refine T_ (an_ (M_ r_ (M_ r_ (o_ r_ (cg_ r_ r_ g_ (E_ r_ (ak_ (ay_ (jq_againS (i := (i, j, t)) (i, j - i, t2) ⟨hi0, by dsimp only; omega, hi, by dsimp only; omega, g1.trans hlen, g2.trans hperm, fun p => by dsimp only; rw [g3, ← rot_lt m i j p g_ g_ hi0]; exact ht p⟩ (by dsimp only; omega) ?_ ?_)))))))))
        · exact bc_ 0 r_ sub_end
        · rw [show ((j : Int) - (i : Int)) = ((j - i : Nat) : Int) by omega]
          (repeat (first | exact True.intro | refine ⟨rfl, ?_⟩))
    · obtain rfl : i = j := by omega
      have hc1 := zswapRange_c V t (m - i) m i (by omega) (by omega) (by omega)
      rw [show ((m - i : Nat) : Int) = (m : Int) - (i : Int) by omega] at hc1
      refine av_ (ax_ (ax_ (ba_ (al_ (an_ (M_ r_ (M_ r_ (M_ r_ (o_ r_ (cg_ r_ r_ g_ (M_ r_ (M_ r_ (M_ r_ (o_ r_ (bt_ [0] rfl rfl (hc1) (fun t2 h2 => ?_))))))))))))))))
      obtain ⟨g1, g2, g3⟩ := h2
      refine ak_ ?_
      have e : ∀ p, t2[p]? = l[rotI a m b p]? := fun p => by rw [g3, ← rot_eq m i p (by omega)]; exact ht p
      refine jq_retG (ss := []) (.inr rfl) rfl (is := [0]) rfl (fun K h => h t2 ⟨⟨g1.trans hlen, g2.trans hperm, fun p hp => by rw [e, (rot_in g_ g_).1 hp], fun p h1 h2 => ⟨_, ((rot_in g_ g_).2 h1 h2).1, ((rot_in g_ g_).2 h1 h2).2, e p⟩⟩, e⟩)

/-- What is sorted is small. -/
def okZ (l : List Lz) : Prop := ∀ x ∈ l, x.1.nodes.length ≤ 1000 ∧ x.2 < 1000
/-- The first place of what stands at a place. -/
def ix (l : List Lz) (p : Nat) : Nat := (l[p]?.map (·.2)).getD 0
theorem ix_get {l : List Lz} {p : Nat} (h : p < l.length) : ix l p = l[p].2 := by
  unfold ix
  rw [List.getElem?_eq_getElem h]
  rfl
theorem ix_eq {l l' : List Lz} {p q : Nat} (h : l'[p]? = l[q]?) : ix l' p = ix l q := by
  unfold ix
  rw [h]
theorem zcmp_c (x y : Lz) (hx : x.1.nodes.length ≤ 1000 ∧ x.2 < 1000) (hy : y.1.nodes.length ≤ 1000 ∧ y.2 < 1000) : Con Try.prog 34 [.row (LzR x), .row (LzR y)] [] (fun K => K (In .i64 ((y.1.nodes.length : Int) - (x.1.nodes.length : Int))) []) := by
  have e1 : (x.1.nodes.map Irow).length = x.1.nodes.length := List.length_map _
  have e2 : (y.1.nodes.map Irow).length = y.1.nodes.length := List.length_map _
  refine con_intro Try.func34 rfl rfl (Nat.le_of_ble_eq_true rfl) (fun c hc => R_ (o_ r_ (ci_ r_ (fun bx => o_ r_ (ci_ r_ (fun bx => E_ r_ (T_ (R_ (F_ r_ (L_ 0 r_ (o_ r_ (br_ r_ (fun hlen => F_ r_ (L_ 1 r_ (o_ r_ (br_ r_ (fun hlen => o_ r_ (cg_ r_ r_ g_ (E_ r_ (T_ ?_))))))))))))))))))))
  refine ar_ ?_
  rw [e1, e2]
  refine jq_ret1 rfl rfl [] rfl (fun K h => h)
theorem zokT_perm {l m : List Lz} (h : okZ l) (hp : m.Perm l) : okZ m := fun t ht => h t (hp.mem_iff.1 ht)

theorem zinsSort_c (V : Value) (l : List Lz) (a b : Nat) (hab : a ≤ b) (hb : b ≤ l.length) (hl : l.length ≤ 1000000) (hok : okZ l) (has : ∀ p q, a ≤ p → p < q → q < b → ix l p < ix l q) :
    Con Try.prog 84 [.cell (.val V), In .i64 (a : Int), In .i64 (b : Int), CFZ] [OwZ V l] (fun K => ∀ l' : List Lz, (Mv a b l l' ∧ So kLz l' a b) → K (.tup []) [OwZ V l']) := by
  refine con_intro Try.func84 rfl rfl (Nat.le_of_ble_eq_true rfl) (fun c hc => R_ (M_ r_ (o_ r_ (bj_ r_ r_ g_ (E_ r_ (T_ (au_ ?_)))))))
  refine jc_loopS (ι := Nat × List Lz) [] (fun i => a + 1 ≤ i.1 ∧ (i.1 ≤ b ∨ i.1 = a + 1) ∧ Mv a b l i.2 ∧ Mv a i.1 l i.2 ∧ So kLz i.2 a i.1) (fun i => [(0, .cell (.val V)), (1, In .i64 (a : Int)), (2, In .i64 (b : Int)), (3, CFZ), (8, In .i64 (i.1 : Int))]) (fun i => [OwZ V i.2]) (fun i => b + 1 - i.1) (a + 1, l) ⟨Nat.le_refl _, .inr rfl, Mv.refl _ _ _, Mv.refl _ _ _, so_small kLz (by dsimp only; omega)⟩ ?_ ?_ ?_
  · exact bc_ 0 r_ sub_end
  · (repeat (first | exact True.intro | refine ⟨rfl, ?_⟩))
  · rintro ⟨i, t⟩ ⟨h1, h2, hm, hmi, hs⟩
    dsimp only at h1 h2 hm hmi hs ⊢
    have htl : t.length = l.length := hm.len
    refine jc_reset [(0, .cell (.val V)), (1, In .i64 (a : Int)), (2, In .i64 (b : Int)), (3, CFZ), (8, In .i64 (i : Int))] [OwZ V t] ?_ ⟨[0], [], rfl⟩ ?_
    · (repeat (first | exact True.intro | refine ⟨rfl, ?_⟩))
    refine am_ (R_ (M_ r_ (M_ r_ (o_ r_ (bw_ r_ r_ (T_ (jc_condd rfl (fun hlt => ?_) (fun hge => ?_))))))))
    · have hib : i < b := by omega
      refine as_ (al_ (B_ (R_ (M_ r_ (E_ r_ (T_ (au_ ?_)))))))
      refine jc_loopS (ι := Nat × List Lz) [] (fun j => a ≤ j.1 ∧ j.1 ≤ i ∧ Mv a b l j.2 ∧ Mv a (i + 1) l j.2 ∧ (∀ p, j.2[p]? = t[bakI j.1 i p]?) ∧ Ins kLz j.2 a i j.1) (fun j => [(0, .cell (.val V)), (1, In .i64 (a : Int)), (2, In .i64 (b : Int)), (3, CFZ), (8, In .i64 (i : Int)), (9, In .i64 (j.1 : Int))]) (fun j => [OwZ V j.2]) (fun j => j.1) (i, t) ⟨by dsimp only; omega, Nat.le_refl _, hm, hmi.mono (Nat.le_refl _) g_, fun p => by dsimp only; rw [bak_zero], ins_start kLz hs⟩ ?_ ?_ ?_
      · exact bc_ 0 r_ sub_end
      · (repeat (first | exact True.intro | refine ⟨rfl, ?_⟩))
      · rintro ⟨j, u⟩ ⟨g1, g2, gm, gmi, gb, gi⟩
        dsimp only at g1 g2 gm gmi gb gi ⊢
        have hul : u.length = l.length := gm.len
        refine jc_reset [(0, .cell (.val V)), (1, In .i64 (a : Int)), (2, In .i64 (b : Int)), (3, CFZ), (8, In .i64 (i : Int)), (9, In .i64 (j : Int))] [OwZ V u] ?_ ⟨[0], [], rfl⟩ ?_
        · (repeat (first | exact True.intro | refine ⟨rfl, ?_⟩))
        by_cases hja : (a : Int) < (j : Int)
        · have hj1 : j < u.length := by omega
          have hj2 : j - 1 < u.length := by omega
          have ok1 := zokT_perm hok gm.perm u[j] (List.getElem_mem hj1)
          have ok2 := zokT_perm hok gm.perm u[j - 1] (List.getElem_mem hj2)
          have hcmp := zcmp_c u[j] u[j - 1] ok1 ok2
          have hix : u[j - 1].2 < u[j].2 := by
            rw [← ix_get hj1, ← ix_get hj2]
            have e1 : ix u j = ix l i := by
              rw [ix_eq (gb j), show bakI j i j = i by unfold bakI; rw [if_pos rfl], ix_eq (hmi.out i (.inr (Nat.le_refl _)))]
            have e2 : ix u (j - 1) = ix t (j - 1) := by
              rw [ix_eq (gb (j - 1)), show bakI j i (j - 1) = j - 1 by unfold bakI; rw [if_neg (by omega), if_neg (by omega)]]
            obtain ⟨q, q1, q2, q3⟩ := hmi.inn (j - 1) (by omega) (by omega)
            rw [e1, e2, ix_eq q3]
            exact has q i q1 q2 hib
          refine am_ (am_ (ao_ r_ r_ k_ k_ (yM_ r_ (yM_ r_ (aa_ (fun c => bz_ r_ r_ p_) (yM_ r_ (ab_ r_ u_ (fun c => bd_ r_ p_) (ab_ r_ u_ (fun c => bd_ r_ p_) (ab_ r_ u_ (fun c => bd_ r_ p_) (ab_ rfl u_ (fun c => dc_ 0 rfl rfl rfl g_ (by simp only [List.length_map]; omega) rfl p_) ?_))))))))))
          refine ab_ rfl (by (first | assumption | exact decide_eq_true rfl | exact decide_eq_true (by first | assumption | omega) | exact decide_eq_false (by first | assumption | omega) | with_reducible rfl | exact (rfl : false = !true) | exact (rfl : true = !false))) (fun c => ow_loadInnN 0 j rfl rfl rfl g_ (zmap_at hj1) rfl p_) (ab_ r_ u_ (fun c => bd_ r_ p_) (ab_ r_ u_ (fun c => bd_ r_ p_) ?_))
          refine ab_ r_ u_ (fun c => cg_ r_ r_ g_ p_) (ab_ rfl u_ (fun c => dc_ 0 rfl rfl rfl g_ (by simp only [List.length_map]; omega) rfl p_) ?_)
          refine ab_ rfl (by (first | assumption | exact decide_eq_true rfl | exact decide_eq_true (by first | assumption | omega) | exact decide_eq_false (by first | assumption | omega) | with_reducible rfl | exact (rfl : false = !true) | exact (rfl : true = !false))) (fun c => ow_loadInnN 0 (j - 1) rfl rfl rfl g_ (zmap_at hj2) rfl p_) (ab_ r_ u_ (fun c => ow_callv0 r_ r_ (hcmp) p_) (ab_ r_ u_ (fun c => bw_ r_ r_ p_) ?_))
          refine aa_ (fun c => bp_ r_ u_ r_ p_) (ae_ (al_ ?_))
          have k1 := kk_get kLz hj1
          have k2 := kk_get kLz hj2
          refine jc_condd rfl (fun hneg => ?_) (fun hpos => ?_)
          · have hlt2 : kk kLz u j < kk kLz u (j - 1) := by rw [k1, k2]; unfold kLz; omega
            have hst := ins_step kLz (by omega) gi (by omega) g2 hlt2
            refine as_ (al_ (B_ (jc_anyF 14 none [2,3,4] rfl k_ k_ k_ rfl (yM_ r_ (yM_ r_ (yM_ r_ (yM_ r_ (aa_ (fun c => cg_ r_ r_ g_ p_) (yM_ r_ (yM_ r_ (aa_ (fun c => cg_ r_ r_ g_ p_) (aa_ (fun c => dc_ 0 rfl rfl rfl g_ (by simp only [List.length_map]; omega) rfl p_) (aa_ (fun c => ow_loadInnN 0 (j - 1) r_ r_ r_ g_ (zmap_at hj2) r_ p_) (yM_ r_ (yM_ r_ ?_)))))))))))))))
            refine aa_ (fun c => dc_ 0 rfl rfl rfl g_ (by simp only [List.length_map]; omega) rfl p_) (aa_ (fun c => ow_loadInnN 0 j r_ r_ r_ g_ (zmap_at hj1) r_ p_) (ae_ (afin_none (o_ r_ (dc_ 0 rfl rfl rfl g_ (by simp only [List.length_map]; omega) rfl (ag_ (ow_storeInnAll 0 j r_ r_ r_ r_ g_ (zmap_at hj1) r_ r_ r_ (o_ r_ (dc_ 0 rfl rfl rfl g_ (by simp only [List.length_map, List.length_set]; omega) rfl ?_)))))))))
            refine ag_ (ow_storeInnAll 0 (j - 1) r_ r_ r_ r_ g_ (zmap_at2 g_ hj2) r_ r_ r_ (ak_ (jq_np (ay_ (al_ (an_ (M_ r_ (o_ r_ (cg_ r_ r_ g_ (E_ r_ (ak_ (jq_againS (i := (j, u)) (j - 1, sw u j (j - 1)) ⟨by dsimp only; omega, by dsimp only; omega, gm.trans (Mv.sw g_ g_ g_), gmi.trans (Mv.sw g_ g_ g_), bak_step g_ g2 g_ g_ gb, hst⟩ (by dsimp only; omega) ?_ ?_))))))))))))
            · dsimp only
              rw [zmap_sw hj1 hj2]
              exact bc_ 0 r_ sub_end
            · rw [show ((j : Int) - 1) = ((j - 1 : Nat) : Int) by omega]
              (repeat (first | exact True.intro | refine ⟨rfl, ?_⟩))
          · have hend := ins_end kLz gi (.inr ⟨by rw [k1, k2]; unfold kLz; omega, by omega⟩)
            refine av_ (ax_ (ax_ (ba_ (ay_ (al_ (an_ (M_ r_ (o_ r_ (bj_ r_ r_ g_ (E_ r_ (ak_ (jq_againS (i := (i, t)) (i + 1, u) ⟨by dsimp only; omega, .inl (by dsimp only; omega), gm, gmi, hend⟩ (by dsimp only; omega) ?_ ?_))))))))))))
            · exact bc_ 0 r_ sub_end
            · (repeat (first | exact True.intro | refine ⟨rfl, ?_⟩))
        · have hend := ins_end kLz gi (.inl (by omega))
          refine am_ (am_ (ao_ r_ r_ k_ k_ (yM_ r_ (yM_ r_ (aa_ (fun c => bz_ r_ r_ p_) (yM_ r_ (ac_ r_ w_ (ac_ r_ w_ (ac_ r_ w_ (ac_ r_ w_ (ac_ r_ w_ (ac_ r_ w_ (ac_ r_ w_ (ac_ r_ w_ (ac_ r_ w_ ?_)))))))))))))))
          refine ac_ r_ w_ (ac_ r_ w_ (ac_ r_ w_ (aa_ (fun c => bv_ r_ w_ r_ p_) (ae_ (al_ (jc_cond rfl (fun h => by cases h) (fun _ => av_ (ax_ (ax_ (ba_ (ay_ (al_ (an_ (M_ r_ (o_ r_ (bj_ r_ r_ g_ ?_))))))))))))))))
          refine E_ r_ (ak_ (jq_againS (i := (i, t)) (i + 1, u) ⟨by dsimp only; omega, .inl (by dsimp only; omega), gm, gmi, hend⟩ (by dsimp only; omega) ?_ ?_))
          · exact bc_ 0 r_ sub_end
          · (repeat (first | exact True.intro | refine ⟨rfl, ?_⟩))
    · refine av_ (ax_ (ax_ (ba_ (jq_retG (ss := []) (.inr rfl) rfl (is := [0]) rfl (fun K h => h t ⟨hm, hs.sub kLz (Nat.le_refl _) g_⟩)))))
end Go.Proofs.Ytpolnonbgaolkaa
end

section
namespace Go.Proofs.Ytpolnonbgaolkaa
open Go.Vc
attribute [local irreducible] JL JC JQ OpWp Con ConN
set_option maxHeartbeats 4000000

def zSymP (V : Value) (l : List Lz) (a m b : Nat) : Prop :=
  Con Try.prog 85 [.cell (.val V), In .i64 (a : Int), In .i64 (m : Int), In .i64 (b : Int), CFZ] [OwZ V l] (fun K => ∀ l' : List Lz, (Mv a b l l' ∧ So kLz l' a b) → K (.tup []) [OwZ V l'])

theorem zsymA (V : Value) (l : List Lz) (a m b : Nat) (hm : m = a + 1) (hmb : m < b) (hb : b ≤ l.length) (hl : l.length ≤ 1000000) (hok : okZ l) (hx : ∀ p q, a ≤ p → p < m → m ≤ q → q < b → ix l p < ix l q) (hs : So kLz l m b) : zSymP V l a m b := by
  unfold zSymP
  refine con_intro Try.func85 rfl rfl (Nat.le_of_ble_eq_true rfl) (fun c hc => am_ (R_ (M_ r_ (M_ r_ (o_ r_ (cg_ r_ r_ g_ (o_ r_ (bn_ r_ r_ (T_ (jc_condd rfl (fun _ => R_ (M_ r_ (E_ r_ (T_ (R_ (M_ r_ (E_ r_ ?_))))))) (fun h => absurd (show (m : Int) - (a : Int) = 1 by omega) h)))))))))))
  refine T_ (B_ ?_)
  refine jc_loopS (ι := Nat × Nat) [] (fun i => m ≤ i.1 ∧ i.1 ≤ i.2 ∧ i.2 ≤ b ∧ (∀ q, m ≤ q → q < i.1 → kk kLz l q ≤ kk kLz l a) ∧ ∀ q, i.2 ≤ q → q < b → kk kLz l a ≤ kk kLz l q) (fun i => [(0, .cell (.val V)), (1, In .i64 (a : Int)), (4, CFZ), (10, In .i64 (i.1 : Int)), (11, In .i64 (i.2 : Int))]) (fun _ => [OwZ V l]) (fun i => i.2 - i.1) (m, b) ⟨Nat.le_refl _, by dsimp only; omega, Nat.le_refl _, fun q h1 h2 => by dsimp only at h2; omega, fun q h1 h2 => by dsimp only at h1; omega⟩ ?_ ?_ ?_
  · exact bc_ 0 r_ sub_end
  · (repeat (first | exact True.intro | refine ⟨rfl, ?_⟩))
  · rintro ⟨i, j⟩ ⟨h1, h2, h3, h4, h5⟩
    dsimp only at h1 h2 h3 h4 h5 ⊢
    refine jc_reset [(0, .cell (.val V)), (1, In .i64 (a : Int)), (4, CFZ), (10, In .i64 (i : Int)), (11, In .i64 (j : Int))] [OwZ V l] ?_ ⟨[0], [], rfl⟩ ?_
    · (repeat (first | exact True.intro | refine ⟨rfl, ?_⟩))
    refine am_ (R_ (M_ r_ (M_ r_ (o_ r_ (bw_ r_ r_ (T_ (jc_condd rfl (fun hlt => ?_) (fun hge => ?_))))))))
    · have hh : (i + j) / 2 < l.length := by omega
      have ha : a < l.length := by omega
      have ok1 := hok _ (List.getElem_mem hh)
      have ok2 := hok _ (List.getElem_mem ha)
      have hcmp := zcmp_c l[(i + j) / 2] l[a] ok1 ok2
      have hix : l[a].2 < l[(i + j) / 2].2 := by
        rw [← ix_get ha, ← ix_get hh]
        exact hx _ _ (Nat.le_refl _) g_ g_ g_
      have k1 := kk_get kLz hh
      have k2 := kk_get kLz ha
      refine as_ (al_ (au_ (R_ (M_ r_ (M_ r_ (o_ r_ (bj_ r_ r_ g_ (o_ r_ (ow_convU64 r_ r_ r_ g_ (o_ r_ (ow_shr1 r_ r_ g_ (o_ r_ (ow_convI64 r_ r_ r_ g_ (E_ r_ (T_ (am_ (ao_ r_ r_ k_ k_ (yM_ r_ (yM_ r_ ?_)))))))))))))))))))
      refine yM_ r_ (aa_ (fun c => dc_ 0 rfl rfl rfl g_ (by simp only [List.length_map]; omega) rfl p_) (aa_ (fun c => ow_loadInnN 0 ((i + j) / 2) r_ r_ r_ g_ (zmap_at hh) r_ p_) (yM_ r_ (yM_ r_ (aa_ (fun c => dc_ 0 rfl rfl rfl g_ (by simp only [List.length_map]; omega) rfl p_) (aa_ (fun c => ow_loadInnN 0 a r_ r_ r_ g_ (zmap_at ha) r_ p_) (aa_ (fun c => ow_callv0 r_ r_ (hcmp) p_) (aa_ (fun c => bw_ r_ r_ p_) (ae_ ?_)))))))))
      refine al_ (jc_condd rfl (fun hneg => ?_) (fun hpos => ?_))
      · have hle : kk kLz l ((i + j) / 2) ≤ kk kLz l a := by rw [k1, k2]; unfold kLz; omega
        refine an_ (M_ r_ (o_ r_ (bj_ r_ r_ g_ (E_ r_ (ak_ (ay_ (jq_againS (i := (i, j)) ((i + j) / 2 + 1, j) ⟨by dsimp only; omega, by dsimp only; omega, h3, fun q g1 g2 => ?_, h5⟩ (by dsimp only; omega) ?_ ?_)))))))
        · dsimp only at g2
          have := hs q ((i + j) / 2) g1 (by omega) (by omega)
          omega
        · exact bc_ 0 r_ sub_end
        · dsimp only
          rw [show (((i + j) / 2 + 1 : Nat) : Int) = ((i : Int) + (j : Int)) / 2 + 1 by omega]
          (repeat (first | exact True.intro | refine ⟨rfl, ?_⟩))
      · have hle : kk kLz l a ≤ kk kLz l ((i + j) / 2) := by rw [k1, k2]; unfold kLz; omega
        refine an_ (M_ r_ (E_ r_ (ak_ (ay_ (jq_againS (i := (i, j)) (i, (i + j) / 2) ⟨h1, by dsimp only; omega, by dsimp only; omega, h4, fun q g1 g2 => ?_⟩ (by dsimp only; omega) ?_ ?_)))))
        · dsimp only at g1
          have := hs ((i + j) / 2) q (by omega) g1 (by omega)
          omega
        · exact bc_ 0 r_ sub_end
        · dsimp only
          rw [show (((i + j) / 2 : Nat) : Int) = ((i : Int) + (j : Int)) / 2 by omega]
          (repeat (first | exact True.intro | refine ⟨rfl, ?_⟩))
    · obtain rfl : i = j := by omega
      refine av_ (ax_ (ax_ (ba_ (al_ (am_ (R_ (M_ r_ (E_ r_ (T_ (au_ (jc_loopS (ι := Nat × List Lz) [] (fun k => a ≤ k.1 ∧ k.1 ≤ i - 1 ∧ Mv a b l k.2 ∧ ∀ p, k.2[p]? = l[shfI a k.1 p]?) (fun k => [(0, .cell (.val V)), (10, In .i64 (i : Int)), (13, In .i64 (k.1 : Int))]) (fun k => [OwZ V k.2]) (fun k => i - k.1) (a, l) ⟨Nat.le_refl _, by dsimp only; omega, Mv.refl _ _ _, fun p => by dsimp only; rw [shf_zero]⟩ ?_ ?_ ?_)))))))))))
      · exact bc_ 0 r_ sub_end
      · (repeat (first | exact True.intro | refine ⟨rfl, ?_⟩))
      · rintro ⟨k, t⟩ ⟨g1, g2, g3, g4⟩
        dsimp only at g1 g2 g3 g4 ⊢
        have htl : t.length = l.length := g3.len
        refine jc_reset [(0, .cell (.val V)), (10, In .i64 (i : Int)), (13, In .i64 (k : Int))] [OwZ V t] ?_ ⟨[0], [], rfl⟩ ?_
        · (repeat (first | exact True.intro | refine ⟨rfl, ?_⟩))
        refine am_ (R_ (M_ r_ (M_ r_ (o_ r_ (cg_ r_ r_ g_ (o_ r_ (bw_ r_ r_ (T_ (jc_condd rfl (fun hlt => ?_) (fun hge => ?_))))))))))
        · have hj1 : k < t.length := by omega
          have hj2 : k + 1 < t.length := by omega
          refine as_ (al_ (B_ (jc_anyF 14 none [2,3,4] rfl k_ k_ k_ rfl (yM_ r_ (yM_ r_ (yM_ r_ (yM_ r_ (aa_ (fun c => bj_ r_ r_ g_ p_) (yM_ r_ (yM_ r_ (aa_ (fun c => bj_ r_ r_ g_ p_) (aa_ (fun c => dc_ 0 rfl rfl rfl g_ (by simp only [List.length_map]; omega) rfl p_) (aa_ (fun c => ow_loadInnN 0 (k + 1) r_ r_ r_ g_ (zmap_at hj2) r_ p_) (yM_ r_ (yM_ r_ ?_)))))))))))))))
          refine aa_ (fun c => dc_ 0 rfl rfl rfl g_ (by simp only [List.length_map]; omega) rfl p_) (aa_ (fun c => ow_loadInnN 0 k r_ r_ r_ g_ (zmap_at hj1) r_ p_) (ae_ (afin_none (o_ r_ (dc_ 0 rfl rfl rfl g_ (by simp only [List.length_map]; omega) rfl (ag_ (ow_storeInnAll 0 k r_ r_ r_ r_ g_ (zmap_at hj1) r_ r_ r_ (o_ r_ (dc_ 0 rfl rfl rfl g_ (by simp only [List.length_map, List.length_set]; omega) rfl ?_)))))))))
          refine ag_ (ow_storeInnAll 0 (k + 1) r_ r_ r_ r_ g_ (zmap_at2 g_ hj2) r_ r_ r_ (ak_ (jq_np (ay_ (al_ (an_ (M_ r_ (o_ r_ (bj_ r_ r_ g_ (E_ r_ (ak_ (jq_againS (i := (k, t)) (k + 1, sw t k (k + 1)) ⟨by dsimp only; omega, by dsimp only; omega, g3.trans (Mv.sw g_ g_ g_), shf_step g1 g_ htl g4⟩ (by dsimp only; omega) ?_ ?_))))))))))))
          · dsimp only
            rw [zmap_sw hj1 hj2]
            exact bc_ 0 r_ sub_end
          · (repeat (first | exact True.intro | refine ⟨rfl, ?_⟩))
        · obtain rfl : k = i - 1 := by omega
          refine av_ (ax_ (ax_ (ba_ (al_ (ar_ (aw_ (jq_retG (ss := []) (.inl rfl) rfl (is := [0]) rfl (fun K h => h t ⟨g3, so_front kLz (by rw [← hm]; exact hs) g_ (fun q q1 q2 => h4 q g_ q2) h5 g4⟩))))))))

theorem zsymB (V : Value) (l : List Lz) (a m b : Nat) (hb1 : b = m + 1) (ham : a < m) (hm : m ≠ a + 1) (hb : b ≤ l.length) (hl : l.length ≤ 1000000) (hok : okZ l) (hx : ∀ p q, a ≤ p → p < m → m ≤ q → q < b → ix l p < ix l q) (hs : So kLz l a m) : zSymP V l a m b := by
  unfold zSymP
  refine con_intro Try.func85 rfl rfl (Nat.le_of_ble_eq_true rfl) (fun c hc => am_ (R_ (M_ r_ (M_ r_ (o_ r_ (cg_ r_ r_ g_ (o_ r_ (bn_ r_ r_ (T_ (jc_condd rfl (fun h => absurd h (show ¬ (m : Int) - (a : Int) = 1 by omega)) (fun _ => as_ (al_ (am_ (R_ (M_ r_ (M_ r_ (o_ r_ (cg_ r_ r_ g_ ?_))))))))))))))))))
  refine o_ r_ (bn_ r_ r_ (T_ (jc_condd rfl (fun _ => R_ (M_ r_ (E_ r_ (T_ (R_ (M_ r_ (E_ r_ (T_ (B_ ?_))))))))) (fun h => absurd (show (b : Int) - (m : Int) = 1 by omega) h))))
  refine jc_loopS (ι := Nat × Nat) [] (fun i => a ≤ i.1 ∧ i.1 ≤ i.2 ∧ i.2 ≤ m ∧ (∀ q, a ≤ q → q < i.1 → kk kLz l q ≤ kk kLz l m) ∧ ∀ q, i.2 ≤ q → q < m → kk kLz l m ≤ kk kLz l q) (fun i => [(0, .cell (.val V)), (2, In .i64 (m : Int)), (4, CFZ), (14, In .i64 (i.1 : Int)), (15, In .i64 (i.2 : Int))]) (fun _ => [OwZ V l]) (fun i => i.2 - i.1) (a, m) ⟨Nat.le_refl _, by dsimp only; omega, Nat.le_refl _, fun q h1 h2 => by dsimp only at h2; omega, fun q h1 h2 => by dsimp only at h1; omega⟩ ?_ ?_ ?_
  · exact bc_ 0 r_ sub_end
  · (repeat (first | exact True.intro | refine ⟨rfl, ?_⟩))
  · rintro ⟨i, j⟩ ⟨h1, h2, h3, h4, h5⟩
    dsimp only at h1 h2 h3 h4 h5 ⊢
    refine jc_reset [(0, .cell (.val V)), (2, In .i64 (m : Int)), (4, CFZ), (14, In .i64 (i : Int)), (15, In .i64 (j : Int))] [OwZ V l] ?_ ⟨[0], [], rfl⟩ ?_
    · (repeat (first | exact True.intro | refine ⟨rfl, ?_⟩))
    refine am_ (R_ (M_ r_ (M_ r_ (o_ r_ (bw_ r_ r_ (T_ (jc_condd rfl (fun hlt => ?_) (fun hge => ?_))))))))
    · have hh : (i + j) / 2 < l.length := by omega
      have ha : m < l.length := by omega
      have ok1 := hok _ (List.getElem_mem hh)
      have ok2 := hok _ (List.getElem_mem ha)
      have hcmp := zcmp_c l[m] l[(i + j) / 2] ok2 ok1
      have hix : l[(i + j) / 2].2 < l[m].2 := by
        rw [← ix_get ha, ← ix_get hh]
        exact hx _ _ g_ g_ g_ g_
      have k1 := kk_get kLz hh
      have k2 := kk_get kLz ha
      refine as_ (al_ (au_ (R_ (M_ r_ (M_ r_ (o_ r_ (bj_ r_ r_ g_ (o_ r_ (ow_convU64 r_ r_ r_ g_ (o_ r_ (ow_shr1 r_ r_ g_ (o_ r_ (ow_convI64 r_ r_ r_ g_ (E_ r_ (T_ (am_ (ao_ r_ r_ k_ k_ (yM_ r_ (yM_ r_ ?_)))))))))))))))))))
      refine yM_ r_ (aa_ (fun c => dc_ 0 rfl rfl rfl g_ (by simp only [List.length_map]; omega) rfl p_) (aa_ (fun c => ow_loadInnN 0 m r_ r_ r_ g_ (zmap_at ha) r_ p_) (yM_ r_ (yM_ r_ (aa_ (fun c => dc_ 0 rfl rfl rfl g_ (by simp only [List.length_map]; omega) rfl p_) (aa_ (fun c => ow_loadInnN 0 ((i + j) / 2) r_ r_ r_ g_ (zmap_at hh) r_ p_) (aa_ (fun c => ow_callv0 r_ r_ (hcmp) p_) (aa_ (fun c => bw_ r_ r_ p_) ?_))))))))
      refine aa_ (fun c => ce_ r_ p_) (ae_ (al_ (jc_condd rfl (fun hneg => ?_) (fun hpos => ?_))))
      · have hle : kk kLz l ((i + j) / 2) ≤ kk kLz l m := by rw [k1, k2]; unfold kLz; omega
        refine an_ (M_ r_ (o_ r_ (bj_ r_ r_ g_ (E_ r_ (ak_ (ay_ (jq_againS (i := (i, j)) ((i + j) / 2 + 1, j) ⟨by dsimp only; omega, by dsimp only; omega, h3, fun q g1 g2 => ?_, h5⟩ (by dsimp only; omega) ?_ ?_)))))))
        · dsimp only at g2
          have := hs q ((i + j) / 2) g1 (by omega) (by omega)
          omega
        · exact bc_ 0 r_ sub_end
        · dsimp only
          rw [show (((i + j) / 2 + 1 : Nat) : Int) = ((i : Int) + (j : Int)) / 2 + 1 by omega]
          (repeat (first | exact True.intro | refine ⟨rfl, ?_⟩))
      · have hle : kk kLz l m ≤ kk kLz l ((i + j) / 2) := by rw [k1, k2]; unfold kLz; omega
        refine an_ (M_ r_ (E_ r_ (ak_ (ay_ (jq_againS (i := (i, j)) (i, (i + j) / 2) ⟨h1, by dsimp only; omega, by dsimp only; omega, h4, fun q g1 g2 => ?_⟩ (by dsimp only; omega) ?_ ?_)))))
        · dsimp only at g1
          have := hs ((i + j) / 2) q (by omega) g1 (by omega)
          omega
        · exact bc_ 0 r_ sub_end
        · dsimp only
          rw [show (((i + j) / 2 : Nat) : Int) = ((i : Int) + (j : Int)) / 2 by omega]
          (repeat (first | exact True.intro | refine ⟨rfl, ?_⟩))
    · obtain rfl : i = j := by omega
      refine av_ (ax_ (ax_ (ba_ (al_ (am_ (R_ (M_ r_ (E_ r_ (T_ (au_ (jc_loopS (ι := Nat × List Lz) [] (fun k => i ≤ k.1 ∧ k.1 ≤ m ∧ Mv a b l k.2 ∧ ∀ p, k.2[p]? = l[bakI k.1 m p]?) (fun k => [(0, .cell (.val V)), (14, In .i64 (i : Int)), (17, In .i64 (k.1 : Int))]) (fun k => [OwZ V k.2]) (fun k => k.1) (m, l) ⟨by dsimp only; omega, Nat.le_refl _, Mv.refl _ _ _, fun p => by dsimp only; rw [bak_zero]⟩ ?_ ?_ ?_)))))))))))
      · exact bc_ 0 r_ sub_end
      · (repeat (first | exact True.intro | refine ⟨rfl, ?_⟩))
      · rintro ⟨k, t⟩ ⟨g1, g2, g3, g4⟩
        dsimp only at g1 g2 g3 g4 ⊢
        have htl : t.length = l.length := g3.len
        refine jc_reset [(0, .cell (.val V)), (14, In .i64 (i : Int)), (17, In .i64 (k : Int))] [OwZ V t] ?_ ⟨[0], [], rfl⟩ ?_
        · (repeat (first | exact True.intro | refine ⟨rfl, ?_⟩))
        refine am_ (R_ (M_ r_ (M_ r_ (o_ r_ (bz_ r_ r_ (T_ (jc_condd rfl (fun hlt => ?_) (fun hge => ?_))))))))
        · have hj1 : k < t.length := by omega
          have hj2 : k - 1 < t.length := by omega
          refine as_ (al_ (B_ (jc_anyF 14 none [2,3,4] rfl k_ k_ k_ rfl (yM_ r_ (yM_ r_ (yM_ r_ (yM_ r_ (aa_ (fun c => cg_ r_ r_ g_ p_) (yM_ r_ (yM_ r_ (aa_ (fun c => cg_ r_ r_ g_ p_) (aa_ (fun c => dc_ 0 rfl rfl rfl g_ (by simp only [List.length_map]; omega) rfl p_) (aa_ (fun c => ow_loadInnN 0 (k - 1) r_ r_ r_ g_ (zmap_at hj2) r_ p_) (yM_ r_ (yM_ r_ ?_)))))))))))))))
          refine aa_ (fun c => dc_ 0 rfl rfl rfl g_ (by simp only [List.length_map]; omega) rfl p_) (aa_ (fun c => ow_loadInnN 0 k r_ r_ r_ g_ (zmap_at hj1) r_ p_) (ae_ (afin_none (o_ r_ (dc_ 0 rfl rfl rfl g_ (by simp only [List.length_map]; omega) rfl (ag_ (ow_storeInnAll 0 k r_ r_ r_ r_ g_ (zmap_at hj1) r_ r_ r_ (o_ r_ (dc_ 0 rfl rfl rfl g_ (by simp only [List.length_map, List.length_set]; omega) rfl ?_)))))))))
          refine ag_ (ow_storeInnAll 0 (k - 1) r_ r_ r_ r_ g_ (zmap_at2 g_ hj2) r_ r_ r_ (ak_ (jq_np (ay_ (al_ (an_ (M_ r_ (o_ r_ (cg_ r_ r_ g_ (E_ r_ (ak_ (jq_againS (i := (k, t)) (k - 1, sw t k (k - 1)) ⟨by dsimp only; omega, by dsimp only; omega, g3.trans (Mv.sw g_ g_ g_), bak_step g_ g_ g_ htl g4⟩ (by dsimp only; omega) ?_ ?_))))))))))))
          · dsimp only
            rw [zmap_sw hj1 hj2]
            exact bc_ 0 r_ sub_end
          · dsimp only
            rw [show ((k - 1 : Nat) : Int) = (k : Int) - 1 by omega]
            (repeat (first | exact True.intro | refine ⟨rfl, ?_⟩))
        · obtain rfl : k = i := by omega
          refine av_ (ax_ (ax_ (ba_ (al_ (ar_ (aw_ ?_))))))
          have hend := so_back kLz hs ⟨h1, h3⟩ h4 h5 g4
          rw [← hb1] at hend
          refine jq_retG (ss := []) (.inl rfl) rfl (is := [0]) rfl (fun K h => h t ⟨g3, hend⟩)
end Go.Proofs.Ytpolnonbgaolkaa
end

section
namespace Go.Proofs.Ytpolnonbgaolkaa
open Go.Vc
attribute [local irreducible] JL JC JQ OpWp Con ConN
set_option maxHeartbeats 4000000

theorem zrot_id {s m e : Nat} (h : s = m ∨ e = m) (hs : s ≤ m) (he : m ≤ e) (p : Nat) : rotI s m e p = p := by
  unfold rotI
  repeat' split
  all_goals omega
theorem zsymC (V : Value) (l : List Lz) (a m b : Nat) (ham : a + 1 < m) (hmb : m + 1 < b) (hb : b ≤ l.length) (hl : l.length ≤ 1000000) (hok : okZ l) (hx : ∀ p q, a ≤ p → p < m → m ≤ q → q < b → ix l p < ix l q) (hs1 : So kLz l a m) (hs2 : So kLz l m b)
    (ih : ∀ (l' : List Lz) (a' m' b' : Nat), b' - a' < b - a → a' < m' → m' < b' → b' ≤ l'.length → l'.length ≤ 1000000 → okZ l' → (∀ p q, a' ≤ p → p < m' → m' ≤ q → q < b' → ix l' p < ix l' q) → So kLz l' a' m' → So kLz l' m' b' → zSymP V l' a' m' b') : zSymP V l a m b := by
  unfold zSymP at ih ⊢
  refine con_intro Try.func85 rfl rfl (Nat.le_of_ble_eq_true rfl) (fun c hc => ?_)
  obtain ⟨mid, hmid⟩ : ∃ mid, mid = (a + b) / 2 := ⟨_, rfl⟩
  refine am_ (R_ (M_ r_ (M_ r_ (o_ r_ (cg_ r_ r_ g_ (o_ r_ (bn_ r_ r_ (T_ (jc_condd rfl (fun h => absurd h (show ¬ (m : Int) - (a : Int) = 1 by omega)) (fun _ => as_ (al_ (am_ (R_ (M_ r_ (M_ r_ (o_ r_ (cg_ r_ r_ g_ (o_ r_ (bn_ r_ r_ ?_)))))))))))))))))))
  refine T_ (jc_condd rfl (fun h => absurd h (show ¬ (b : Int) - (m : Int) = 1 by omega)) (fun _ => as_ (al_ (R_ (M_ r_ (M_ r_ (o_ r_ (bj_ r_ r_ g_ (o_ r_ (ow_convU64 r_ r_ r_ g_ (o_ r_ (ow_shr1 r_ r_ g_ (o_ r_ (ow_convI64 r_ r_ r_ g_ (E_ r_ (T_ (R_ (M_ r_ (M_ r_ ?_)))))))))))))))))))
  refine o_ r_ (bj_ r_ r_ g_ (E_ r_ (T_ (R_ (E_ r_ (E_ r_ (T_ (am_ ?_))))))))
  refine jc_cut (ι := Nat × Nat) [] (fun i => (mid < m ∧ i.1 = mid + m - b ∧ i.2 = mid) ∨ (m ≤ mid ∧ i.1 = a ∧ i.2 = m)) (fun i => [(0, .cell (.val V)), (1, In .i64 (a : Int)), (2, In .i64 (m : Int)), (3, In .i64 (b : Int)), (4, CFZ), (18, In .i64 (mid : Int)), (19, In .i64 ((mid + m : Nat) : Int)), (20, In .i64 (i.1 : Int)), (21, In .i64 (i.2 : Int))]) (fun _ => [OwZ V l]) ?_ ?_
  · have em : ((a : Int) + (b : Int)) / 2 = (mid : Int) := by omega
    refine R_ (M_ r_ (M_ r_ (o_ r_ (bz_ r_ r_ (T_ (jc_condd rfl (fun hgt => ?_) (fun hle => ?_)))))))
    · refine R_ (M_ r_ (M_ r_ (o_ r_ (cg_ r_ r_ g_ (E_ r_ (T_ (an_ (M_ r_ (E_ r_ (ak_ (jq_cutS (mid + m - b, mid) (.inl ⟨by omega, rfl, rfl⟩) ?_ ?_)))))))))))
      · exact bc_ 0 r_ sub_end
      · dsimp only
        rw [show ((mid + m - b : Nat) : Int) = ((a : Int) + (b : Int)) / 2 + (m : Int) - (b : Int) by omega, ← em, show ((mid + m : Nat) : Int) = ((a : Int) + (b : Int)) / 2 + (m : Int) by omega]
        (repeat (first | exact True.intro | refine ⟨rfl, ?_⟩))
    · refine R_ (M_ r_ (E_ r_ (T_ (an_ (M_ r_ (E_ r_ (ak_ (jq_cutS (a, m) (.inr ⟨by omega, rfl, rfl⟩) ?_ ?_))))))))
      · exact bc_ 0 r_ sub_end
      · dsimp only
        rw [← em, show ((mid + m : Nat) : Int) = ((a : Int) + (b : Int)) / 2 + (m : Int) by omega]
        (repeat (first | exact True.intro | refine ⟨rfl, ?_⟩))
  · rintro ⟨s0, r0⟩ hc0
    dsimp only at hc0 ⊢
    refine R_ (M_ r_ (o_ r_ (cg_ r_ r_ g_ (E_ r_ (T_ (B_ ?_))))))
    refine jc_loopS (ι := Nat × Nat) [] (fun i => s0 ≤ i.1 ∧ i.1 ≤ i.2 ∧ i.2 ≤ r0 ∧ (∀ c, s0 ≤ c → c < i.1 → kk kLz l c ≤ kk kLz l (mid + m - 1 - c)) ∧ ∀ c, i.2 ≤ c → c < r0 → kk kLz l (mid + m - 1 - c) ≤ kk kLz l c) (fun i => [(0, .cell (.val V)), (1, In .i64 (a : Int)), (2, In .i64 (m : Int)), (3, In .i64 (b : Int)), (4, CFZ), (18, In .i64 (mid : Int)), (19, In .i64 ((mid + m : Nat) : Int)), (22, In .i64 (((mid + m : Nat) : Int) - 1)), (20, In .i64 (i.1 : Int)), (21, In .i64 (i.2 : Int))]) (fun _ => [OwZ V l]) (fun i => i.2 - i.1) (s0, r0) ⟨Nat.le_refl _, by dsimp only; omega, Nat.le_refl _, fun c h1 h2 => by dsimp only at h2; omega, fun c h1 h2 => by dsimp only at h1; omega⟩ ?_ ?_ ?_
    · exact bc_ 0 r_ sub_end
    · (repeat (first | exact True.intro | refine ⟨rfl, ?_⟩))
    · rintro ⟨s, r⟩ ⟨h1, h2, h3, h4, h5⟩
      dsimp only at h1 h2 h3 h4 h5 ⊢
      refine jc_reset [(0, .cell (.val V)), (1, In .i64 (a : Int)), (2, In .i64 (m : Int)), (3, In .i64 (b : Int)), (4, CFZ), (18, In .i64 (mid : Int)), (19, In .i64 ((mid + m : Nat) : Int)), (22, In .i64 (((mid + m : Nat) : Int) - 1)), (20, In .i64 (s : Int)), (21, In .i64 (r : Int))] [OwZ V l] ?_ ⟨[0], [], rfl⟩ ?_
      · (repeat (first | exact True.intro | refine ⟨rfl, ?_⟩))
      refine am_ (R_ (M_ r_ (M_ r_ (o_ r_ (bw_ r_ r_ (T_ (jc_condd rfl (fun hlt => ?_) (fun hge => ?_))))))))
      · obtain ⟨q, hq⟩ : ∃ q, q = (s + r) / 2 := ⟨_, rfl⟩
        have hqa : a ≤ q ∧ q < m ∧ m ≤ mid + m - 1 - q ∧ mid + m - 1 - q < b := by omega
        have hh1 : mid + m - 1 - q < l.length := by omega
        have hh2 : q < l.length := by omega
        have ok1 := hok _ (List.getElem_mem hh1)
        have ok2 := hok _ (List.getElem_mem hh2)
        have hcmp := zcmp_c l[mid + m - 1 - q] l[q] ok1 ok2
        have hix : l[q].2 < l[mid + m - 1 - q].2 := by
          rw [← ix_get hh1, ← ix_get hh2]
          exact hx _ _ hqa.1 hqa.2.1 hqa.2.2.1 hqa.2.2.2
        have k1 := kk_get kLz hh1
        have k2 := kk_get kLz hh2
        refine as_ (al_ (au_ (R_ (M_ r_ (M_ r_ (o_ r_ (bj_ r_ r_ g_ (o_ r_ (ow_convU64 r_ r_ r_ g_ (o_ r_ (ow_shr1 r_ r_ g_ (o_ r_ (ow_convI64 r_ r_ r_ g_ (E_ r_ (T_ (am_ (ao_ r_ r_ k_ k_ (yM_ r_ (yM_ r_ ?_)))))))))))))))))))
        refine yM_ r_ (yM_ r_ (aa_ (fun c => cg_ r_ r_ g_ p_) (aa_ (fun c => dc_ 0 rfl rfl rfl g_ (by simp only [List.length_map]; omega) rfl p_) (aa_ (fun c => ow_loadInnN 0 (mid + m - 1 - q) r_ r_ r_ g_ (zmap_at hh1) r_ p_) (yM_ r_ (yM_ r_ (aa_ (fun c => dc_ 0 rfl rfl rfl g_ (by simp only [List.length_map]; omega) rfl p_) (aa_ (fun c => ow_loadInnN 0 q r_ r_ r_ g_ (zmap_at hh2) r_ p_) ?_))))))))
        refine aa_ (fun c => ow_callv0 r_ r_ (hcmp) p_) (aa_ (fun c => bw_ r_ r_ p_) (aa_ (fun c => ce_ r_ p_) (ae_ (al_ (jc_condd rfl (fun hneg => ?_) (fun hpos => ?_))))))
        · have hle : kk kLz l q ≤ kk kLz l (mid + m - 1 - q) := by rw [k1, k2]; unfold kLz; omega
          refine an_ (M_ r_ (o_ r_ (bj_ r_ r_ g_ (E_ r_ (ak_ (ay_ (jq_againS (i := (s, r)) (q + 1, r) ⟨by dsimp only; omega, by dsimp only; omega, h3, fun c g1 g2 => ?_, h5⟩ (by dsimp only; omega) ?_ ?_)))))))
          · dsimp only at g2
            have e1 := hs1 c q (by omega) (by omega) (by omega)
            have e2 := hs2 (mid + m - 1 - q) (mid + m - 1 - c) (by omega) (by omega) (by omega)
            omega
          · exact bc_ 0 r_ sub_end
          · dsimp only
            rw [show ((q + 1 : Nat) : Int) = ((s : Int) + (r : Int)) / 2 + 1 by omega]
            (repeat (first | exact True.intro | refine ⟨rfl, ?_⟩))
        · have hle : kk kLz l (mid + m - 1 - q) ≤ kk kLz l q := by rw [k1, k2]; unfold kLz; omega
          refine an_ (M_ r_ (E_ r_ (ak_ (ay_ (jq_againS (i := (s, r)) (s, q) ⟨h1, by dsimp only; omega, by dsimp only; omega, h4, fun c g1 g2 => ?_⟩ (by dsimp only; omega) ?_ ?_)))))
          · dsimp only at g1
            have e1 := hs1 q c (by omega) (by omega) (by omega)
            have e2 := hs2 (mid + m - 1 - c) (mid + m - 1 - q) (by omega) (by omega) (by omega)
            omega
          · exact bc_ 0 r_ sub_end
          · dsimp only
            rw [show (q : Int) = ((s : Int) + (r : Int)) / 2 by omega]
            (repeat (first | exact True.intro | refine ⟨rfl, ?_⟩))
      · obtain rfl : s = r := by omega
        have hsb : a ≤ s ∧ s ≤ mid ∧ s ≤ m ∧ mid ≤ mid + m - s ∧ m ≤ mid + m - s ∧ mid + m - s ≤ b := by omega
        obtain ⟨e, he⟩ : ∃ e, e = mid + m - s := ⟨_, rfl⟩
        refine av_ (ax_ (ax_ (ba_ (al_ (R_ (M_ r_ (M_ r_ (o_ r_ (cg_ r_ r_ g_ (E_ r_ (T_ (am_ (jc_reset [(0, .cell (.val V)), (1, In .i64 (a : Int)), (2, In .i64 (m : Int)), (3, In .i64 (b : Int)), (4, CFZ), (18, In .i64 (mid : Int)), (20, In .i64 (s : Int)), (24, In .i64 (((mid + m : Nat) : Int) - (s : Int)))] [OwZ V l] ?_ ⟨[0], [], rfl⟩ ?_)))))))))))))
        · (repeat (first | exact True.intro | refine ⟨rfl, ?_⟩))
        rw [show ((mid + m : Nat) : Int) - (s : Int) = (e : Int) by omega]
        refine jc_cut (ι := List Lz) [] (fun t => Mv a b l t ∧ ∀ p, t[p]? = l[rotI s m e p]?) (fun t => [(0, .cell (.val V)), (1, In .i64 (a : Int)), (2, In .i64 (m : Int)), (3, In .i64 (b : Int)), (4, CFZ), (18, In .i64 (mid : Int)), (20, In .i64 (s : Int)), (24, In .i64 (e : Int))]) (fun t => [OwZ V t]) ?_ ?_
        · by_cases c1 : (s : Int) < (m : Int)
          · refine R_ (M_ r_ (M_ r_ (o_ r_ (bw_ r_ r_ (M_ r_ (ah_ r_ u_ b_ (bd_ r_ (ah_ r_ u_ b_ (bd_ r_ (ah_ r_ u_ b_ (bw_ r_ r_ (o_ r_ (bp_ r_ u_ r_ (T_ (jc_condd rfl (fun c2 => ?_) (fun c2 => ?_))))))))))))))))
            · have hr := zrotate_c V l s m e (by omega) (by omega) (by omega) hl
              refine an_ (M_ r_ (M_ r_ (M_ r_ (M_ r_ (M_ r_ (o_ r_ (bt_ [0] rfl rfl (hr) (fun t ht => ak_ (jq_cutS t ⟨ht.1.mono g_ g_, ht.2⟩ ?_ ?_)))))))))
              · exact bc_ 0 r_ sub_end
              · (repeat (first | exact True.intro | refine ⟨rfl, ?_⟩))
            · refine as_ (jq_cutS l ⟨Mv.refl _ _ _, fun p => by rw [zrot_id (.inr g_) g_ g_]⟩ ?_ ?_)
              · exact bc_ 0 r_ sub_end
              · (repeat (first | exact True.intro | refine ⟨rfl, ?_⟩))
          · refine R_ (M_ r_ (M_ r_ (o_ r_ (bw_ r_ r_ (M_ r_ (ai_ r_ w_ b_ (ai_ r_ w_ b_ (ai_ r_ w_ b_ (o_ r_ (bv_ r_ w_ r_ (T_ (jc_cond rfl (fun h => by cases h) (fun _ => as_ (jq_cutS l ⟨Mv.refl _ _ _, fun p => by rw [zrot_id (.inl g_) g_ g_]⟩ ?_ ?_))))))))))))))
            · exact bc_ 0 r_ sub_end
            · (repeat (first | exact True.intro | refine ⟨rfl, ?_⟩))
        · rintro t ⟨hmt, hrt⟩
          have hH : Half kLz t a s mid e b := by
            rw [he] at hrt ⊢
            exact half_of kLz g_ g_ hmid hs1 hs2 hc0 ⟨h1, h3⟩ h4 h5 hrt
          have htl : t.length = l.length := hmt.len
          have hx1 : ∀ p q, a ≤ p → p < s → s ≤ q → q < mid → ix t p < ix t q := fun p q c1 c2 c3 c4 => by
            rw [ix_eq (hrt p), ix_eq (hrt q), show rotI s m e p = p by unfold rotI; rw [if_neg (by omega), if_neg (by omega)], show rotI s m e q = q + (m - s) by unfold rotI; rw [if_pos (by omega)]]
            exact hx _ _ g_ g_ g_ g_
          have hx2 : ∀ p q, mid ≤ p → p < e → e ≤ q → q < b → ix t p < ix t q := fun p q c1 c2 c3 c4 => by
            rw [ix_eq (hrt p), ix_eq (hrt q), show rotI s m e p = p - (e - m) by unfold rotI; rw [if_neg (by omega), if_pos (by omega)], show rotI s m e q = q by unfold rotI; rw [if_neg (by omega), if_neg (by omega)]]
            exact hx _ _ g_ g_ g_ g_
          refine jc_reset [(0, .cell (.val V)), (1, In .i64 (a : Int)), (3, In .i64 (b : Int)), (4, CFZ), (18, In .i64 (mid : Int)), (20, In .i64 (s : Int)), (24, In .i64 (e : Int))] [OwZ V t] ?_ ⟨[0], [], rfl⟩ ?_
          · (repeat (first | exact True.intro | refine ⟨rfl, ?_⟩))
          refine am_ (jc_cut (ι := List Lz) [] (fun t1 => Mv a mid t t1 ∧ So kLz t1 a mid) (fun t1 => [(0, .cell (.val V)), (3, In .i64 (b : Int)), (4, CFZ), (18, In .i64 (mid : Int)), (24, In .i64 (e : Int))]) (fun t1 => [OwZ V t1]) ?_ ?_)
          · by_cases c1 : (a : Int) < (s : Int)
            · refine R_ (M_ r_ (M_ r_ (o_ r_ (bw_ r_ r_ (M_ r_ (ah_ r_ u_ b_ (bd_ r_ (ah_ r_ u_ b_ (bd_ r_ (ah_ r_ u_ b_ (bw_ r_ r_ (o_ r_ (bp_ r_ u_ r_ (T_ (jc_condd rfl (fun c2 => ?_) (fun c2 => ?_))))))))))))))))
              · have hr := ih t a s mid (by omega) (by omega) (by omega) (by omega) (by omega) (zokT_perm hok hmt.perm) hx1 hH.s1 hH.s2
                refine an_ (M_ r_ (M_ r_ (M_ r_ (M_ r_ (M_ r_ (o_ r_ (bt_ [0] rfl rfl (hr) (fun t1 ht1 => ak_ (jq_cutS t1 ht1 ?_ ?_)))))))))
                · exact bc_ 0 r_ sub_end
                · (repeat (first | exact True.intro | refine ⟨rfl, ?_⟩))
              · refine as_ (jq_cutS t ⟨Mv.refl _ _ _, by rw [show mid = s by omega]; exact hH.s1⟩ ?_ ?_)
                · exact bc_ 0 r_ sub_end
                · (repeat (first | exact True.intro | refine ⟨rfl, ?_⟩))
            · refine R_ (M_ r_ (M_ r_ (o_ r_ (bw_ r_ r_ (M_ r_ (ai_ r_ w_ b_ (ai_ r_ w_ b_ (ai_ r_ w_ b_ (o_ r_ (bv_ r_ w_ r_ (T_ (jc_cond rfl (fun h => by cases h) (fun _ => as_ (jq_cutS t ⟨Mv.refl _ _ _, by rw [show a = s by omega]; exact hH.s2⟩ ?_ ?_))))))))))))))
              · exact bc_ 0 r_ sub_end
              · (repeat (first | exact True.intro | refine ⟨rfl, ?_⟩))
          · rintro t1 ⟨hm1, ho1⟩
            have htl1 : t1.length = l.length := hm1.len.trans htl
            have fin : ∀ t2, Mv mid b t1 t2 → So kLz t2 mid b → Mv a b l t2 ∧ So kLz t2 a b := fun t2 m2 o2 => ⟨hmt.trans ((hm1.mono (Nat.le_refl _) (by omega)).trans (m2.mono (by omega) (Nat.le_refl _))), half_end kLz hH hm1 ho1 m2 o2⟩
            by_cases c1 : (mid : Int) < (e : Int)
            · refine R_ (M_ r_ (M_ r_ (o_ r_ (bw_ r_ r_ (M_ r_ (ah_ r_ u_ b_ (bd_ r_ (ah_ r_ u_ b_ (bd_ r_ (ah_ r_ u_ b_ (bw_ r_ r_ (o_ r_ (bp_ r_ u_ r_ (T_ (jc_condd rfl (fun c2 => ?_) (fun c2 => ?_))))))))))))))))
              · have hr := ih t1 mid e b (by omega) (by omega) (by omega) (by omega) (by omega) (zokT_perm (zokT_perm hok hmt.perm) hm1.perm) (fun p q c1 c2 c3 c4 => by rw [ix_eq (hm1.out p (.inr (by omega))), ix_eq (hm1.out q (.inr (by omega)))]; exact hx2 p q c1 c2 c3 c4) (hH.s3.out kLz hm1 (.inr (Nat.le_refl _))) (hH.s4.out kLz hm1 (.inr (by omega)))
                refine an_ (M_ r_ (M_ r_ (M_ r_ (M_ r_ (M_ r_ (o_ r_ (bt_ [0] rfl rfl (hr) (fun t2 ht2 => ak_ (jq_retG (ss := []) (.inr rfl) rfl (is := [0]) rfl (fun K h => h t2 (fin t2 ht2.1 ht2.2)))))))))))
              · refine as_ (jq_retG (ss := []) (.inr rfl) rfl (is := [0]) rfl (fun K h => h t1 (fin t1 (Mv.refl _ _ _) (by rw [show b = e by omega]; exact hH.s3.out kLz hm1 (.inr (Nat.le_refl _))))))
            · refine R_ (M_ r_ (M_ r_ (o_ r_ (bw_ r_ r_ (M_ r_ (ai_ r_ w_ b_ (ai_ r_ w_ b_ (ai_ r_ w_ b_ (o_ r_ (bv_ r_ w_ r_ (T_ (jc_cond rfl (fun h => by cases h) (fun _ => as_ (jq_retG (ss := []) (.inr rfl) rfl (is := [0]) rfl (fun K h => h t1 (fin t1 (Mv.refl _ _ _) (by rw [show mid = e by omega]; exact hH.s4.out kLz hm1 (.inr g_))))))))))))))))))

theorem zsym_c (V : Value) : ∀ (n : Nat) (l : List Lz) (a m b : Nat), b - a ≤ n → a < m → m < b → b ≤ l.length → l.length ≤ 1000000 → okZ l → (∀ p q, a ≤ p → p < m → m ≤ q → q < b → ix l p < ix l q) → So kLz l a m → So kLz l m b → zSymP V l a m b
  | 0, _, a, m, b, h, h1, h2, _, _, _, _, _, _ => by omega
  | n + 1, l, a, m, b, h, h1, h2, h3, h4, h5, hx, h6, h7 => by
    by_cases hA : m = a + 1
    · exact zsymA V l a m b hA h2 h3 h4 h5 hx h7
    · by_cases hB : b = m + 1
      · exact zsymB V l a m b hB h1 hA h3 h4 h5 hx h6
      · exact zsymC V l a m b g_ g_ h3 h4 h5 hx h6 h7 (fun l' a' m' b' g => zsym_c V n l' a' m' b' g_)
end Go.Proofs.Ytpolnonbgaolkaa
end

section
namespace Go.Proofs.Ytpolnonbgaolkaa
open Go.Vc
attribute [local irreducible] JL JC JQ OpWp Con ConN
set_option maxHeartbeats 4000000

/-- Nothing has gone past a place. -/
def CutZ (n : Nat) (t : List Lz) (s : Nat) : Prop := ∀ p, p < n → (p < s ↔ ix t p < s)
theorem CutZ.mv {n x y s : Nat} {t t' : List Lz} (h : CutZ n t s) (hm : Mv x y t t') (hy : y ≤ n) (hs : s ≤ x ∨ y ≤ s) : CutZ n t' s := fun p hp => by
  by_cases h1 : p < x ∨ y ≤ p
  · rw [ix_eq (hm.out p h1)]; exact h p hp
  · obtain ⟨q, q1, q2, q3⟩ := hm.inn p (by omega) (by omega)
    rw [ix_eq q3, ← h q (by omega)]
    omega
theorem CutZ.sep {n a m b : Nat} {t : List Lz} (h : CutZ n t m) (hb : b ≤ n) : ∀ p q, a ≤ p → p < m → m ≤ q → q < b → ix t p < ix t q := fun p q _ h2 h3 h4 => by
  have h5 := (h p (by omega)).1 h2
  have h6 := h q (by omega)
  omega
def CutA (n bs : Nat) (t : List Lz) : Prop := ∀ s, bs ∣ s → CutZ n t s
theorem zstable_c (V : Value) (l : List Lz) (hl : l.length ≤ 1000000) (hok : okZ l) (h0x : ∀ p, p < l.length → ix l p = p) :
    Con Try.prog 61 [.cell (.val V), In .i64 (l.length : Int), CFZ] [OwZ V l] (fun K => ∀ l' : List Lz, (Mv 0 l.length l l' ∧ So kLz l' 0 l.length) → K (.tup []) [OwZ V l']) := by
  refine con_intro Try.func61 rfl rfl (Nat.le_of_ble_eq_true rfl) (fun c hc => ?_)
  obtain ⟨n, hn⟩ : ∃ n, n = l.length := ⟨_, rfl⟩
  rw [← hn] at hl h0x ⊢
  refine R_ (E_ r_ (T_ (R_ (M_ r_ (E_ r_ (E_ r_ (T_ (B_ ?_))))))))
  refine jc_loopS (ι := Nat × List Lz) [] (fun i => 20 ∣ i.1 ∧ i.1 ≤ n ∧ Mv 0 n l i.2 ∧ ((∀ p, i.1 ≤ p → i.2[p]? = l[p]?) ∧ CutA n 20 i.2) ∧ Bl2 kLz i.2 20 n 0 i.1) (fun i => [(0, .cell (.val V)), (1, In .i64 (n : Int)), (2, CFZ), (6, In .i64 20), (7, In .i64 (i.1 : Int)), (8, In .i64 ((i.1 + 20 : Nat) : Int))]) (fun i => [OwZ V i.2]) (fun i => n - i.1) (0, l) ⟨Nat.dvd_zero _, Nat.zero_le _, Mv.refl _ _ _, ⟨fun _ _ => rfl, fun s _ p hp => by dsimp only; rw [h0x p hp]⟩, fun s _ _ h => absurd h g_⟩ ?_ ?_ ?_
  · exact bc_ 0 r_ sub_end
  · (repeat (first | exact True.intro | refine ⟨rfl, ?_⟩))
  · rintro ⟨a, t⟩ ⟨h1, h2, h3, ⟨hsame, hcut⟩, h4⟩
    dsimp only at h1 h2 h3 hsame hcut h4 ⊢
    have htl : t.length = n := by rw [h3.len, hn]
    refine jc_reset [(0, .cell (.val V)), (1, In .i64 (n : Int)), (2, CFZ), (6, In .i64 20), (7, In .i64 (a : Int)), (8, In .i64 ((a + 20 : Nat) : Int))] [OwZ V t] ?_ ⟨[0], [], rfl⟩ ?_
    · (repeat (first | exact True.intro | refine ⟨rfl, ?_⟩))
    refine am_ (R_ (M_ r_ (M_ r_ (o_ r_ (cu_ r_ r_ (T_ (jc_condd rfl (fun hle => ?_) (fun hgt => ?_))))))))
    · have hi := zinsSort_c V t a (a + 20) (by omega) (by omega) (by omega) (zokT_perm hok h3.perm) (fun p q q1 q2 q3 => by rw [ix_eq (hsame p q1), ix_eq (hsame q (by omega)), h0x p (by omega), h0x q (by omega)]; exact q2)
      refine as_ (al_ (au_ (R_ (M_ r_ (M_ r_ (M_ r_ (M_ r_ (o_ r_ (bt_ [0] rfl rfl (hi) (fun t2 ht2 => ?_))))))))))
      have hcut2 : CutA n 20 t2 := fun s hs => (hcut s hs).mv ht2.1 (by omega) (by
        by_cases hsa : s ≤ a
        · exact .inl hsa
        · exact .inr (dvd_gap (by omega) h1 hs (by omega)))
      have hsame2 : ∀ p, a + 20 ≤ p → t2[p]? = l[p]? := fun p hp => (ht2.1.out p (.inr hp)).trans (hsame p (by omega))
      refine T_ (R_ (M_ r_ (E_ r_ (T_ (an_ (M_ r_ (M_ r_ (o_ r_ (bj_ r_ r_ g_ (E_ r_ (ak_ (ay_ (jq_againS (i := (a, t)) (a + 20, t2) ⟨Nat.dvd_add h1 (Nat.dvd_refl _), by dsimp only; omega, h3.trans (ht2.1.mono g_ g_), ⟨hsame2, hcut2⟩, bl2_join kLz (bl2_out kLz h4 g_ h1 ht2.1 (.inl (Nat.le_refl _))) (bl2_one kLz g_ h1 (ht2.2.sub kLz (Nat.le_refl _) g_))⟩ (by dsimp only; omega) ?_ ?_)))))))))))))
      · exact bc_ 0 r_ sub_end
      · dsimp only
        rw [show ((a + 20 + 20 : Nat) : Int) = ((a + 20 : Nat) : Int) + 20 by omega]
        (repeat (first | exact True.intro | refine ⟨rfl, ?_⟩))
    · have hi := zinsSort_c V t a n (by omega) (by omega) (by omega) (zokT_perm hok h3.perm) (fun p q q1 q2 q3 => by rw [ix_eq (hsame p q1), ix_eq (hsame q (by omega)), h0x p (by omega), h0x q (by omega)]; exact q2)
      refine av_ (ax_ (ax_ (ba_ (al_ (R_ (M_ r_ (M_ r_ (M_ r_ (M_ r_ (o_ r_ (bt_ [0] rfl rfl (hi) (fun t2 ht2 => ?_))))))))))))
      have hb2 : Bl2 kLz t2 20 n 0 n := bl2_join kLz (bl2_out kLz h4 (by omega) h1 ht2.1 (.inl (Nat.le_refl _))) (bl2_last kLz (by omega) h1 (by omega) ht2.2)
      have hc2 : CutA n 20 t2 := fun s hs => (hcut s hs).mv ht2.1 (Nat.le_refl _) (by
        by_cases hsa : s ≤ a
        · exact .inl hsa
        · have := dvd_gap (by omega) h1 hs (by omega)
          exact .inr (by omega))
      have hm2 : Mv 0 n l t2 := h3.trans (ht2.1.mono (by omega) (by omega))
      refine T_ (au_ ?_)
      clear hi ht2 hgt htl h4 h3 h2 h1 hsame hcut
      refine jc_loopS (ι := Nat × List Lz) [] (fun i => 0 < i.1 ∧ i.1 ≤ 2 * n + 20 ∧ Mv 0 n l i.2 ∧ CutA n i.1 i.2 ∧ Bl2 kLz i.2 i.1 n 0 n) (fun i => [(0, .cell (.val V)), (1, In .i64 (n : Int)), (2, CFZ), (6, In .i64 (i.1 : Int))]) (fun i => [OwZ V i.2]) (fun i => 2 * n + 20 - i.1) (20, t2) ⟨by dsimp only; omega, by dsimp only; omega, hm2, hc2, hb2⟩ ?_ ?_ ?_
      · exact bc_ 0 r_ sub_end
      · (repeat (first | exact True.intro | refine ⟨rfl, ?_⟩))
      · rintro ⟨bs, u⟩ ⟨g1, g2, g3, gc, g4⟩
        dsimp only at g1 g2 g3 gc g4 ⊢
        refine jc_reset [(0, .cell (.val V)), (1, In .i64 (n : Int)), (2, CFZ), (6, In .i64 (bs : Int))] [OwZ V u] ?_ ⟨[0], [], rfl⟩ ?_
        · (repeat (first | exact True.intro | refine ⟨rfl, ?_⟩))
        refine am_ (R_ (M_ r_ (M_ r_ (o_ r_ (bw_ r_ r_ (T_ (jc_condd rfl (fun hlt => ?_) (fun hge => ?_))))))))
        · refine as_ (al_ (au_ (R_ (M_ r_ (o_ r_ (cz_ r_ r_ g_ (E_ r_ (E_ r_ (T_ (B_ ?_))))))))))
          refine jc_loopS (ι := Nat × List Lz) [] (fun i => (2 * bs) ∣ i.1 ∧ i.1 ≤ n ∧ Mv 0 n l i.2 ∧ (CutA n (2 * bs) i.2 ∧ ∀ s, bs ∣ s → i.1 ≤ s → CutZ n i.2 s) ∧ Bl2 kLz i.2 (2 * bs) n 0 i.1 ∧ Bl2 kLz i.2 bs n i.1 n) (fun i => [(0, .cell (.val V)), (1, In .i64 (n : Int)), (2, CFZ), (6, In .i64 (bs : Int)), (7, In .i64 (i.1 : Int)), (8, In .i64 ((i.1 + 2 * bs : Nat) : Int))]) (fun i => [OwZ V i.2]) (fun i => n - i.1) (0, u) ⟨Nat.dvd_zero _, Nat.zero_le _, g3, ⟨fun s hs => gc s (Nat.dvd_trans (Nat.dvd_mul_left bs 2) hs), fun s hs _ => gc s hs⟩, fun s _ _ h => absurd h g_, g4⟩ ?_ ?_ ?_
          · exact bc_ 0 r_ sub_end
          · dsimp only
            rw [show ((0 + 2 * bs : Nat) : Int) = 2 * (bs : Int) by omega]
            (repeat (first | exact True.intro | refine ⟨rfl, ?_⟩))
          · rintro ⟨a, t⟩ ⟨h1, h2, h3, ⟨hc1, hc2⟩, h4, h5⟩
            dsimp only at h1 h2 h3 hc1 hc2 h4 h5 ⊢
            have htl : t.length = n := by rw [h3.len, hn]
            have hda : bs ∣ a := Nat.dvd_trans (Nat.dvd_mul_left bs 2) h1
            refine jc_reset [(0, .cell (.val V)), (1, In .i64 (n : Int)), (2, CFZ), (6, In .i64 (bs : Int)), (7, In .i64 (a : Int)), (8, In .i64 ((a + 2 * bs : Nat) : Int))] [OwZ V t] ?_ ⟨[0], [], rfl⟩ ?_
            · (repeat (first | exact True.intro | refine ⟨rfl, ?_⟩))
            refine am_ (R_ (M_ r_ (M_ r_ (o_ r_ (cu_ r_ r_ (T_ (jc_condd rfl (fun hle => ?_) (fun hgt => ?_))))))))
            · have o1 : So kLz t a (a + bs) := (h5 a hda (Nat.le_refl _) (by omega)).sub kLz (Nat.le_refl _) (by omega)
              have o2 : So kLz t (a + bs) (a + 2 * bs) := (h5 (a + bs) (Nat.dvd_add hda (Nat.dvd_refl _)) (by omega) (by omega)).sub kLz (Nat.le_refl _) (by omega)
              have hi := zsym_c V _ t a (a + bs) (a + 2 * bs) (Nat.le_refl _) (by omega) (by omega) (by omega) (by omega) (zokT_perm hok h3.perm) ((hc2 (a + bs) (Nat.dvd_add hda (Nat.dvd_refl _)) (by omega)).sep (by omega)) o1 o2
              unfold zSymP at hi
              rw [show ((a + bs : Nat) : Int) = (a : Int) + (bs : Int) by omega] at hi
              refine as_ (al_ (au_ (R_ (M_ r_ (M_ r_ (M_ r_ (M_ r_ (o_ r_ (bj_ r_ r_ g_ (M_ r_ (M_ r_ (o_ r_ (bt_ [0] rfl rfl (hi) (fun t2 ht2 => T_ (R_ (M_ r_ (E_ r_ ?_)))))))))))))))))
              refine T_ (an_ (M_ r_ (M_ r_ (o_ r_ (cz_ r_ r_ g_ (o_ r_ (bj_ r_ r_ g_ (E_ r_ (ak_ (ay_ ?_))))))))))
              have hd1 : CutA n (2 * bs) t2 := fun s hs => (hc1 s hs).mv ht2.1 (by omega) (by
                by_cases hsa : s ≤ a
                · exact .inl hsa
                · have := dvd_gap (by omega) h1 hs (by omega)
                  exact .inr (by omega))
              have hd2 : ∀ s, bs ∣ s → a + 2 * bs ≤ s → CutZ n t2 s := fun s hs hsa => (hc2 s hs (by omega)).mv ht2.1 (by omega) (.inr hsa)
              refine jq_againS (i := (a, t)) (a + 2 * bs, t2) ⟨Nat.dvd_add h1 (Nat.dvd_refl _), by dsimp only; omega, h3.trans (ht2.1.mono g_ g_), ⟨hd1, hd2⟩, bl2_join kLz (bl2_out kLz h4 g_ h1 ht2.1 (.inl (Nat.le_refl _))) (bl2_one kLz g_ h1 (ht2.2.sub kLz (Nat.le_refl _) g_)), bl2_behind kLz (bl2_sub kLz h5 (by dsimp only; omega) (Nat.le_refl _)) ht2.1 (Nat.le_refl _)⟩ (by dsimp only; omega) ?_ ?_
              · exact bc_ 0 r_ sub_end
              · dsimp only
                rw [show ((a + 2 * bs + 2 * bs : Nat) : Int) = ((a + 2 * bs : Nat) : Int) + 2 * (bs : Int) by omega]
                (repeat (first | exact True.intro | refine ⟨rfl, ?_⟩))
            · refine av_ (ax_ (ax_ (ba_ (al_ (am_ (R_ (M_ r_ (M_ r_ (o_ r_ (bj_ r_ r_ g_ (E_ r_ (T_ (R_ (M_ r_ (M_ r_ (o_ r_ (bw_ r_ r_ ?_)))))))))))))))))
              refine T_ (jc_condd rfl (fun hmn => ?_) (fun hmn => ?_))
              · have o1 : So kLz t a (a + bs) := (h5 a hda (Nat.le_refl _) (by omega)).sub kLz (Nat.le_refl _) (by omega)
                have o2 : So kLz t (a + bs) n := (h5 (a + bs) (Nat.dvd_add hda (Nat.dvd_refl _)) (by omega) (by omega)).sub kLz (Nat.le_refl _) (by omega)
                have hi := zsym_c V _ t a (a + bs) n (Nat.le_refl _) (by omega) (by omega) (by omega) (by omega) (zokT_perm hok h3.perm) ((hc2 (a + bs) (Nat.dvd_add hda (Nat.dvd_refl _)) (by omega)).sep (Nat.le_refl _)) o1 o2
                unfold zSymP at hi
                rw [show ((a + bs : Nat) : Int) = (a : Int) + (bs : Int) by omega] at hi
                refine an_ (M_ r_ (M_ r_ (M_ r_ (M_ r_ (M_ r_ (o_ r_ (bt_ [0] rfl rfl (hi) (fun t2 ht2 => T_ (an_ (M_ r_ (o_ r_ (cz_ r_ r_ g_ (E_ r_ (ak_ (ay_ ?_)))))))))))))))
                have hd1 : CutA n (2 * bs) t2 := fun s hs => (hc1 s hs).mv ht2.1 (by omega) (by
                  by_cases hsa : s ≤ a
                  · exact .inl hsa
                  · have := dvd_gap (by omega) h1 hs (by omega)
                    exact .inr (by omega))
                refine jq_againS (i := (bs, u)) (2 * bs, t2) ⟨by dsimp only; omega, by dsimp only; omega, h3.trans (ht2.1.mono g_ g_), hd1, bl2_join kLz (bl2_out kLz h4 g_ h1 ht2.1 (.inl (Nat.le_refl _))) (bl2_last kLz g_ h1 g_ ht2.2)⟩ (by dsimp only; omega) ?_ ?_
                · exact bc_ 0 r_ sub_end
                · dsimp only
                  rw [show ((2 * bs : Nat) : Int) = (bs : Int) * 2 by omega]
                  (repeat (first | exact True.intro | refine ⟨rfl, ?_⟩))
              · refine as_ (al_ (an_ (M_ r_ (o_ r_ (cz_ r_ r_ g_ (E_ r_ (ak_ (ay_ ?_))))))))
                have o1 : So kLz t a n := by
                  by_cases ha : a < n
                  · exact (h5 a hda (Nat.le_refl _) ha).sub kLz (Nat.le_refl _) g_
                  · exact so_small kLz g_
                refine jq_againS (i := (bs, u)) (2 * bs, t) ⟨by dsimp only; omega, by dsimp only; omega, h3, hc1, bl2_join kLz h4 (bl2_last kLz g_ h1 g_ o1)⟩ (by dsimp only; omega) ?_ ?_
                · exact bc_ 0 r_ sub_end
                · dsimp only
                  rw [show ((2 * bs : Nat) : Int) = (bs : Int) * 2 by omega]
                  (repeat (first | exact True.intro | refine ⟨rfl, ?_⟩))
        · have o1 : So kLz u 0 n := by
            by_cases h0 : 0 < n
            · exact (g4 0 (Nat.dvd_zero _) (Nat.le_refl _) h0).sub kLz (Nat.le_refl _) g_
            · exact so_small kLz g_
          refine av_ (ax_ (ax_ (ba_ (jq_retG (ss := []) (.inr rfl) rfl (is := [0]) rfl (fun K h => h u ⟨g3, o1⟩)))))

theorem zSortStable_c (V : Value) (l : List Lp) (hl : l.length ≤ 900) (hok : ∀ x ∈ l, x.nodes.length ≤ 1000) :
    Con Try.prog 33 [.cell (.val V), CFZ] [.own V 49 5 (l.map fun x => LpRow x 0)] (fun K => K (.tup []) [.own V 49 5 ((srtF l).map fun x => LpRow x 0)]) := by
  have hzl : (zipZ l).length = l.length := by simp [zipZ]
  have hok2 : okZ (zipZ l) := fun x hx => ⟨hok x.1 (List.fst_mem_of_mem_zipIdx hx), by have := List.snd_lt_of_mem_zipIdx hx; omega⟩
  have h0x : ∀ p, p < (zipZ l).length → ix (zipZ l) p = p := fun p hp => by rw [ix_get hp]; simp [zipZ]
  have e1 : (l.map fun x => LpRow x 0) = (zipZ l).map LzR := by
    have : l = (zipZ l).map (·.1) := by simp [zipZ]
    conv => lhs; rw [this]
    rw [List.map_map]
    rfl
  rw [e1]
  refine con_intro Try.func33 rfl rfl (Nat.le_of_ble_eq_true rfl) (fun c hc => ?_)
  have hi := zstable_c V (zipZ l) (by omega) hok2 h0x
  rw [show ((zipZ l).length : Int) = (((zipZ l).map LzR).length : Int) by rw [List.length_map]] at hi
  refine an_ (M_ r_ (M_ r_ (o_ r_ (cw_ 0 r_ r_ (fun hlen => M_ r_ (o_ r_ (bt_ [0] rfl rfl (hi) (fun t ht => ak_ ?_))))))))
  have hpw := so_pairwise kLz (by rw [ht.1.len]; exact ht.2)
  have hst : Stb l (t.map (·.1)) := by
    refine ⟨t, ht.1.perm, rfl, ?_⟩
    have hnd : (t.map (·.2)).Nodup := by
      rw [(ht.1.perm.map (·.2)).nodup_iff]
      rw [show (zipZ l).map (·.2) = List.range l.length by simp [zipZ, List.zipIdx_map_snd, List.range_eq_range']]
      exact List.nodup_range
    have hb : ∀ x ∈ t, x.2 < 1000 := fun x hx => (hok2 x (ht.1.perm.mem_iff.1 hx)).2
    rw [List.pairwise_iff_getElem] at hpw ⊢
    intro i j h1 h2 h3
    have h4 := hpw i j h1 h2 h3
    have h5 : (t[i]).2 ≠ (t[j]).2 := fun e => by
      have := (List.getElem_inj (i := i) (j := j) hnd (h₀ := by rw [List.length_map]; exact h1) (h₁ := by rw [List.length_map]; exact h2)).1 (by rw [List.getElem_map, List.getElem_map]; exact e)
      omega
    have h6 := hb t[i] (List.getElem_mem h1)
    have h7 := hb t[j] (List.getElem_mem h2)
    have h8 : kLz t[i] ≠ kLz t[j] := fun e => h5 (by unfold kLz at e; omega)
    omega
  have e2 := hst.unique
  have e3 : t.map LzR = (srtF l).map fun x => LpRow x 0 := by
    rw [← e2, List.map_map]
    rfl
  refine jq_retG (ss := []) (.inr rfl) rfl (is := [0]) rfl (fun K h => by show K _ [.own V 49 5 (t.map LzR)]; rw [e3]; exact h)
end Go.Proofs.Ytpolnonbgaolkaa
end

section
namespace Go.Proofs.Ytpolnonbgaolkaa
open Go.Vc
attribute [local irreducible] JL JC JQ OpWp Con ConN HOk
set_option maxHeartbeats 4000000

theorem idxHd_c (F : FuncId) [FI Try.prog F] (cap : List Value) (hcap : cap.all Value.oneCell' = true) (h1 : Ch) (p : Hd → Bool) (l : List (Hd)) (hp : ∀ x ∈ l, Con Try.prog F (.row (HdRow x) :: capS cap) [h1] (fun K => K (Bl (p x)) [h1])) :
    Con Try.prog 31 [.cell (.list (l.map HdRow)), FC F cap] [h1] (fun K => K (In .i64 (idxOf p l)) [h1]) := by
  refine con_intro Try.func31 rfl rfl (Nat.le_of_ble_eq_true rfl) (fun c hc => R_ (E_ r_ (T_ (am_ (R_ (M_ r_ (o_ r_ (br_ r_ (fun hlen => M_ r_ (T_ (au_ ?_)))))))))))
  refine jc_loopS (ι := Nat) [] (fun k => k ≤ (l).length ∧ (l.take k).any p = false) (fun k => (8, In .i64 (k : Int)) :: [(0, .cell (.list (l.map HdRow))), (1, FC F cap), (7, In .i64 ((l.map HdRow).length : Int))]) (fun k => [h1]) (fun k => (l).length - k) 0 ⟨Nat.zero_le _, rfl⟩ ?_ ?_ ?_
  · exact bc_ 0 r_ sub_end
  · (repeat (first | exact True.intro | refine ⟨rfl, ?_⟩))
  rintro k ⟨hk, hno⟩
  have eLk : ((l).map HdRow).length = (l).length := List.length_map _
  by_cases hltk : k < (l).length
  · have hltk2 : (k : Int) < (((l).map HdRow).length : Int) := by omega
    have hC := hp l[k] (List.getElem_mem hltk)
    cases hb' : p l[k] with
    | true =>
      rw [hb'] at hC
      have hres := idx_some hltk hb' hno
      refine R_ (o_ r_ (bw_ r_ r_ (T_ (am_ (aq_ r_ u_ (as_ (al_ (B_ (R_ (M_ r_ (E_ r_ (T_ (R_ (M_ r_ (M_ r_ (M_ r_ ?_))))))))))))))))
      refine o_ r_ (cc_ r_ r_ g_ r_ r_ b_ (o_ r_ (cr_ r_ r_ r_ (o_ r_ (ow_callc [0] r_ r_ hcap r_ hC (T_ (aq_ r_ r_ (R_ (M_ r_ (E_ r_ (T_ (ar_ (az_ (aw_ (aw_ (az_ (aw_ (jq_ret1S rfl rfl (fun K h => by rw [hres] at h; exact h) ?_))))))))))))))))))
      exact bc_ 0 r_ sub_end
    | false =>
      rw [hb'] at hC
      refine R_ (o_ r_ (bw_ r_ r_ (T_ (am_ (aq_ r_ u_ (as_ (al_ (B_ (R_ (M_ r_ (E_ r_ (T_ (R_ (M_ r_ (M_ r_ (M_ r_ ?_))))))))))))))))
      refine o_ r_ (cc_ r_ r_ g_ r_ r_ b_ (o_ r_ (cr_ r_ r_ r_ (o_ r_ (ow_callc [0] r_ r_ hcap r_ hC (T_ (ap_ r_ r_ (as_ (ay_ (al_ (an_ (o_ r_ (bj_ r_ r_ g_ (M_ r_ (ak_ (jq_againS (i := k) (k + 1) ⟨hltk, any_snoc hltk hno hb'⟩ g_ ?_ ?_))))))))))))))))
      · exact bc_ 0 r_ sub_end
      · (repeat (first | exact True.intro | refine ⟨rfl, ?_⟩))
  · have hltk2 : ¬ (k : Int) < (((l).map HdRow).length : Int) := by omega
    rw [List.take_of_length_le (by omega)] at hno
    have hres := idx_none hno
    exact R_ (o_ r_ (bw_ r_ r_ (T_ (am_ (ap_ r_ w_ (av_ (ax_ (ax_ (ba_ (al_ (R_ (E_ r_ (T_ (ar_ (jq_ret1S rfl rfl (fun K h => by rw [hres] at h; exact h) (bc_ 0 r_ sub_end))))))))))))))))
theorem loops1_c (b : Nat) (h : Int) (x : Hd) : Con Try.prog 32 (.row (HdRow x) :: capS [PV b]) [.blk b 3 [.val (.int .i64 h)]] (fun K => K (Bl (decide (x.1 = h))) [.blk b 3 [.val (.int .i64 h)]]) := by
  exact con_intro Try.func32 rfl rfl (Nat.le_of_ble_eq_true rfl) (fun c hc => R_ (o_ r_ (ci_ r_ (fun bx => E_ r_ (T_ (R_ (F_ r_ (L_ 0 r_ (L_ 1 r_ (o_ r_ (bn_ r_ r_ (E_ r_ (T_ (ar_ (jq_ret1S rfl rfl (fun K h => h) (bc_ 1 r_ sub_end))))))))))))))))
/-- Where the head of a block is. -/
theorem heads_c (b : Nat) (h : Int) (l : List Hd) (F : FuncId) [FI Try.prog F] (hF : F = 32) : Con Try.prog 31 [.cell (.list (l.map HdRow)), FC F [PV b]] [.blk b 3 [.val (.int .i64 h)]] (fun K => K (In .i64 (idxOf (fun x => decide (x.1 = h)) l)) [.blk b 3 [.val (.int .i64 h)]]) := by
  subst hF
  exact idxHd_c _ [PV b] rfl _ (fun x => decide (x.1 = h)) l (fun x _ => loops1_c b h x)
theorem heads_find {l : List Hd} {h : Int} : l.find? (fun x => decide (x.1 = h)) = if 0 ≤ idxOf (fun x : Hd => decide (x.1 = h)) l then l[(idxOf (fun x : Hd => decide (x.1 = h)) l).toNat]? else none := by
  have ha := idx_any (fun x : Hd => decide (x.1 = h)) l
  cases hf : l.findIdx? (fun x => decide (x.1 = h)) with
  | none =>
    have e : idxOf (fun x : Hd => decide (x.1 = h)) l = -1 := by unfold idxOf; rw [hf]
    rw [e, if_neg (by decide)]
    rw [List.find?_eq_none]
    intro x hx
    have := List.findIdx?_eq_none_iff.1 hf x hx
    rw [this]; decide
  | some i =>
    have e : idxOf (fun x : Hd => decide (x.1 = h)) l = (i : Int) := by unfold idxOf; rw [hf]
    obtain ⟨hi, hp, hno⟩ := List.findIdx?_eq_some_iff_getElem.1 hf
    rw [e, if_pos (by omega), Int.toNat_natCast, List.getElem?_eq_getElem hi]
    rw [List.find?_eq_some_iff_getElem]
    exact ⟨hp, i, hi, rfl, fun j hj => by simpa using hno j hj⟩
end Go.Proofs.Ytpolnonbgaolkaa
end

section
namespace Go.Vc
open Go.RowKit
set_option maxHeartbeats 1000000

theorem done_first {n m : Nat} {done : Array Bool} (hsz : done.size = n) (hm : m ≤ n) (hd : ∀ j, j < n → (done.getD j true = true ↔ j < m)) : done = (List.replicate m true ++ List.replicate (n - m) false).toArray := by
  apply Array.ext
  · simp only [List.size_toArray, List.length_append, List.length_replicate]; omega
  · intro i h1 h2
    have h3 := hd i (by omega)
    rw [Array.getD_eq_getD_getElem?, Array.getElem?_eq_getElem h1, Option.getD_some] at h3
    simp only [List.getElem_toArray]
    by_cases him : i < m
    · rw [List.getElem_append_left (by simpa using him), List.getElem_replicate]
      exact h3.2 him
    · rw [List.getElem_append_right (by simpa using Nat.le_of_not_lt him), List.getElem_replicate]
      cases hdi : done[i] with
      | false => rfl
      | true => exact absurd (h3.1 hdi) him
section
variable {P : Program} [Gl P] {nt : Nat} {c : Cx P nt} {env : Env} {H Hr : List Ch} {ops : Array Oper} {Q : Exit → Act → World → Prop}
theorem jc_anyH {id n : Nat} (m m2 : Nat) (hn : ops.size = n) (hm : P.follows .mixedOrders = true) (hc : anyChkE ops m none = true) (hdn : ops.toList.all (fun o => o.dst.all (fun d => decide (d < nt))) = true)
    (h : AnyOk P nt ops H (fun env' => HP c ops Q (Keep []) m2 (n - m) (List.replicate m true ++ List.replicate (n - m) false).toArray env' H) (ops.toList.take m) env) : JC c (.region id ops true) Q env H := by
  subst hn
  have hmle : m ≤ ops.size := by
    have hc := hc
    unfold anyChkE at hc
    rw [Bool.and_eq_true, Bool.and_eq_true] at hc
    simpa using hc.1.1
  refine any_coreW (F := fun a w => anyX P .any ops Q (Keep []) m2 (ops.size - m) (List.replicate m true ++ List.replicate (ops.size - m) false).toArray a w) m none [] (.inl rfl) rfl rfl (fun done a w hsz hd hF => ?_) hm hc hdn ?_
  · rw [done_first hsz hmle hd]
    exact any_of_x _ _ _ _ hF
  · have e : (fun env' => HP c ops Q (Keep []) m2 (ops.size - m) (List.replicate m true ++ List.replicate (ops.size - m) false).toArray env' H) = fun env' => AFinW c ops (fun a w => anyX P .any ops Q (Keep []) m2 (ops.size - m) (List.replicate m true ++ List.replicate (ops.size - m) false).toArray a w) H env' none := by
      funext env'
      apply propext
      constructor
      · intro h a w hs
        exact h a w hs (by intro p hp; cases hp)
      · intro h a w hs _
        exact h a w hs
    rw [e] at h
    exact h
theorem RowsLe.map {α : Type _} {f g : α → List C} (h : ∀ a, RowLe (f a) (g a)) : ∀ l : List α, RowsLe (l.map f) (l.map g)
  | [] => RowsLe.nil
  | a :: l => .cons (h a) (RowsLe.map h l)
end
end Go.Vc
end

section
namespace Go.Proofs.Ytpolnonbgaolkaa
open Go.Vc
attribute [local irreducible] JL JC JQ OpWp Con ConN HOk
set_option maxHeartbeats 4000000

open Classical in
theorem nodesF_head {B : List Bk} {h : Nat} (hh : h < B.length) : (h : Int) ∈ nodesF B h := by
  unfold nodesF
  refine List.mem_map.2 ⟨h, ?_, rfl⟩
  rw [List.mem_filter, List.mem_range]
  exact ⟨hh, by unfold lpB; exact decide_eq_true Lpn.head⟩
theorem loops_no {g : Gh} (h : chG g ≠ 0) : loopsF g = ([], chG g) := if_pos h
theorem loops_cyc {g : Gh} (h : chG g = 0) (h2 : acyB g.blocks = false) : loopsF g = ([], 10) := by
  unfold loopsF
  rw [if_neg (fun q => q h), if_pos h2]
theorem loops_bad {g : Gh} (h : chG g = 0) (h2 : acyB g.blocks = true) (h3 : lpsO g g.blocks.length = none) : loopsF g = ([], 10) := by
  unfold loopsF
  rw [if_neg (fun q => q h), if_neg (by rw [h2]; decide), h3]
theorem loops_ok {g : Gh} {l : List Lp} (h : chG g = 0) (h2 : acyB g.blocks = true) (h3 : lpsO g g.blocks.length = some l) : loopsF g = (arS (-1) (srtF l) l.length, 0) := by
  unfold loopsF
  rw [if_neg (fun q => q h), if_neg (by rw [h2]; decide), h3]
theorem containsB_c (L : List Int) (n : Int) (b : Bool) (hb : decide (n ∈ L) = b) : Con Try.prog 30 [.cell (.list (L.map Irow)), In .i64 n] [] (fun K => K (Bl b) []) := by
  subst hb
  exact contains_c L n
theorem lpOf_no1 {g : Gh} {h : Nat} (h1 : (outsF g.blocks h).length ≠ 1) : lpOf g h = none := by
  unfold lpOf
  split
  · rename_i hq _; rw [hq] at h1; exact absurd rfl h1
  · rfl
theorem lpOf_no2 {g : Gh} {h : Nat} (h1 : idxOf (fun x : Hd => decide (x.1 = (h : Int))) g.heads < 0) : lpOf g h = none := by
  unfold lpOf
  rw [heads_find, if_neg (by omega)]
  split
  · rename_i hq; cases hq
  · rfl
theorem lpsO_bad {g : Gh} {h : Nat} {l : List Lp} (hL : lpsO g h = some l) (hla : ¬ latch g.blocks h = []) (hlp : lpOf g h = none) (hh : h < g.blocks.length) : lpsO g g.blocks.length = none := by
  refine lpsO_none (n := h + 1) ?_ _ g_
  rw [lpsO, hL]
  dsimp only
  rw [if_neg hla, hlp]
theorem idx_get {α : Type} {p : α → Bool} {l : List α} (h : 0 ≤ idxOf p l) : ∃ x, l[(idxOf p l).toNat]? = some x := by
  unfold idxOf at h ⊢
  cases hf : l.findIdx? p with
  | none => rw [hf] at h; exact absurd h (by decide)
  | some i =>
    obtain ⟨hi, _⟩ := List.findIdx?_eq_some_iff_getElem.1 hf
    exact ⟨l[i], List.getElem?_eq_getElem hi⟩
theorem lpsO_put {g : Gh} {h : Nat} {l : List Lp} {x : Hd} (hL : lpsO g h = some l) (hla : ¬ latch g.blocks h = []) (c1 : (outsF g.blocks h).length = 1) (c2 : ¬ idxOf (fun x : Hd => decide (x.1 = (h : Int))) g.heads < 0) (hx : g.heads[(idxOf (fun x : Hd => decide (x.1 = (h : Int))) g.heads).toNat]? = some x) :
    lpsO g (h + 1) = some (l ++ [⟨h, (outsF g.blocks h).getD 0 0, nodesF g.blocks h, x.2⟩]) := by
  have e : lpOf g h = some ⟨h, (outsF g.blocks h).getD 0 0, nodesF g.blocks h, x.2⟩ := by
    obtain ⟨b, hb⟩ := List.length_eq_one_iff.1 c1
    unfold lpOf
    rw [heads_find, if_pos (by omega), hx, hb]
    rfl
  rw [lpsO, hL]
  dsimp only
  rw [if_neg hla, e]
abbrev AlRow (x : Lp × Int) : List C := LpRow x.1 x.2
theorem gLoops_c (g : Gh) (hw : GhW g) : Con Try.prog 12 [.row g.row] [] (fun K => K (.tup [.cell (.list ((loopsF g).1.map AlRow)), In .i64 (loopsF g).2]) []) := by
  have eB : (g.blocks.map Bk.row).length = g.blocks.length := List.length_map _
  have hCh := gCheck_c g hw
  have hSh := shaped_c g hw
  refine con_intro Try.func12 rfl rfl (Nat.le_of_ble_eq_true rfl) (fun c hc => ?_)
  by_cases hck : chG g = 0
  case neg =>
    have hres := loops_no hck
    refine R_ (o_ r_ (ci_ r_ (fun bx => E_ r_ (E_ r_ (T_ (am_ (R_ (A_ 0 r_ (o_ r_ (bm_ r_ (hCh) (E_ r_ (T_ (R_ (M_ r_ (o_ r_ (bx_ r_ r_ (T_ (aq_ r_ u_ ?_))))))))))))))))))
    exact R_ (M_ r_ (E_ r_ (E_ r_ (T_ (ar_ (aw_ (jq_ownNil 49 5 g_ (jq_freeze 2 0 rfl rfl (by rw [hc]; simp [hb]) (jq_ret2S rfl rfl rfl (fun K h => by rw [hres] at h; exact h) sub_end)))))))))
  have hOr := ordered_c g hck
  cases hac : acyB g.blocks with
  | false =>
    rw [hac] at hOr
    have hres := loops_cyc hck hac
    refine R_ (o_ r_ (ci_ r_ (fun bx => E_ r_ (E_ r_ (T_ (am_ (R_ (A_ 0 r_ (o_ r_ (bm_ r_ (hCh) (E_ r_ (T_ (R_ (M_ r_ (o_ r_ (bx_ r_ r_ (T_ (ap_ r_ v_ ?_))))))))))))))))))
    refine as_ (al_ (R_ (A_ 0 r_ (o_ r_ (bm_ r_ (hSh) (o_ r_ (bl_ r_ r_ (fun bl => S_ 0 r_ (T_ (am_ (R_ (A_ 0 r_ (o_ r_ (bm_ r_ (hOr) (o_ r_ (cd_ r_ (T_ (aq_ r_ r_ (R_ ?_)))))))))))))))))))
    exact E_ r_ (E_ r_ (T_ (ar_ (aw_ (jq_ownNil 49 5 g_ (jq_freeze 2 0 rfl rfl (by rw [hc]; simp [hb]) (jq_ret2S rfl rfl rfl (fun K h => by rw [hres] at h; exact h) sub_end)))))))
  | true =>
    rw [hac] at hOr
    have hsz := ch_len hck
    refine R_ (o_ r_ (ci_ r_ (fun bx => E_ r_ (E_ r_ (T_ (am_ (R_ (A_ 0 r_ (o_ r_ (bm_ r_ (hCh) (E_ r_ (T_ (R_ (M_ r_ (o_ r_ (bx_ r_ r_ (T_ (ap_ r_ v_ ?_))))))))))))))))))
    refine as_ (al_ (R_ (A_ 0 r_ (o_ r_ (bm_ r_ (hSh) (o_ r_ (bl_ r_ r_ (fun bl => S_ 0 r_ (T_ (am_ (R_ (A_ 0 r_ (o_ r_ (bm_ r_ (hOr) (o_ r_ (cd_ r_ (T_ (ap_ r_ r_ (as_ ?_)))))))))))))))))))
    refine al_ (R_ (E_ r_ (T_ (am_ (R_ (F_ r_ (L_ 1 r_ (o_ r_ (br_ r_ (fun hlen => M_ r_ (T_ (au_ ?_))))))))))))
    generalize bl = bs
    refine jc_ownNil 49 5 g_ ?_
    refine jc_loopS (ι := Nat × Value × List Lp) [] (fun i => i.1 ≤ (g.blocks).length ∧ lpsO g i.1 = some i.2.2) (fun i => (28, In .i64 (i.1 : Int)) :: [(6, .cell (.val i.2.1)), (26, .cell (.list (g.blocks.map Bk.row))), (27, In .i64 ((g.blocks.map Bk.row).length : Int)), (5, Ptr bs), (1, Ptr bx)]) (fun i => [.own i.2.1 49 5 (i.2.2.map fun x => LpRow x 0), .blk bs 71 (ShF g), .blk bx 28 g.row]) (fun i => (g.blocks).length - i.1) (0, .slice none 0 0, []) ⟨Nat.zero_le _, rfl⟩ ?_ ?_ ?_
    · exact bc_ 0 r_ (bc_ 0 r_ (bc_ 0 r_ sub_end))
    · (repeat (first | exact True.intro | refine ⟨rfl, ?_⟩))
    rintro ⟨h, v, l⟩ hz
    dsimp only at hz ⊢
    obtain ⟨hh, hL⟩ := hz
    have eLh : ((g.blocks).map Bk.row).length = (g.blocks).length := List.length_map _
    by_cases hlth : h < (g.blocks).length
    · have hlth2 : (h : Int) < (((g.blocks).map Bk.row).length : Int) := by omega
      have hN := nodes_c g hw h hlth
      have hLl := lpsO_len hL
      by_cases hla : latch g.blocks h = []
      · have hn0 : nodesR g.blocks h = [] := if_pos hla
        have hl0 : (((nodesR g.blocks h).map Irow).length : Int) = 0 := by rw [hn0]; rfl
        have hL2 : lpsO g (h + 1) = some l := by rw [lpsO, hL]; exact if_pos hla
        refine R_ (o_ r_ (bw_ r_ r_ (T_ (am_ (aq_ r_ u_ (as_ (al_ (B_ (R_ (M_ r_ (o_ r_ (bl_ r_ r_ (fun bl => W_ 0 r_ (T_ (R_ (A_ 2 r_ (L_ 0 r_ ?_)))))))))))))))))
        refine o_ r_ (bm_ r_ (hN) (E_ r_ (T_ (am_ (R_ (M_ r_ (o_ r_ (br_ r_ (fun hlen => o_ r_ (bn_ r_ r_ (T_ (aq_ r_ u_ (av_ (ax_ (ba_ (al_ (an_ (o_ r_ (bj_ r_ r_ g_ ?_)))))))))))))))))))
        refine M_ r_ (ak_ (jq_againS (i := (h, v, l)) (h + 1, v, l) ⟨hlth, hL2⟩ (by dsimp only; omega) ?_ ?_))
        · exact bc_ 1 r_ (bc_ 1 r_ (bc_ 1 r_ sub_end))
        · (repeat (first | exact True.intro | refine ⟨rfl, ?_⟩))
      have hn0 : nodesR g.blocks h = nodesF g.blocks h := if_neg hla
      rw [hn0] at hN
      have hnl := nodes_len g.blocks h
      have hl0 : ¬ (((nodesF g.blocks h).map Irow).length : Int) = 0 := by
        rw [List.length_map]
        intro q
        have := nodesF_head hlth
        rw [List.eq_nil_of_length_eq_zero (by omega : (nodesF g.blocks h).length = 0)] at this
        cases this
      have ibm : h < (befM g.blocks).length := by rw [befM_len]; exact hlth
      have hrb : ((befM g.blocks).map Lrow)[h]? = some (Lrow (befL g.blocks h)) := by rw [List.getElem?_map, List.getElem?_eq_getElem ibm, befM_get]; rfl
      have hbl := bef_len g.blocks h
      have eA : ((rchL g.blocks (-1)).map Brow).length = g.blocks.length := by rw [List.length_map, rchL_len]
      refine R_ (o_ r_ (bw_ r_ r_ (T_ (am_ (aq_ r_ u_ (as_ (al_ (B_ (R_ (M_ r_ (o_ r_ (bl_ r_ r_ (fun bl => W_ 0 r_ (T_ (R_ (A_ 2 r_ (L_ 0 r_ ?_)))))))))))))))))
      refine o_ r_ (bm_ r_ (hN) (E_ r_ (T_ (am_ (R_ (M_ r_ (o_ r_ (br_ r_ (fun hlen => o_ r_ (bn_ r_ r_ (T_ (ap_ r_ w_ (as_ (al_ (R_ (E_ r_ (T_ (am_ ?_))))))))))))))))))
      refine R_ (F_ r_ (L_ 2 r_ (L_ 0 r_ (o_ r_ (ow_indexAddrN h r_ r_ r_ hrb r_ b_ (o_ r_ (cb_ r_ r_ (o_ r_ (br_ r_ (fun hlen => M_ r_ (T_ (au_ (jc_ownNil 3 1 g_ ?_)))))))))))))
      refine jc_loopS (ι := Nat × Value) [] (fun i => i.1 ≤ (befL g.blocks h).length) (fun i => (43, In .i64 (i.1 : Int)) :: [(41, .cell (.list ((befL g.blocks h).map Irow))), (42, In .i64 (((befL g.blocks h).map Irow).length : Int)), (9, .cell (.val i.2)), (8, .cell (.list ((nodesF g.blocks h).map Irow))), (7, Ptr bl), (28, In .i64 (h : Int)), (6, .cell (.val v)), (26, .cell (.list (g.blocks.map Bk.row))), (27, In .i64 ((g.blocks.map Bk.row).length : Int)), (5, Ptr bs), (1, Ptr bx)]) (fun i => [.own i.2 3 1 ((((befL g.blocks h).take i.1).filter fun b => alB g.blocks b.toNat && !decide (b ∈ nodesF g.blocks h)).map irow), .blk bl 3 [.val (.int .i64 (h : Int))], .own v 49 5 (l.map fun x => LpRow x 0), .blk bs 71 (ShF g), .blk bx 28 g.row]) (fun i => (befL g.blocks h).length - i.1) (0, .slice none 0 0) (Nat.zero_le _) ?_ ?_ ?_
      · exact bc_ 0 r_ (bc_ 0 r_ (bc_ 0 r_ (bc_ 0 r_ (bc_ 0 r_ sub_end))))
      · (repeat (first | exact True.intro | refine ⟨rfl, ?_⟩))
      rintro ⟨k, u⟩ hz
      dsimp only at hz ⊢
      obtain hk := hz
      have eLk : ((befL g.blocks h).map Irow).length = (befL g.blocks h).length := List.length_map _
      by_cases hltk : k < (befL g.blocks h).length
      · have hltk2 : (k : Int) < (((befL g.blocks h).map Irow).length : Int) := by omega
        have hfs := filter_snoc (p := fun b => alB g.blocks b.toNat && !decide (b ∈ nodesF g.blocks h)) hltk
        have hfl := List.length_filter_le (fun b : Int => alB g.blocks b.toNat && !decide (b ∈ nodesF g.blocks h)) ((befL g.blocks h).take k)
        rw [List.length_take] at hfl
        have hbd := bef_bnd hltk
        have iy : ((befL g.blocks h)[k]).toNat < (rchL g.blocks (-1)).length := by rw [rchL_len]; omega
        have iy0 := hbd.1
        cases hy1 : (rchL g.blocks (-1))[((befL g.blocks h)[k]).toNat] with
        | false =>
          have hay : alB g.blocks ((befL g.blocks h)[k]).toNat = false := by rw [← alB_get iy]; exact hy1
          rw [hay, Bool.false_and, if_neg (by simp), List.append_nil] at hfs
          refine R_ (o_ r_ (bw_ r_ r_ (T_ (am_ (aq_ r_ u_ (as_ (al_ (B_ (R_ (o_ r_ (cc_ r_ r_ g_ r_ r_ b_ (o_ r_ (cb_ r_ r_ (E_ r_ (T_ (R_ (F_ r_ (L_ 3 r_ ?_))))))))))))))))))
          refine M_ r_ (o_ r_ (cv_ r_ r_ g_ g_ r_ r_ b_ (o_ r_ (cb_ r_ r_ (M_ r_ (ai_ r_ h_ b_ (ai_ r_ h_ b_ (ai_ r_ h_ b_ (ai_ r_ h_ b_ (o_ r_ (bv_ r_ h_ r_ (T_ (ap_ r_ r_ (as_ (ay_ (al_ (an_ (o_ r_ (bj_ r_ r_ g_ ?_)))))))))))))))))))
          refine M_ r_ (ak_ (jq_againS (i := (k, u)) (k + 1, u) hltk (by dsimp only; omega) ?_ ?_))
          · dsimp only
            rw [hfs]
            exact bc_ 0 r_ (bc_ 0 r_ (bc_ 0 r_ (bc_ 0 r_ (bc_ 0 r_ sub_end))))
          · (repeat (first | exact True.intro | refine ⟨rfl, ?_⟩))
        | true =>
          have hay : alB g.blocks ((befL g.blocks h)[k]).toNat = true := by rw [← alB_get iy]; exact hy1
          cases hd : decide ((befL g.blocks h)[k] ∈ nodesF g.blocks h) with
          | true =>
            have hC := containsB_c _ _ true hd
            rw [hay, hd, if_neg (by simp), List.append_nil] at hfs
            refine R_ (o_ r_ (bw_ r_ r_ (T_ (am_ (aq_ r_ u_ (as_ (al_ (B_ (R_ (o_ r_ (cc_ r_ r_ g_ r_ r_ b_ (o_ r_ (cb_ r_ r_ (E_ r_ (T_ (R_ (F_ r_ (L_ 3 r_ ?_))))))))))))))))))
            refine M_ r_ (o_ r_ (cv_ r_ r_ g_ g_ r_ r_ b_ (o_ r_ (cb_ r_ r_ (M_ r_ (ah_ r_ h_ b_ (bd_ r_ (ah_ r_ h_ b_ (bd_ r_ (ah_ r_ h_ b_ (bm_ r_ (hC) (ah_ r_ h_ b_ (cd_ r_ (o_ r_ (bp_ r_ h_ r_ (T_ (ap_ r_ r_ (as_ (ay_ (al_ (an_ (o_ r_ (bj_ r_ r_ g_ ?_)))))))))))))))))))))))
            refine M_ r_ (ak_ (jq_againS (i := (k, u)) (k + 1, u) hltk (by dsimp only; omega) ?_ ?_))
            · dsimp only
              rw [hfs]
              exact bc_ 0 r_ (bc_ 0 r_ (bc_ 0 r_ (bc_ 0 r_ (bc_ 0 r_ sub_end))))
            · (repeat (first | exact True.intro | refine ⟨rfl, ?_⟩))
          | false =>
            have hC := containsB_c _ _ false hd
            rw [hay, hd, if_pos (by simp)] at hfs
            refine R_ (o_ r_ (bw_ r_ r_ (T_ (am_ (aq_ r_ u_ (as_ (al_ (B_ (R_ (o_ r_ (cc_ r_ r_ g_ r_ r_ b_ (o_ r_ (cb_ r_ r_ (E_ r_ (T_ (R_ (F_ r_ (L_ 3 r_ ?_))))))))))))))))))
            refine M_ r_ (o_ r_ (cv_ r_ r_ g_ g_ r_ r_ b_ (o_ r_ (cb_ r_ r_ (M_ r_ (ah_ r_ h_ b_ (bd_ r_ (ah_ r_ h_ b_ (bd_ r_ (ah_ r_ h_ b_ (bm_ r_ (hC) (ah_ r_ h_ b_ (cd_ r_ (o_ r_ (bp_ r_ h_ r_ (T_ (aq_ r_ r_ (an_ (M_ r_ (M_ r_ (o_ r_ (bq_ r_ r_ b_ r_ r_ b_ ?_))))))))))))))))))))))
            refine o_ r_ (ow_append1 0 ((befL g.blocks h)[k]) rfl rfl rfl rfl rfl rfl rfl (fun _ => rfl) (by show (_ + _) * 8 ≤ _; first | omega | (simp only [List.length_append]; omega)) (by first | omega | (simp only [List.length_append]; omega)) (fun v1 hv1 => E_ r_ (ak_ (ay_ (al_ (an_ (o_ r_ (bj_ r_ r_ g_ (M_ r_ (ak_ (jq_againS (i := (k, u)) (k + 1, v1) hltk (by dsimp only; omega) ?_ ?_)))))))))))
            · dsimp only
              rw [hfs]
              exact bc_ 0 r_ (bc_ 0 r_ (bc_ 0 r_ (bc_ 0 r_ (bc_ 0 r_ sub_end))))
            · (repeat (first | exact True.intro | refine ⟨rfl, ?_⟩))
      · have hltk2 : ¬ (k : Int) < (((befL g.blocks h).map Irow).length : Int) := by omega
        have ho : ((befL g.blocks h).take k).filter (fun b => alB g.blocks b.toNat && !decide (b ∈ nodesF g.blocks h)) = outsF g.blocks h := by rw [List.take_of_length_le (by omega)]; rfl
        rw [ho]
        have hH := heads_c bl (h : Int) g.heads 32 rfl
        have eO : ((outsF g.blocks h).map irow).length = (outsF g.blocks h).length := List.length_map _
        by_cases c1 : (outsF g.blocks h).length = 1
        case neg =>
          have c1' : (((outsF g.blocks h).map irow).length : Int) ≠ 1 := by omega
          have hres := loops_bad hck hac (lpsO_bad hL hla (lpOf_no1 c1) hlth)
          refine R_ (o_ r_ (bw_ r_ r_ (T_ (am_ (ap_ r_ w_ (av_ (ax_ (ax_ (ba_ (al_ (R_ (F_ r_ (L_ 4 r_ (o_ r_ (ow_makeFunc r_ (o_ r_ (bi_ [1] r_ r_ hH (E_ r_ ?_))))))))))))))))))
          refine T_ (am_ (R_ (M_ r_ (o_ r_ (cw_ 1 r_ r_ (fun hlen => o_ r_ (bx_ r_ r_ (M_ r_ (ai_ r_ u_ b_ (ai_ r_ u_ b_ (o_ r_ (bp_ r_ u_ r_ (T_ (aq_ r_ r_ (R_ (E_ r_ (E_ r_ (T_ ?_))))))))))))))))))
          exact ar_ (aw_ (az_ (aw_ (aw_ (az_ (aw_ (jq_ownNil 49 5 g_ (jq_freeze 2 0 rfl rfl (by rw [hc]; simp [hb]) (jq_ret2S rfl rfl rfl (fun K h => by rw [hres] at h; exact h) sub_end)))))))))
        have c1' : ¬ (((outsF g.blocks h).map irow).length : Int) ≠ 1 := by omega
        by_cases c2 : idxOf (fun x : Hd => decide (x.1 = (h : Int))) g.heads < 0
        · have hres := loops_bad hck hac (lpsO_bad hL hla (lpOf_no2 c2) hlth)
          refine R_ (o_ r_ (bw_ r_ r_ (T_ (am_ (ap_ r_ w_ (av_ (ax_ (ax_ (ba_ (al_ (R_ (F_ r_ (L_ 4 r_ (o_ r_ (ow_makeFunc r_ (o_ r_ (bi_ [1] r_ r_ hH (E_ r_ ?_))))))))))))))))))
          refine T_ (am_ (R_ (M_ r_ (o_ r_ (cw_ 1 r_ r_ (fun hlen => o_ r_ (bx_ r_ r_ (M_ r_ (ah_ r_ w_ b_ (bd_ r_ (ah_ r_ w_ b_ (bw_ r_ r_ (o_ r_ (bv_ r_ w_ r_ (T_ (aq_ r_ u_ (R_ (E_ r_ (E_ r_ (T_ ?_))))))))))))))))))))
          exact ar_ (aw_ (az_ (aw_ (aw_ (az_ (aw_ (jq_ownNil 49 5 g_ (jq_freeze 2 0 rfl rfl (by rw [hc]; simp [hb]) (jq_ret2S rfl rfl rfl (fun K h => by rw [hres] at h; exact h) sub_end)))))))))
        obtain ⟨hx, hhx⟩ := idx_get (p := fun x : Hd => decide (x.1 = (h : Int))) (l := g.heads) (by omega)
        have hL2 := lpsO_put hL hla c1 c2 hhx
        have hrh : (g.heads.map HdRow)[(idxOf (fun x : Hd => decide (x.1 = (h : Int))) g.heads).toNat]? = some (HdRow hx) := by rw [List.getElem?_map, hhx]; rfl
        refine R_ (o_ r_ (bw_ r_ r_ (T_ (am_ (ap_ r_ w_ (av_ (ax_ (ax_ (ba_ (al_ (R_ (F_ r_ (L_ 4 r_ (o_ r_ (ow_makeFunc r_ (o_ r_ (bi_ [1] r_ r_ hH (E_ r_ ?_))))))))))))))))))
        refine T_ (am_ (R_ (M_ r_ (o_ r_ (cw_ 1 r_ r_ (fun hlen => o_ r_ (bx_ r_ r_ (M_ r_ (ah_ r_ w_ b_ (bd_ r_ (ah_ r_ w_ b_ (bw_ r_ r_ (o_ r_ (bv_ r_ w_ r_ (T_ (ap_ r_ w_ (as_ (al_ (jc_anyH (n := 16) 14 16 rfl rfl k_ k_ (yM_ r_ ?_))))))))))))))))))))
        refine yL_ 0 r_ (yM_ r_ (aa_ (fun c => ow_indexI 1 r_ r_ r_ g_ r_ p_) (aa_ (fun c => ow_loadI 1 rfl rfl rfl (show (0 : Int).toNat < _ by rw [c1] ; decide) p_) (yM_ r_ (yF_ r_ (yL_ 4 r_ (yM_ r_ (aa_ (fun c => ow_indexAddrN (idxOf (fun x : Hd => decide (x.1 = (h : Int))) g.heads).toNat rfl rfl g_ hrh rfl b_ p_) (aa_ (fun c => cf_ r_ r_ r_ b_ r_ b_ p_) (aa_ (fun c => cb_ r_ r_ p_) ?_))))))))))
        refine aa_ (fun c => bu_ r_ r_ r_ r_ r_ p_) (aa_ (fun c => bq_ r_ r_ b_ r_ r_ b_ p_) (ae_ (dg_ (i := 14) rfl k_ b_ (ow_append1 2 (⟨h, (outsF g.blocks h).getD 0 0, nodesF g.blocks h, hx.2⟩ : Lp) rfl rfl rfl rfl rfl rfl rfl (fun _ => rfl) (by show (_ + _) * 56 ≤ _ ; omega) g_ (fun v1 _ => ⟨?_, ?_⟩)))))
        exact keep0
        refine df_ (i := 15) rfl k_ k_ k_ b_ (by (repeat (first | refine pani_then ?_ | refine pani_block ?_)); exact pani_body) (hok_assign rfl) ?_
        refine hp_done k_ (ay_ (al_ (an_ (o_ r_ (bj_ r_ r_ g_ (M_ r_ (ak_ (jq_againS (i := (h, v, l)) (h + 1, v1, l ++ [⟨h, (outsF g.blocks h).getD 0 0, nodesF g.blocks h, hx.2⟩]) ⟨hlth, hL2⟩ (by dsimp only; omega) ?_ ?_))))))))
        · exact bc_ 0 r_ (bc_ 2 r_ (bc_ 2 r_ sub_end))
        · (repeat (first | exact True.intro | refine ⟨rfl, ?_⟩))
    · have hlth2 : ¬ (h : Int) < (((g.blocks).map Bk.row).length : Int) := by omega
      have ehn : h = g.blocks.length := by omega
      rw [ehn] at hL
      have hLl := lpsO_len hL
      have hnod : ∀ x ∈ l, x.nodes.length ≤ 1000 := lpsO_all (P := fun x => x.nodes.length ≤ 1000) (fun n x hx => by rw [(lpOf_nodes hx).1]; exact Nat.le_trans (nodes_len _ _) (by omega)) hL
      have hsl := srt_len l
      have hfin := loops_ok hck hac hL
      have hSo := zSortStable_c v l (by omega) hnod
      refine R_ (o_ r_ (bw_ r_ r_ (T_ (am_ (ap_ r_ w_ (av_ (ax_ (ax_ (ba_ (al_ (R_ (M_ r_ (o_ r_ (bi_ [0] r_ r_ (hSo) (T_ (am_ (R_ ?_)))))))))))))))))
      refine M_ r_ (o_ r_ (cw_ 0 r_ r_ (fun hlen => M_ r_ (T_ (au_ ?_)))))
      rw [show ((srtF l).map fun x => LpRow x 0) = (arS 0 (srtF l) 0).map AlRow by rw [arS_zero, List.map_map]; rfl]
      have ea0 := arS_len 0 (srtF l) 0
      refine jc_loopS (ι := Nat) [] (fun i => i ≤ (arS 0 (srtF l) 0).length) (fun i => (94, In .i64 (i : Int)) :: [(93, In .i64 (((arS 0 (srtF l) 0).map AlRow).length : Int)), (6, .cell (.val v)), (5, Ptr bs), (1, Ptr bx)]) (fun i => [.own v 49 5 ((arS 0 (srtF l) i).map AlRow), .blk bs 71 (ShF g), .blk bx 28 g.row]) (fun i => (arS 0 (srtF l) 0).length - i) 0 (Nat.zero_le _) ?_ ?_ ?_
      · exact bc_ 0 r_ (bc_ 0 r_ (bc_ 0 r_ sub_end))
      · (repeat (first | exact True.intro | refine ⟨rfl, ?_⟩))
      rintro i hi
      have eLi : ((arS 0 (srtF l) 0).map AlRow).length = (arS 0 (srtF l) 0).length := List.length_map _
      by_cases hlti : i < (arS 0 (srtF l) 0).length
      · have hlti2 : (i : Int) < (((arS 0 (srtF l) 0).map AlRow).length : Int) := by omega
        have hil : i < (srtF l).length := by omega
        have eai := arS_len 0 (srtF l) i
        have hri : ((arS 0 (srtF l) i).map AlRow)[i]? = some (AlRow ((srtF l)[i], 0)) := by rw [List.getElem?_map, List.getElem?_eq_getElem (by omega), arS_get, if_neg (by omega)]; rfl
        have ew : ((arS 0 (srtF l) i).map AlRow).set i (AlRow ((srtF l)[i], -1)) = ((arS 0 (srtF l) i).set i ((srtF l)[i], arK (srtF l) (srtF l)[i].hdr 0)).map AlRow := by rw [List.map_set]; rfl
        refine R_ (o_ r_ (bw_ r_ r_ (T_ (am_ (aq_ r_ u_ (as_ (al_ (B_ (R_ (M_ r_ (E_ r_ (T_ (R_ (M_ r_ (M_ r_ (o_ r_ (dc_ (k := 5) 0 rfl rfl rfl g_ (by simp only [List.length_map] ; omega) rfl ?_)))))))))))))))))
        refine o_ r_ (ow_fieldAddrInn r_ r_ r_ b_ (ag_ (ow_storeInn (row' := AlRow ((srtF l)[i], -1)) 0 i 3 rfl rfl rfl rfl rfl hri rfl (by decide) rfl (T_ (R_ (M_ r_ (M_ r_ (T_ (au_ ?_)))))))))
        rw [ew]
        refine jc_loopS (ι := Nat) [] (fun k => k ≤ i) (fun k => [(102, In .i64 (k : Int)), (101, In .i64 (i : Int)), (13, In .i64 (i : Int)), (94, In .i64 (i : Int)), (93, In .i64 (((arS 0 (srtF l) 0).map AlRow).length : Int)), (6, .cell (.val v)), (5, Ptr bs), (1, Ptr bx)]) (fun k => [.own v 49 5 (((arS 0 (srtF l) i).set i ((srtF l)[i], arK (srtF l) (srtF l)[i].hdr k)).map AlRow), .blk bs 71 (ShF g), .blk bx 28 g.row]) (fun k => i - k) 0 (Nat.zero_le _) ?_ ?_ ?_
        · exact bc_ 0 r_ (bc_ 0 r_ (bc_ 0 r_ sub_end))
        · (repeat (first | exact True.intro | refine ⟨rfl, ?_⟩))
        intro k hk
        have es2 : ((arS 0 (srtF l) i).set i ((srtF l)[i], arK (srtF l) (srtF l)[i].hdr k)).length = (srtF l).length := by rw [List.length_set, arS_len]
        by_cases hlk : k < i
        · have hlk2 : (k : Int) < (i : Int) := by omega
          have hkl : k < (srtF l).length := by omega
          have hrk : (((arS 0 (srtF l) i).set i ((srtF l)[i], arK (srtF l) (srtF l)[i].hdr k)).map AlRow)[k]? = some (AlRow ((srtF l)[k], arK (srtF l) (srtF l)[k].hdr k)) := by rw [List.getElem?_map, List.getElem?_set_ne (by omega), List.getElem?_eq_getElem (by omega), arS_get, if_pos hlk]; rfl
          have hri2 : (((arS 0 (srtF l) i).set i ((srtF l)[i], arK (srtF l) (srtF l)[i].hdr k)).map AlRow)[i]? = some (AlRow ((srtF l)[i], arK (srtF l) (srtF l)[i].hdr k)) := by rw [List.getElem?_map, List.getElem?_set_self (by omega)]; rfl
          have hak : arK (srtF l) (srtF l)[i].hdr (k + 1) = if decide ((srtF l)[i].hdr ∈ (srtF l)[k].nodes) then (k : Int) else arK (srtF l) (srtF l)[i].hdr k := by rw [arK, List.getElem?_eq_getElem hkl]; rfl
          cases hin : decide ((srtF l)[i].hdr ∈ (srtF l)[k].nodes) with
          | true =>
            have hC := containsB_c _ _ true hin
            rw [hin, if_pos rfl] at hak
            have ew2 : (((arS 0 (srtF l) i).set i ((srtF l)[i], arK (srtF l) (srtF l)[i].hdr k)).map AlRow).set i (AlRow ((srtF l)[i], (k : Int))) = ((arS 0 (srtF l) i).set i ((srtF l)[i], arK (srtF l) (srtF l)[i].hdr (k + 1))).map AlRow := by rw [hak, ← List.map_set, List.set_set]
            refine R_ (o_ r_ (bw_ r_ r_ (T_ (am_ (aq_ r_ u_ (as_ (al_ (B_ (R_ (M_ r_ (E_ r_ (T_ (am_ (ao_ r_ r_ k_ k_ (yM_ r_ (yM_ r_ ?_))))))))))))))))
            refine aa_ (fun c => dc_ (k := 5) 0 rfl rfl rfl g_ (by simp only [List.length_map] ; omega) rfl p_) (aa_ (fun c => ow_fieldAddrInn r_ r_ r_ b_ p_) (aa_ (fun c => ow_loadInn 0 k 2 r_ r_ r_ r_ hrk r_ p_) (yM_ r_ (yM_ r_ (aa_ (fun c => dc_ (k := 5) 0 rfl rfl rfl g_ (by simp only [List.length_map] ; omega) rfl p_) (aa_ (fun c => ow_fieldAddrInn r_ r_ r_ b_ p_) (aa_ (fun c => ow_loadInn 0 i 0 r_ r_ r_ r_ hri2 r_ p_) ?_)))))))
            refine aa_ (fun c => bm_ r_ (hC) p_) (ae_ (al_ (aq_ r_ r_ (an_ (M_ r_ (M_ r_ (M_ r_ (o_ r_ (dc_ (k := 5) 0 rfl rfl rfl g_ (by simp only [List.length_map] ; omega) rfl (o_ r_ (ow_fieldAddrInn r_ r_ r_ b_ (ag_ (ow_storeInn (row' := AlRow ((srtF l)[i], (k : Int))) 0 i 3 r_ r_ r_ r_ r_ hri2 r_ (Nat.le_of_ble_eq_true r_) r_ (ak_ (ay_ (al_ (an_ (o_ r_ (bj_ r_ r_ g_ ?_)))))))))))))))))))
            refine M_ r_ (ak_ (jq_againS (i := k) (k + 1) hlk g_ ?_ ?_))
            · rw [← ew2]
              exact bc_ 0 r_ (bc_ 0 r_ (bc_ 0 r_ sub_end))
            · (repeat (first | exact True.intro | refine ⟨rfl, ?_⟩))
          | false =>
            have hC := containsB_c _ _ false hin
            rw [hin, if_neg (by simp)] at hak
            refine R_ (o_ r_ (bw_ r_ r_ (T_ (am_ (aq_ r_ u_ (as_ (al_ (B_ (R_ (M_ r_ (E_ r_ (T_ (am_ (ao_ r_ r_ k_ k_ (yM_ r_ (yM_ r_ ?_))))))))))))))))
            refine aa_ (fun c => dc_ (k := 5) 0 rfl rfl rfl g_ (by simp only [List.length_map] ; omega) rfl p_) (aa_ (fun c => ow_fieldAddrInn r_ r_ r_ b_ p_) (aa_ (fun c => ow_loadInn 0 k 2 r_ r_ r_ r_ hrk r_ p_) (yM_ r_ (yM_ r_ (aa_ (fun c => dc_ (k := 5) 0 rfl rfl rfl g_ (by simp only [List.length_map] ; omega) rfl p_) (aa_ (fun c => ow_fieldAddrInn r_ r_ r_ b_ p_) (aa_ (fun c => ow_loadInn 0 i 0 r_ r_ r_ r_ hri2 r_ p_) ?_)))))))
            refine aa_ (fun c => bm_ r_ (hC) p_) (ae_ (al_ (ap_ r_ r_ (as_ (ay_ (al_ (an_ (o_ r_ (bj_ r_ r_ g_ (M_ r_ (ak_ (jq_againS (i := k) (k + 1) hlk g_ ?_ ?_))))))))))))
            · rw [hak]
              exact bc_ 0 r_ (bc_ 0 r_ (bc_ 0 r_ sub_end))
            · (repeat (first | exact True.intro | refine ⟨rfl, ?_⟩))
        · have hlk2 : ¬ (k : Int) < (i : Int) := by omega
          have eki : k = i := by omega
          have est := arS_step (a := 0) hil
          rw [eki, est]
          refine R_ (o_ r_ (bw_ r_ r_ (T_ (am_ (ap_ r_ v_ (av_ (ax_ (ax_ (ba_ (ay_ (al_ (an_ (o_ r_ (bj_ r_ r_ g_ (M_ r_ (ak_ (jq_againS (i := i) (i + 1) hlti g_ ?_ ?_)))))))))))))))))
          · exact bc_ 0 r_ (bc_ 0 r_ (bc_ 0 r_ sub_end))
          · (repeat (first | exact True.intro | refine ⟨rfl, ?_⟩))
      · have hlti2 : ¬ (i : Int) < (((arS 0 (srtF l) 0).map AlRow).length : Int) := by omega
        have ein : i = (srtF l).length := by omega
        have hfa : arS 0 (srtF l) i = arS (-1) (srtF l) l.length := by rw [ein, arS_all 0 (-1), hsl]
        rw [hfa]
        refine R_ (o_ r_ (bw_ r_ r_ (T_ (am_ (ap_ r_ w_ (av_ (ax_ (ax_ (ba_ (al_ (R_ (M_ r_ (E_ r_ (E_ r_ (T_ (ar_ ?_))))))))))))))))
        exact jq_freeze 2 0 rfl rfl (by rw [hc]; simp [hb]) (jq_ret2S rfl rfl rfl (fun K h => by rw [hfin] at h; exact h) sub_end)
end Go.Proofs.Ytpolnonbgaolkaa
end

section
namespace Go.Proofs.Ytpolnonbgaolkaa
open Go.Vc
attribute [local irreducible] JL JC JQ OpWp Con ConN HOk
set_option maxHeartbeats 4000000

theorem rHasB_c (L : List Int) (n : Int) (b : Bool) (hb : decide (n ∈ L) = b) : Con Try.prog 51 [.cell (.list (L.map Irow)), In .i64 n] [] (fun K => K (Bl b) []) := by
  subst hb
  exact rHas_c L n
noncomputable abbrev bkA (B : List Bk) (h k : Nat) : Bool := ((befL B h).take k).any fun y => dmB B h y.toNat
theorem bkA_step {B : List Bk} {h k : Nat} (hk : k < (befL B h).length) : bkA B h (k + 1) = (bkA B h k || dmB B h ((befL B h)[k]).toNat) := by
  unfold bkA
  rw [List.take_succ_eq_append_getElem hk, List.any_append]
  simp
theorem bkA_end {B : List Bk} {h k : Nat} (hk : (befL B h).length ≤ k) : bkA B h k = !decide (latch B h = []) := by
  unfold bkA latch
  rw [List.take_of_length_le hk]
  cases ha : (befL B h).any (fun y => dmB B h y.toNat) with
  | true =>
    obtain ⟨y, hy, hp⟩ := List.any_eq_true.1 ha
    rw [decide_eq_false (fun e => by have := List.filter_eq_nil_iff.1 e y hy; exact this hp)]
    rfl
  | false =>
    rw [decide_eq_true (List.filter_eq_nil_iff.2 (fun y hy => List.any_eq_false.1 ha y hy))]
    rfl
theorem lpsO_skip {g : Gh} {h : Nat} {l : List Lp} (hL : lpsO g h = some l) (hla : latch g.blocks h = []) : lpsO g (h + 1) = some l := by
  rw [lpsO, hL]
  exact if_pos hla
theorem lpsO_more {g : Gh} {h : Nat} {l : List Lp} {x : Lp} (hL : lpsO g h = some l) (hla : ¬ latch g.blocks h = []) (hx : lpOf g h = some x) : lpsO g (h + 1) = some (l ++ [x]) := by
  rw [lpsO, hL]
  dsimp only
  rw [if_neg hla, hx]
theorem Stb.len {l out : List Lp} (h : Stb l out) : out.length = l.length := by
  rw [h.unique, srt_len]
theorem put_rows (out : List Lp) (x : Lp) (k : Nat) : (out.map (fun x => LpRow x (-1))).take k ++ ([LpRow x (-1)] ++ (out.map (fun x => LpRow x (-1))).drop k) = (out.take k ++ [x] ++ out.drop k).map (fun x => LpRow x (-1)) := by
  rw [← List.map_take, ← List.map_drop, List.map_append, List.map_append, List.append_assoc]
  rfl
theorem lp_rows (out : List Lp) : ∀ row ∈ out.map (fun x => LpRow x (-1)), row.length = 5 := by
  intro row hr
  obtain ⟨x, _, rfl⟩ := List.mem_map.1 hr
  rfl
theorem lp_rows2 (x : Lp) (out : List Lp) (k : Nat) : ∀ row ∈ [LpRow x (-1)] ++ (out.map (fun x => LpRow x (-1))).drop k, row.length = 5 := by
  intro row hr
  rcases List.mem_append.1 hr with hr | hr
  · rw [List.mem_singleton.1 hr]; rfl
  · exact lp_rows out row (List.mem_of_mem_drop hr)
theorem rLoops_c (g : Gh) (hw : GhW g) : Con Try.prog 23 [.row g.row] [] (fun K => K (.tup [.cell (.list ((loopsF g).1.map AlRow)), In .i64 (loopsF g).2]) []) := by
  have eB : (g.blocks.map Bk.row).length = g.blocks.length := List.length_map _
  have eBm : ((befM g.blocks).map Lrow).length = g.blocks.length := by rw [List.length_map, befM_len]
  have eD : ((domM g.blocks).map DRow).length = g.blocks.length := by rw [List.length_map, domM_len]
  have eA : ((rchL g.blocks (-1)).map Brow).length = g.blocks.length := by rw [List.length_map, rchL_len]
  have hCh := rCheck_c g hw
  have hRe := rReached_c g hw
  have hDo := rDominates_c g hw
  have hBf := rBefore_c g hw
  refine con_intro Try.func23 rfl rfl (Nat.le_of_ble_eq_true rfl) (fun c hc => ?_)
  by_cases hck : chG g = 0
  case neg =>
    have hres := loops_no hck
    refine R_ (o_ r_ (ci_ r_ (fun bx => E_ r_ (E_ r_ (T_ (am_ (R_ (A_ 0 r_ (o_ r_ (bm_ r_ (hCh) (E_ r_ (T_ (R_ (M_ r_ (o_ r_ (bx_ r_ r_ (T_ (aq_ r_ u_ ?_))))))))))))))))))
    exact R_ (M_ r_ (E_ r_ (E_ r_ (T_ (ar_ (aw_ (jq_ownNil 49 5 g_ (jq_freeze 2 0 rfl rfl (by rw [hc]; simp [hb]) (jq_ret2S rfl rfl rfl (fun K h => by rw [hres] at h; exact h) sub_end)))))))))
  have hOr := rAcyclic_c g hck
  cases hac : acyB g.blocks with
  | false =>
    rw [hac] at hOr
    have hres := loops_cyc hck hac
    refine R_ (o_ r_ (ci_ r_ (fun bx => E_ r_ (E_ r_ (T_ (am_ (R_ (A_ 0 r_ (o_ r_ (bm_ r_ (hCh) (E_ r_ (T_ (R_ (M_ r_ (o_ r_ (bx_ r_ r_ (T_ (ap_ r_ v_ ?_))))))))))))))))))
    refine as_ (al_ (am_ (ao_ r_ r_ k_ k_ (aa_ (fun c => bs_ 0 r_ r_ r_ r_ p_) (aa_ (fun c => bm_ r_ (hRe) p_) (aa_ (fun c => bs_ 0 r_ r_ r_ r_ p_) (aa_ (fun c => bm_ r_ (hDo) p_) (yE_ r_ (yE_ r_ (ae_ (al_ (am_ (R_ (A_ 0 r_ (M_ r_ ?_)))))))))))))))
    exact M_ r_ (o_ r_ (bm_ r_ (hOr) (o_ r_ (cd_ r_ (T_ (aq_ r_ r_ (R_ (E_ r_ (E_ r_ (T_ (ar_ (aw_ (jq_ownNil 49 5 g_ (jq_freeze 2 0 rfl rfl (by rw [hc]; simp [hb]) (jq_ret2S rfl rfl rfl (fun K h => by rw [hres] at h; exact h) sub_end)))))))))))))))
  | true =>
    rw [hac] at hOr
    have hsz := ch_len hck
    have eDr : ((domR g.blocks 0).map Brow).length = g.blocks.length := by simp
    refine R_ (o_ r_ (ci_ r_ (fun bx => E_ r_ (E_ r_ (T_ (am_ (R_ (A_ 0 r_ (o_ r_ (bm_ r_ (hCh) (E_ r_ (T_ (R_ (M_ r_ (o_ r_ (bx_ r_ r_ (T_ (ap_ r_ v_ ?_))))))))))))))))))
    refine as_ (al_ (am_ (ao_ r_ r_ k_ k_ (aa_ (fun c => bs_ 0 r_ r_ r_ r_ p_) (aa_ (fun c => bm_ r_ (hRe) p_) (aa_ (fun c => bs_ 0 r_ r_ r_ r_ p_) (aa_ (fun c => bm_ r_ (hDo) p_) (yE_ r_ (yE_ r_ (ae_ (al_ (am_ (R_ (A_ 0 r_ (M_ r_ ?_)))))))))))))))
    refine M_ r_ (o_ r_ (bm_ r_ (hOr) (o_ r_ (cd_ r_ (T_ (ap_ r_ r_ (as_ (al_ (R_ (A_ 0 r_ (o_ r_ (bm_ r_ (hBf) (E_ r_ (T_ (R_ (E_ r_ (T_ (am_ ?_))))))))))))))))))
    refine R_ (E_ r_ (T_ (au_ ?_)))
    clear hCh hRe hDo hOr hBf
    refine jc_ownNil 49 5 g_ ?_
    refine jc_loopS (ι := Nat × Value × List Lp × List Lp) [] (fun i => i.1 ≤ (g.blocks).length ∧ lpsO g i.1 = some i.2.2.1 ∧ Stb i.2.2.1 i.2.2.2) (fun i => (9, In .i64 (i.1 : Int)) :: [(8, .cell (.val i.2.1)), (7, .cell (.list ((befM g.blocks).map Lrow))), (5, .cell (.list ((rchL g.blocks (-1)).map Brow))), (6, .cell (.list ((domM g.blocks).map DRow))), (1, Ptr bx)]) (fun i => [.own i.2.1 49 5 (i.2.2.2.map fun x => LpRow x (-1)), .blk bx 28 g.row]) (fun i => (g.blocks).length - i.1) (0, .slice none 0 0, [], []) ⟨Nat.zero_le _, rfl, Stb.nil⟩ ?_ ?_ ?_
    · exact bc_ 0 r_ (bc_ 0 r_ sub_end)
    · (repeat (first | exact True.intro | refine ⟨rfl, ?_⟩))
    rintro ⟨h, v, l, out⟩ hz
    dsimp only at hz ⊢
    obtain ⟨hh, ⟨hL, hS⟩⟩ := hz
    have eLh : ((g.blocks).map Bk.row).length = (g.blocks).length := List.length_map _
    by_cases hlth : h < (g.blocks).length
    · have hlth2 : (h : Int) < (((g.blocks).map Bk.row).length : Int) := by omega
      have hBo := rBody_c g hw h hlth
      have hrow := bef_at hlth
      have hdr := domM_at hlth
      have hbl := bef_len g.blocks h
      have hLl0 := lpsO_len hL
      refine am_ (R_ (M_ r_ (F_ r_ (L_ 1 r_ (o_ r_ (br_ r_ (fun hlen => o_ r_ (bw_ r_ r_ (T_ (aq_ r_ u_ (as_ (al_ (B_ (R_ (E_ r_ (T_ (am_ ?_)))))))))))))))))
      refine R_ (E_ r_ (T_ (au_ ?_)))
      refine jc_loopS (ι := Nat) [] (fun i => i ≤ (befL g.blocks h).length) (fun i => (11, In .i64 (i : Int)) :: [(10, Bl (bkA g.blocks h i)), (9, In .i64 (h : Int)), (8, .cell (.val v)), (7, .cell (.list ((befM g.blocks).map Lrow))), (5, .cell (.list ((rchL g.blocks (-1)).map Brow))), (6, .cell (.list ((domM g.blocks).map DRow))), (1, Ptr bx)]) (fun i => [.own v 49 5 (out.map fun x => LpRow x (-1)), .blk bx 28 g.row]) (fun i => (befL g.blocks h).length - i) 0 (Nat.zero_le _) ?_ ?_ ?_
      · exact bc_ 0 r_ (bc_ 0 r_ sub_end)
      · (repeat (first | exact True.intro | refine ⟨rfl, ?_⟩))
      rintro i hi
      have eLi : ((befL g.blocks h).map Irow).length = (befL g.blocks h).length := List.length_map _
      by_cases hlti : i < (befL g.blocks h).length
      · have hlti2 : (i : Int) < (((befL g.blocks h).map Irow).length : Int) := by omega
        have hst := bkA_step hlti
        have hbd := bef_bnd hlti
        obtain ⟨y, hy⟩ : ∃ y, y = (befL g.blocks h)[i] := ⟨_, rfl⟩
        have hyr : ((befL g.blocks h).map Irow)[i]? = some (Irow y) := by rw [List.getElem?_map, List.getElem?_eq_getElem hlti, hy]; rfl
        rw [← hy] at hst hbd
        have hyl : y.toNat < g.blocks.length := by omega
        cases hb0 : bkA g.blocks h i with
        | true =>
          rw [hb0, Bool.true_or] at hst
          refine am_ (R_ (M_ r_ (M_ r_ (M_ r_ (o_ r_ (ow_indexAddrN h r_ r_ r_ hrow r_ b_ (o_ r_ (cb_ r_ r_ (o_ r_ (br_ r_ (fun hlen => o_ r_ (bw_ r_ r_ (T_ (aq_ r_ u_ (as_ (al_ (B_ (ao_ r_ r_ k_ k_ (yM_ r_ ?_)))))))))))))))))))
          refine yM_ r_ (ac_ r_ r_ (ac_ r_ r_ (ac_ r_ r_ (ac_ r_ r_ (ac_ r_ r_ (ac_ r_ r_ (ac_ r_ r_ (ac_ r_ r_ (ac_ r_ r_ (ac_ r_ r_ (ac_ r_ r_ (ad_ r_ (ad_ r_ (ad_ r_ (ad_ r_ ?_)))))))))))))))
          refine ad_ r_ (ad_ r_ (ad_ r_ (ad_ r_ (ad_ r_ (ad_ r_ (ad_ r_ (ad_ r_ (ad_ r_ (ac_ r_ r_ (aa_ (fun c => bp_ r_ r_ r_ p_) (yE_ r_ (ae_ (ay_ (al_ (an_ ?_)))))))))))))))
          refine M_ r_ (o_ r_ (bj_ r_ r_ g_ (E_ r_ (ak_ (jq_againS (i := i) (i + 1) hlti g_ ?_ ?_)))))
          · exact bc_ 0 r_ (bc_ 0 r_ sub_end)
          · rw [hst]
            (repeat (first | exact True.intro | refine ⟨rfl, ?_⟩))
        | false =>
          rw [hb0, Bool.false_or] at hst
          cases hd : dmB g.blocks h y.toNat with
          | true =>
            have ha := rch_at hyl (dm_al hd)
            have hdd := domR_at hyl hd
            rw [hd] at hst
            refine am_ (R_ (M_ r_ (M_ r_ (M_ r_ (o_ r_ (ow_indexAddrN h r_ r_ r_ hrow r_ b_ (o_ r_ (cb_ r_ r_ (o_ r_ (br_ r_ (fun hlen => o_ r_ (bw_ r_ r_ (T_ (aq_ r_ u_ (as_ (al_ (B_ (ao_ r_ r_ k_ k_ (yM_ r_ ?_)))))))))))))))))))
            refine yM_ r_ (ab_ r_ r_ (fun c => bd_ r_ p_) (ab_ r_ r_ (fun c => bd_ r_ p_) (ab_ r_ r_ (fun c => bd_ r_ p_) (ab_ r_ r_ (fun c => ow_indexAddrN h r_ r_ r_ hrow r_ b_ p_) (ab_ r_ r_ (fun c => cb_ r_ r_ p_) (ab_ r_ r_ (fun c => bd_ r_ p_) (ab_ r_ r_ (fun c => ow_indexAddrN i r_ r_ r_ hyr r_ b_ p_) (ab_ r_ r_ (fun c => cb_ r_ r_ p_) (ab_ r_ r_ (fun c => ow_indexAddrN y.toNat r_ r_ g_ ha r_ b_ p_) ?_)))))))))
            refine ab_ r_ r_ (fun c => cb_ r_ r_ p_) (ab_ r_ r_ (fun c => bd_ r_ p_) (ab_ r_ r_ (fun c => bd_ r_ p_) (ab_ r_ r_ (fun c => bd_ r_ p_) (ab_ r_ r_ (fun c => ow_indexAddrN h r_ r_ r_ hdr r_ b_ p_) (ab_ r_ r_ (fun c => cb_ r_ r_ p_) (ab_ r_ r_ (fun c => bd_ r_ p_) (ab_ r_ r_ (fun c => bd_ r_ p_) (ab_ r_ r_ (fun c => ow_indexAddrN h r_ r_ r_ hrow r_ b_ p_) (ab_ r_ r_ (fun c => cb_ r_ r_ p_) ?_)))))))))
            refine ab_ r_ r_ (fun c => bd_ r_ p_) (ab_ r_ r_ (fun c => ow_indexAddrN i r_ r_ r_ hyr r_ b_ p_) (ab_ r_ r_ (fun c => cb_ r_ r_ p_) (ab_ r_ r_ (fun c => ow_indexAddrN y.toNat r_ r_ g_ hdd r_ b_ p_) (ab_ r_ r_ (fun c => cb_ r_ r_ p_) (ab_ r_ r_ (fun c => bp_ r_ r_ r_ p_) (aa_ (fun c => bv_ r_ r_ r_ p_) (yE_ r_ (ae_ (ay_ (al_ (an_ (M_ r_ (o_ r_ (bj_ r_ r_ g_ (E_ r_ (ak_ ?_))))))))))))))))
            refine jq_againS (i := i) (i + 1) hlti g_ ?_ ?_
            · exact bc_ 0 r_ (bc_ 0 r_ sub_end)
            · rw [hst]
              (repeat (first | exact True.intro | refine ⟨rfl, ?_⟩))
          | false =>
            have hdd := domR_at hyl hd
            rw [hd] at hst
            cases hal : alB g.blocks y.toNat with
            | false =>
              have ha := rch_at hyl hal
              refine am_ (R_ (M_ r_ (M_ r_ (M_ r_ (o_ r_ (ow_indexAddrN h r_ r_ r_ hrow r_ b_ (o_ r_ (cb_ r_ r_ (o_ r_ (br_ r_ (fun hlen => o_ r_ (bw_ r_ r_ (T_ (aq_ r_ u_ (as_ (al_ (B_ (ao_ r_ r_ k_ k_ (yM_ r_ ?_)))))))))))))))))))
              refine yM_ r_ (ab_ r_ r_ (fun c => bd_ r_ p_) (ab_ r_ r_ (fun c => bd_ r_ p_) (ab_ r_ r_ (fun c => bd_ r_ p_) (ab_ r_ r_ (fun c => ow_indexAddrN h r_ r_ r_ hrow r_ b_ p_) (ab_ r_ r_ (fun c => cb_ r_ r_ p_) (ab_ r_ r_ (fun c => bd_ r_ p_) (ab_ r_ r_ (fun c => ow_indexAddrN i r_ r_ r_ hyr r_ b_ p_) (ab_ r_ r_ (fun c => cb_ r_ r_ p_) (ab_ r_ r_ (fun c => ow_indexAddrN y.toNat r_ r_ g_ ha r_ b_ p_) ?_)))))))))
              refine ab_ r_ r_ (fun c => cb_ r_ r_ p_) (ab_ r_ r_ (fun c => bd_ r_ p_) (ac_ r_ r_ (ac_ r_ r_ (ac_ r_ r_ (ac_ r_ r_ (ac_ r_ r_ (ac_ r_ r_ (ac_ r_ r_ (ac_ r_ r_ (ac_ r_ r_ (ac_ r_ r_ (ac_ r_ r_ (ac_ r_ r_ (ac_ r_ r_ (ab_ r_ r_ (fun c => bv_ r_ r_ r_ p_) ?_)))))))))))))))
              refine aa_ (fun c => bv_ r_ r_ r_ p_) (yE_ r_ (ae_ (ay_ (al_ (an_ (M_ r_ (o_ r_ (bj_ r_ r_ g_ (E_ r_ (ak_ (jq_againS (i := i) (i + 1) hlti g_ ?_ ?_)))))))))))
              · exact bc_ 0 r_ (bc_ 0 r_ sub_end)
              · rw [hst]
                (repeat (first | exact True.intro | refine ⟨rfl, ?_⟩))
            | true =>
              have ha := rch_at hyl hal
              refine am_ (R_ (M_ r_ (M_ r_ (M_ r_ (o_ r_ (ow_indexAddrN h r_ r_ r_ hrow r_ b_ (o_ r_ (cb_ r_ r_ (o_ r_ (br_ r_ (fun hlen => o_ r_ (bw_ r_ r_ (T_ (aq_ r_ u_ (as_ (al_ (B_ (ao_ r_ r_ k_ k_ (yM_ r_ ?_)))))))))))))))))))
              refine yM_ r_ (ab_ r_ r_ (fun c => bd_ r_ p_) (ab_ r_ r_ (fun c => bd_ r_ p_) (ab_ r_ r_ (fun c => bd_ r_ p_) (ab_ r_ r_ (fun c => ow_indexAddrN h r_ r_ r_ hrow r_ b_ p_) (ab_ r_ r_ (fun c => cb_ r_ r_ p_) (ab_ r_ r_ (fun c => bd_ r_ p_) (ab_ r_ r_ (fun c => ow_indexAddrN i r_ r_ r_ hyr r_ b_ p_) (ab_ r_ r_ (fun c => cb_ r_ r_ p_) (ab_ r_ r_ (fun c => ow_indexAddrN y.toNat r_ r_ g_ ha r_ b_ p_) ?_)))))))))
              refine ab_ r_ r_ (fun c => cb_ r_ r_ p_) (ab_ r_ r_ (fun c => bd_ r_ p_) (ab_ r_ r_ (fun c => bd_ r_ p_) (ab_ r_ r_ (fun c => bd_ r_ p_) (ab_ r_ r_ (fun c => ow_indexAddrN h r_ r_ r_ hdr r_ b_ p_) (ab_ r_ r_ (fun c => cb_ r_ r_ p_) (ab_ r_ r_ (fun c => bd_ r_ p_) (ab_ r_ r_ (fun c => bd_ r_ p_) (ab_ r_ r_ (fun c => ow_indexAddrN h r_ r_ r_ hrow r_ b_ p_) (ab_ r_ r_ (fun c => cb_ r_ r_ p_) ?_)))))))))
              refine ab_ r_ r_ (fun c => bd_ r_ p_) (ab_ r_ r_ (fun c => ow_indexAddrN i r_ r_ r_ hyr r_ b_ p_) (ab_ r_ r_ (fun c => cb_ r_ r_ p_) (ab_ r_ r_ (fun c => ow_indexAddrN y.toNat r_ r_ g_ hdd r_ b_ p_) (ab_ r_ r_ (fun c => cb_ r_ r_ p_) (ab_ r_ r_ (fun c => bp_ r_ r_ r_ p_) (aa_ (fun c => bv_ r_ r_ r_ p_) (yE_ r_ (ae_ (ay_ (al_ (an_ (M_ r_ (o_ r_ (bj_ r_ r_ g_ (E_ r_ (ak_ ?_))))))))))))))))
              refine jq_againS (i := i) (i + 1) hlti g_ ?_ ?_
              · exact bc_ 0 r_ (bc_ 0 r_ sub_end)
              · rw [hst]
                (repeat (first | exact True.intro | refine ⟨rfl, ?_⟩))
      · have hlti2 : ¬ (i : Int) < (((befL g.blocks h).map Irow).length : Int) := by omega
        rw [bkA_end (by omega)]
        by_cases hla : latch g.blocks h = []
        · have hL2 := lpsO_skip hL hla
          rw [decide_eq_true hla]
          refine am_ (R_ (M_ r_ (M_ r_ (M_ r_ (o_ r_ (ow_indexAddrN h r_ r_ r_ hrow r_ b_ (o_ r_ (cb_ r_ r_ (o_ r_ (br_ r_ (fun hlen => o_ r_ (bw_ r_ r_ (T_ (ap_ r_ w_ (av_ (ax_ (ax_ (ba_ (al_ ?_)))))))))))))))))))
          refine am_ (R_ (M_ r_ (o_ r_ (cd_ r_ (T_ (aq_ r_ r_ (av_ (ax_ (ba_ (al_ (an_ (M_ r_ (o_ r_ (bj_ r_ r_ g_ (E_ r_ (ak_ (jq_againS (i := (h, v, l, out)) (h + 1, v, l, out) ⟨hlth, hL2, hS⟩ (by dsimp only; omega) ?_ ?_)))))))))))))))))
          · exact bc_ 0 r_ (bc_ 0 r_ sub_end)
          · (repeat (first | exact True.intro | refine ⟨rfl, ?_⟩))
        rw [decide_eq_false hla]
        refine am_ (R_ (M_ r_ (M_ r_ (M_ r_ (o_ r_ (ow_indexAddrN h r_ r_ r_ hrow r_ b_ (o_ r_ (cb_ r_ r_ (o_ r_ (br_ r_ (fun hlen => o_ r_ (bw_ r_ r_ (T_ (ap_ r_ w_ (av_ (ax_ (ax_ (ba_ (al_ ?_)))))))))))))))))))
        refine am_ (R_ (M_ r_ (o_ r_ (cd_ r_ (T_ (ap_ r_ r_ (as_ (al_ (R_ (M_ r_ (A_ 1 r_ (M_ r_ (M_ r_ (M_ r_ (o_ r_ (bm_ r_ (hBo) (o_ r_ (bu_ r_ r_ r_ r_ r_ ?_))))))))))))))))))
        refine o_ r_ (bl_ r_ r_ (fun bl => S_ 0 r_ (T_ (R_ (E_ r_ (T_ (am_ (R_ (E_ r_ (T_ (au_ ?_)))))))))))
        refine jc_loopS (ι := Nat) [] (fun k => k ≤ (befL g.blocks h).length) (fun k => (14, In .i64 (k : Int)) :: [(13, In .i64 ((((befL g.blocks h).take k).filter (fun b => alB g.blocks b.toNat && !decide (b ∈ nodesF g.blocks h))).length : Int)), (12, Ptr bl), (9, In .i64 (h : Int)), (8, .cell (.val v)), (7, .cell (.list ((befM g.blocks).map Lrow))), (5, .cell (.list ((rchL g.blocks (-1)).map Brow))), (6, .cell (.list ((domM g.blocks).map DRow))), (1, Ptr bx)]) (fun k => [.blk bl 49 (LpRow ⟨h, lastD (((befL g.blocks h).take k).filter (fun b => alB g.blocks b.toNat && !decide (b ∈ nodesF g.blocks h))), nodesF g.blocks h, -1⟩ (-1)), .own v 49 5 (out.map fun x => LpRow x (-1)), .blk bx 28 g.row]) (fun k => (befL g.blocks h).length - k) 0 (Nat.zero_le _) ?_ ?_ ?_
        · exact bc_ 0 r_ (bc_ 0 r_ (bc_ 0 r_ sub_end))
        · (repeat (first | exact True.intro | refine ⟨rfl, ?_⟩))
        rintro k hk
        have eLk : ((befL g.blocks h).map Irow).length = (befL g.blocks h).length := List.length_map _
        by_cases hltk : k < (befL g.blocks h).length
        · have hltk2 : (k : Int) < (((befL g.blocks h).map Irow).length : Int) := by omega
          have hfs := filter_snoc (p := fun b => alB g.blocks b.toNat && !decide (b ∈ nodesF g.blocks h)) hltk
          have hfl := List.length_filter_le (fun b : Int => alB g.blocks b.toNat && !decide (b ∈ nodesF g.blocks h)) ((befL g.blocks h).take k)
          rw [List.length_take] at hfl
          have hbd := bef_bnd hltk
          obtain ⟨y, hy⟩ : ∃ y, y = (befL g.blocks h)[k] := ⟨_, rfl⟩
          have hyr : ((befL g.blocks h).map Irow)[k]? = some (Irow y) := by rw [List.getElem?_map, List.getElem?_eq_getElem hltk, hy]; rfl
          rw [← hy] at hfs hbd
          have hyl : y.toNat < g.blocks.length := by omega
          cases hal : alB g.blocks y.toNat with
          | false =>
            have ha := rch_at hyl hal
            rw [hal, Bool.false_and, if_neg (by simp), List.append_nil] at hfs
            refine am_ (R_ (M_ r_ (M_ r_ (M_ r_ (o_ r_ (ow_indexAddrN h r_ r_ r_ hrow r_ b_ (o_ r_ (cb_ r_ r_ (o_ r_ (br_ r_ (fun hlen => o_ r_ (bw_ r_ r_ (T_ (aq_ r_ u_ (as_ (al_ (B_ (R_ (M_ r_ ?_)))))))))))))))))))
            refine M_ r_ (o_ r_ (ow_indexAddrN h r_ r_ r_ hrow r_ b_ (o_ r_ (cb_ r_ r_ (M_ r_ (o_ r_ (ow_indexAddrN k r_ r_ r_ hyr r_ b_ (o_ r_ (cb_ r_ r_ (E_ r_ (T_ (R_ (M_ r_ (M_ r_ (o_ r_ (ow_indexAddrN y.toNat r_ r_ g_ ha r_ b_ (o_ r_ (cb_ r_ r_ (M_ r_ (ai_ r_ r_ b_ (ai_ r_ r_ b_ ?_)))))))))))))))))))))
            refine ai_ r_ r_ b_ (ai_ r_ r_ b_ (ai_ r_ r_ b_ (o_ r_ (bv_ r_ r_ r_ (T_ (ap_ r_ r_ (as_ (ay_ (al_ (an_ (M_ r_ (o_ r_ (bj_ r_ r_ g_ (E_ r_ (ak_ (jq_againS (i := k) (k + 1) hltk g_ ?_ ?_))))))))))))))))
            · rw [hfs]
              exact bc_ 0 r_ (bc_ 0 r_ (bc_ 0 r_ sub_end))
            · rw [hfs]
              (repeat (first | exact True.intro | refine ⟨rfl, ?_⟩))
          | true =>
            have ha := rch_at hyl hal
            cases hin : decide (y ∈ nodesF g.blocks h) with
            | true =>
              have hH := rHasB_c _ _ true hin
              rw [hal, hin, if_neg (by simp), List.append_nil] at hfs
              refine am_ (R_ (M_ r_ (M_ r_ (M_ r_ (o_ r_ (ow_indexAddrN h r_ r_ r_ hrow r_ b_ (o_ r_ (cb_ r_ r_ (o_ r_ (br_ r_ (fun hlen => o_ r_ (bw_ r_ r_ (T_ (aq_ r_ u_ (as_ (al_ (B_ (R_ (M_ r_ ?_)))))))))))))))))))
              refine M_ r_ (o_ r_ (ow_indexAddrN h r_ r_ r_ hrow r_ b_ (o_ r_ (cb_ r_ r_ (M_ r_ (o_ r_ (ow_indexAddrN k r_ r_ r_ hyr r_ b_ (o_ r_ (cb_ r_ r_ (E_ r_ (T_ (R_ (M_ r_ (M_ r_ (o_ r_ (ow_indexAddrN y.toNat r_ r_ g_ ha r_ b_ (o_ r_ (cb_ r_ r_ (M_ r_ (ah_ r_ r_ b_ (bf_ r_ r_ r_ b_ (ah_ r_ r_ b_ (bg_ 0 r_ r_ r_ r_ ?_)))))))))))))))))))))))
              refine ah_ r_ r_ b_ (bd_ r_ (ah_ r_ r_ b_ (bm_ r_ (hH) (ah_ r_ r_ b_ (cd_ r_ (o_ r_ (bp_ r_ r_ r_ (T_ (ap_ r_ r_ (as_ (ay_ (al_ (an_ (M_ r_ (o_ r_ (bj_ r_ r_ g_ (E_ r_ (ak_ (jq_againS (i := k) (k + 1) hltk g_ ?_ ?_)))))))))))))))))))
              · rw [hfs]
                exact bc_ 0 r_ (bc_ 0 r_ (bc_ 0 r_ sub_end))
              · rw [hfs]
                (repeat (first | exact True.intro | refine ⟨rfl, ?_⟩))
            | false =>
              have hH := rHasB_c _ _ false hin
              rw [hal, hin, if_pos (by simp)] at hfs
              have hfs2 : (((befL g.blocks h).take (k + 1)).filter (fun b => alB g.blocks b.toNat && !decide (b ∈ nodesF g.blocks h))).length = (((befL g.blocks h).take k).filter (fun b => alB g.blocks b.toNat && !decide (b ∈ nodesF g.blocks h))).length + 1 := by rw [hfs]; simp
              have hfs3 : lastD (((befL g.blocks h).take (k + 1)).filter (fun b => alB g.blocks b.toNat && !decide (b ∈ nodesF g.blocks h))) = y := by rw [hfs]; exact lastD_snoc _ _
              refine am_ (R_ (M_ r_ (M_ r_ (M_ r_ (o_ r_ (ow_indexAddrN h r_ r_ r_ hrow r_ b_ (o_ r_ (cb_ r_ r_ (o_ r_ (br_ r_ (fun hlen => o_ r_ (bw_ r_ r_ (T_ (aq_ r_ u_ (as_ (al_ (B_ (R_ (M_ r_ ?_)))))))))))))))))))
              refine M_ r_ (o_ r_ (ow_indexAddrN h r_ r_ r_ hrow r_ b_ (o_ r_ (cb_ r_ r_ (M_ r_ (o_ r_ (ow_indexAddrN k r_ r_ r_ hyr r_ b_ (o_ r_ (cb_ r_ r_ (E_ r_ (T_ (R_ (M_ r_ (M_ r_ (o_ r_ (ow_indexAddrN y.toNat r_ r_ g_ ha r_ b_ (o_ r_ (cb_ r_ r_ (M_ r_ (ah_ r_ r_ b_ (bf_ r_ r_ r_ b_ (ah_ r_ r_ b_ (bg_ 0 r_ r_ r_ r_ ?_)))))))))))))))))))))))
              refine ah_ r_ r_ b_ (bd_ r_ (ah_ r_ r_ b_ (bm_ r_ (hH) (ah_ r_ r_ b_ (cd_ r_ (o_ r_ (bp_ r_ r_ r_ (T_ (aq_ r_ r_ (R_ (M_ r_ (F_ r_ (W_ 0 r_ (T_ (an_ (M_ r_ (o_ r_ (bj_ r_ r_ g_ (E_ r_ (ak_ ?_))))))))))))))))))))
              refine ay_ (al_ (an_ (M_ r_ (o_ r_ (bj_ r_ r_ g_ (E_ r_ (ak_ (jq_againS (i := k) (k + 1) hltk g_ ?_ ?_))))))))
              · rw [hfs3]
                exact bc_ 0 r_ (bc_ 0 r_ (bc_ 0 r_ sub_end))
              · rw [hfs2, show ((((((befL g.blocks h).take k).filter (fun b => alB g.blocks b.toNat && !decide (b ∈ nodesF g.blocks h))).length + 1 : Nat)) : Int) = ((((befL g.blocks h).take k).filter (fun b => alB g.blocks b.toNat && !decide (b ∈ nodesF g.blocks h))).length : Int) + 1 by omega]
                (repeat (first | exact True.intro | refine ⟨rfl, ?_⟩))
        · have hltk2 : ¬ (k : Int) < (((befL g.blocks h).map Irow).length : Int) := by omega
          have ho : ((befL g.blocks h).take k).filter (fun b => alB g.blocks b.toNat && !decide (b ∈ nodesF g.blocks h)) = outsF g.blocks h := by rw [List.take_of_length_le (by omega)]; rfl
          rw [ho]
          clear ho
          have hol := outs_len g.blocks h
          refine am_ (R_ (M_ r_ (M_ r_ (M_ r_ (o_ r_ (ow_indexAddrN h r_ r_ r_ hrow r_ b_ (o_ r_ (cb_ r_ r_ (o_ r_ (br_ r_ (fun hlen => o_ r_ (bw_ r_ r_ (T_ (ap_ r_ w_ (av_ (ax_ (ax_ (ba_ (al_ ?_)))))))))))))))))))
          refine am_ (R_ (E_ r_ (T_ (au_ ?_))))
          refine jc_loopS (ι := Nat) [] (fun k => k ≤ (g.heads).length) (fun k => (16, In .i64 (k : Int)) :: [(13, In .i64 ((outsF g.blocks h).length : Int)), (12, Ptr bl), (9, In .i64 (h : Int)), (8, .cell (.val v)), (7, .cell (.list ((befM g.blocks).map Lrow))), (5, .cell (.list ((rchL g.blocks (-1)).map Brow))), (6, .cell (.list ((domM g.blocks).map DRow))), (1, Ptr bx)]) (fun k => [.blk bl 49 (LpRow ⟨h, lastD (outsF g.blocks h), nodesF g.blocks h, mxD (g.heads.take k) (h : Int)⟩ (-1)), .own v 49 5 (out.map fun x => LpRow x (-1)), .blk bx 28 g.row]) (fun k => (g.heads).length - k) 0 (Nat.zero_le _) ?_ ?_ ?_
          · exact bc_ 0 r_ (bc_ 0 r_ (bc_ 0 r_ sub_end))
          · (repeat (first | exact True.intro | refine ⟨rfl, ?_⟩))
          rintro k hk
          have eLk : ((g.heads).map HdRow).length = (g.heads).length := List.length_map _
          by_cases hltk : k < (g.heads).length
          · have hltk2 : (k : Int) < (((g.heads).map HdRow).length : Int) := by omega
            have hms := mxD_snoc (g.heads.take k) g.heads[k] (h : Int)
            rw [← List.take_succ_eq_append_getElem hltk] at hms
            by_cases hb1 : (g.heads[k]).1 = (h : Int)
            · rw [if_pos hb1] at hms
              refine am_ (R_ (M_ r_ (F_ r_ (L_ 2 r_ (o_ r_ (br_ r_ (fun hlen => o_ r_ (bw_ r_ r_ (T_ (aq_ r_ u_ (as_ (al_ (B_ (R_ (F_ r_ (L_ 2 r_ (M_ r_ ?_)))))))))))))))))
              refine o_ r_ (cc_ r_ r_ g_ r_ r_ b_ (o_ r_ (cf_ r_ r_ r_ b_ r_ b_ (o_ r_ (cb_ r_ r_ (M_ r_ (o_ r_ (bn_ r_ r_ (T_ (aq_ r_ u_ (an_ (F_ r_ (L_ 2 r_ (M_ r_ (o_ r_ (cc_ r_ r_ g_ r_ r_ b_ (o_ r_ (cf_ r_ r_ r_ b_ r_ b_ (o_ r_ (cb_ r_ r_ (F_ r_ (W_ 0 r_ ?_))))))))))))))))))))))
              refine ak_ (ay_ (al_ (an_ (M_ r_ (o_ r_ (bj_ r_ r_ g_ (E_ r_ (ak_ (jq_againS (i := k) (k + 1) hltk g_ ?_ ?_)))))))))
              · rw [hms]
                exact bc_ 0 r_ (bc_ 0 r_ (bc_ 0 r_ sub_end))
              · (repeat (first | exact True.intro | refine ⟨rfl, ?_⟩))
            · rw [if_neg hb1] at hms
              refine am_ (R_ (M_ r_ (F_ r_ (L_ 2 r_ (o_ r_ (br_ r_ (fun hlen => o_ r_ (bw_ r_ r_ (T_ (aq_ r_ u_ (as_ (al_ (B_ (R_ (F_ r_ (L_ 2 r_ (M_ r_ ?_)))))))))))))))))
              refine o_ r_ (cc_ r_ r_ g_ r_ r_ b_ (o_ r_ (cf_ r_ r_ r_ b_ r_ b_ (o_ r_ (cb_ r_ r_ (M_ r_ (o_ r_ (bn_ r_ r_ (T_ (ap_ r_ w_ (as_ (ay_ (al_ (an_ (M_ r_ (o_ r_ (bj_ r_ r_ g_ (E_ r_ (ak_ (jq_againS (i := k) (k + 1) hltk g_ ?_ ?_))))))))))))))))))))
              · rw [hms]
                exact bc_ 0 r_ (bc_ 0 r_ (bc_ 0 r_ sub_end))
              · (repeat (first | exact True.intro | refine ⟨rfl, ?_⟩))
          · have hltk2 : ¬ (k : Int) < (((g.heads).map HdRow).length : Int) := by omega
            rw [List.take_of_length_le (show g.heads.length ≤ k by omega)]
            by_cases c1 : (outsF g.blocks h).length = 1
            case neg =>
              have c1' : ((outsF g.blocks h).length : Int) ≠ 1 := by omega
              have hres := loops_bad hck hac (lpsO_bad hL hla (by rw [lpOf_ref hck, if_neg (fun q => c1 q.1)]) hlth)
              refine am_ (R_ (M_ r_ (F_ r_ (L_ 2 r_ (o_ r_ (br_ r_ (fun hlen => o_ r_ (bw_ r_ r_ (T_ (ap_ r_ w_ (av_ (ax_ (ax_ (ba_ (al_ (am_ (R_ ?_)))))))))))))))))
              refine M_ r_ (o_ r_ (bx_ r_ r_ (M_ r_ (ai_ r_ u_ b_ (ai_ r_ u_ b_ (ai_ r_ u_ b_ (o_ r_ (bp_ r_ u_ r_ (T_ (aq_ r_ r_ (R_ (E_ r_ (E_ r_ (T_ (ar_ (aw_ (az_ ?_)))))))))))))))))
              exact aw_ (aw_ (az_ (aw_ (jq_ownNil 49 5 g_ (jq_freeze 2 0 rfl rfl (by rw [hc]; simp [hb]) (jq_ret2S rfl rfl rfl (fun K h => by rw [hres] at h; exact h) sub_end))))))
            have c1' : ¬ ((outsF g.blocks h).length : Int) ≠ 1 := by omega
            by_cases c2 : mxD g.heads (h : Int) < 0
            · have hres := loops_bad hck hac (lpsO_bad hL hla (by rw [lpOf_ref hck, if_neg (fun q => by omega)]) hlth)
              refine am_ (R_ (M_ r_ (F_ r_ (L_ 2 r_ (o_ r_ (br_ r_ (fun hlen => o_ r_ (bw_ r_ r_ (T_ (ap_ r_ w_ (av_ (ax_ (ax_ (ba_ (al_ (am_ (R_ ?_)))))))))))))))))
              refine M_ r_ (o_ r_ (bx_ r_ r_ (M_ r_ (ah_ r_ w_ b_ (bf_ r_ r_ r_ b_ (ah_ r_ w_ b_ (bg_ 0 r_ r_ r_ r_ (ah_ r_ w_ b_ (bw_ r_ r_ (o_ r_ (bv_ r_ w_ r_ (T_ (aq_ r_ u_ (R_ (E_ r_ (E_ r_ (T_ (ar_ (aw_ (az_ ?_))))))))))))))))))))
              exact aw_ (aw_ (az_ (aw_ (jq_ownNil 49 5 g_ (jq_freeze 2 0 rfl rfl (by rw [hc]; simp [hb]) (jq_ret2S rfl rfl rfl (fun K h => by rw [hres] at h; exact h) sub_end))))))
            have hlp := lpOf_ref hck h
            rw [if_pos ⟨c1, by omega⟩] at hlp
            have hL2 := lpsO_more hL hla hlp
            have hSl := hS.len
            have hLl := lpsO_len hL
            refine am_ (R_ (M_ r_ (F_ r_ (L_ 2 r_ (o_ r_ (br_ r_ (fun hlen => o_ r_ (bw_ r_ r_ (T_ (ap_ r_ w_ (av_ (ax_ (ax_ (ba_ (al_ (am_ (R_ ?_)))))))))))))))))
            refine M_ r_ (o_ r_ (bx_ r_ r_ (M_ r_ (ah_ r_ w_ b_ (bf_ r_ r_ r_ b_ (ah_ r_ w_ b_ (bg_ 0 r_ r_ r_ r_ (ah_ r_ w_ b_ (bw_ r_ r_ (o_ r_ (bv_ r_ w_ r_ (T_ (ap_ r_ w_ (as_ (al_ (R_ (M_ r_ (o_ r_ (cw_ 1 r_ r_ (fun hlen => E_ r_ (T_ ?_)))))))))))))))))))))
            refine am_ ?_
            generalize lastD (outsF g.blocks h) = bf at hlp hL2 ⊢
            generalize mxD g.heads (h : Int) = mx at hlp hL2 c2 ⊢
            have enl : ((nodesF g.blocks h).map Irow).length = (nodesF g.blocks h).length := List.length_map _
            refine au_ ?_
            refine jc_loopS (ι := Nat) [] (fun k => k ≤ out.length ∧ ∀ p (hp : p < out.length), k ≤ p → out[p].nodes.length < (nodesF g.blocks h).length) (fun k => [(17, In .i64 (k : Int)), (12, Ptr bl), (9, In .i64 (h : Int)), (8, .cell (.val v)), (7, .cell (.list ((befM g.blocks).map Lrow))), (5, .cell (.list ((rchL g.blocks (-1)).map Brow))), (6, .cell (.list ((domM g.blocks).map DRow))), (1, Ptr bx)]) (fun _ => [.blk bl 49 (LpRow ⟨h, bf, nodesF g.blocks h, mx⟩ (-1)), .own v 49 5 (out.map fun x => LpRow x (-1)), .blk bx 28 g.row]) (fun k => k) out.length ⟨Nat.le_refl _, fun p hp h => by omega⟩ ?_ ?_ ?_
            · exact bc_ 0 r_ (bc_ 0 r_ (bc_ 0 r_ sub_end))
            · rw [show (out.length : Int) = ((out.map (fun x => LpRow x (-1))).length : Int) by rw [List.length_map]]
              (repeat (first | exact True.intro | refine ⟨rfl, ?_⟩))
            rintro k ⟨hk, hK⟩
            by_cases k0 : (k : Int) > 0
            · have hk1 : k - 1 < out.length := by omega
              have hrk : (out.map (fun x => LpRow x (-1)))[k - 1]? = some (LpRow out[k - 1] (-1)) := by rw [List.getElem?_map, List.getElem?_eq_getElem hk1]; rfl
              have enk : ((out[k - 1]).nodes.map Irow).length = (out[k - 1]).nodes.length := List.length_map _
              have eoff : ((k : Int) - 1).toNat * 5 = (k - 1) * 5 := by congr 1; omega
              by_cases k1 : (((out[k - 1]).nodes.map Irow).length : Int) < (((nodesF g.blocks h).map Irow).length : Int)
              · refine am_ (am_ (ao_ r_ r_ k_ k_ (yM_ r_ (aa_ (fun c => bz_ r_ r_ p_) (yM_ r_ (ab_ r_ u_ (fun c => bd_ r_ p_) (ab_ r_ u_ (fun c => bd_ r_ p_) (ab_ r_ u_ (fun c => cg_ r_ r_ g_ p_) (ab_ rfl u_ (fun c => ow_indexOwnE 1 (k - 1) rfl rfl rfl g_ (by simp only [List.length_map] ; omega) rfl p_) (ab_ r_ u_ (fun c => ow_fieldAddrInn r_ r_ r_ b_ p_) (ab_ r_ u_ (fun c => ow_loadInn 1 (k - 1) 2 r_ r_ r_ r_ hrk r_ p_) ?_)))))))))))
                refine ab_ r_ u_ (fun c => br_ r_ (fun hlen => p_)) (ab_ r_ u_ (fun c => bf_ r_ r_ r_ b_ p_) (ab_ r_ u_ (fun c => bg_ 0 r_ r_ r_ r_ p_) (ab_ r_ u_ (fun c => br_ r_ (fun hlen => p_)) (ab_ r_ u_ (fun c => bw_ r_ r_ p_) (aa_ (fun c => bp_ r_ u_ r_ p_) (ae_ (al_ (aq_ r_ u_ (as_ (al_ (au_ (an_ (M_ r_ (o_ r_ (cg_ r_ r_ g_ (E_ r_ ?_))))))))))))))))
                refine ak_ (ay_ ?_)
                refine jq_againS (i := k) (k - 1) ⟨by omega, fun p hp h => by
                  by_cases e : p = k - 1
                  · subst e; omega
                  · exact hK p hp (by omega)⟩ (by omega) ?_ ?_
                · exact bc_ 0 r_ (bc_ 0 r_ (bc_ 0 r_ sub_end))
                · rw [show ((k - 1 : Nat) : Int) = (k : Int) - 1 by omega]
                  (repeat (first | exact True.intro | refine ⟨rfl, ?_⟩))
              · have hput := hS.put (x := ⟨h, bf, nodesF g.blocks h, mx⟩) (by omega) hk hK (.inr ⟨hk1, by dsimp only; omega⟩)
                refine am_ (am_ (ao_ r_ r_ k_ k_ (yM_ r_ (aa_ (fun c => bz_ r_ r_ p_) (yM_ r_ (ab_ r_ u_ (fun c => bd_ r_ p_) (ab_ r_ u_ (fun c => bd_ r_ p_) (ab_ r_ u_ (fun c => cg_ r_ r_ g_ p_) (ab_ rfl u_ (fun c => ow_indexOwnE 1 (k - 1) rfl rfl rfl g_ (by simp only [List.length_map] ; omega) rfl p_) (ab_ r_ u_ (fun c => ow_fieldAddrInn r_ r_ r_ b_ p_) (ab_ r_ u_ (fun c => ow_loadInn 1 (k - 1) 2 r_ r_ r_ r_ hrk r_ p_) ?_)))))))))))
                refine ab_ r_ u_ (fun c => br_ r_ (fun hlen => p_)) (ab_ r_ u_ (fun c => bf_ r_ r_ r_ b_ p_) (ab_ r_ u_ (fun c => bg_ 0 r_ r_ r_ r_ p_) (ab_ r_ u_ (fun c => br_ r_ (fun hlen => p_)) (ab_ r_ u_ (fun c => bw_ r_ r_ p_) (aa_ (fun c => bp_ r_ u_ r_ p_) (ae_ (al_ (ap_ r_ w_ (av_ (ax_ (ax_ (ba_ (al_ (jc_hpM 10 (n := 11) rfl 0 k_ rfl (fun cs1 hcs1 hv1 => ?_)))))))))))))))
                obtain ⟨u10, u11, u12, u13, u14, rfl⟩ := len5 hcs1
                obtain rfl := Option.some.inj (hv1 0 _ rfl)
                obtain rfl := Option.some.inj (hv1 1 _ rfl)
                obtain rfl := Option.some.inj (hv1 3 _ rfl)
                obtain rfl := Option.some.inj (hv1 4 _ rfl)
                refine hp_know 0 rfl mem0 ?_
                dsimp only [List.zipWith, know]
                refine hp_pani (by (repeat (first | refine pani_then ?_ | refine pani_block ?_)); exact pani_body) (fun hPan => ?_)
                refine df_ (i := 0) r_ k_ k_ k_ b_ hPan (dk_ r_) (df_ (i := 1) r_ k_ k_ k_ b_ hPan (dk_ r_) (df_ (i := 2) rfl k_ k_ k_ b_ hPan (hok_trim 1 rfl rfl rfl g_ (by simp only [List.length_map] ; omega)) (df_ (i := 3) r_ k_ k_ k_ b_ hPan (hok_loadAllK 0 r_ r_ r_ mem0 r_) (df_ (i := 5) r_ k_ k_ k_ b_ hPan (dk_ r_) (df_ (i := 6) r_ k_ k_ k_ b_ hPan (dk_ r_) ?_)))))
                refine df_ (i := 7) rfl k_ k_ k_ b_ hPan (hok_sufOwn 1 rfl rfl rfl g_ (by simp only [List.length_map] ; omega) rfl) (dg_ (i := 4) rfl k_ b_ (ow_buildSliceOwn (rows := [LpRow ⟨h, bf, nodesF g.blocks h, mx⟩ (-1)]) rfl rfl b_ rfl rfl b_ (fun q0 hq0 fq0 => ⟨?_, ?_⟩)))
                exact keepK 1 rfl rfl
                refine dg_ (i := 8) rfl k_ b_ (ow_appendSuf 0 2 rfl rfl rfl rfl (by simp only [List.length_map] ; omega) rfl rfl rfl rfl (lp_rows _) (by simp only [List.length_map, List.length_singleton] ; show (_ + _) * 56 ≤ _ ; omega) (by simp only [List.length_map, List.length_singleton] ; omega) (fun q1 hq1 => ⟨?_, ?_⟩))
                exact keepK 1 rfl rfl
                refine dg_ (i := 9) rfl k_ b_ (ow_appendTrim 2 0 rfl rfl rfl rfl (by simp only [List.length_map] ; omega) rfl rfl rfl rfl (lp_rows2 _ _ _) (by simp only [List.length_map, List.length_append, List.length_drop, List.length_singleton] ; show (_ + _) * 56 ≤ _ ; omega) (by simp only [List.length_map, List.length_append, List.length_drop, List.length_singleton] ; omega) (fun v1 hv1 => ⟨?_, ?_⟩))
                exact keepK 2 rfl rfl
                refine df_ (i := 10) r_ k_ k_ k_ b_ hPan (hok_assign r_) (hp_done k_ ?_)
                clear hPan
                refine jq_unk _ 2 rfl rfl ?_
                dsimp only [List.map, unk]
                refine ay_ (al_ (an_ (M_ r_ (o_ r_ (bj_ r_ r_ g_ (E_ r_ (ak_ (jq_againS (i := (h, v, l, out)) (h + 1, v1, l ++ [⟨h, bf, nodesF g.blocks h, mx⟩], out.take k ++ [⟨h, bf, nodesF g.blocks h, mx⟩] ++ out.drop k) ⟨hlth, hL2, hput⟩ (by dsimp only; omega) ?_ ?_))))))))
                · dsimp only
                  rw [← put_rows]
                  exact bc_ 1 r_ (bc_ 2 r_ sub_end)
                · (repeat (first | exact True.intro | refine ⟨rfl, ?_⟩))
            · have hput := hS.put (x := ⟨h, bf, nodesF g.blocks h, mx⟩) (by omega) hk hK (.inl (by omega))
              refine am_ (am_ (ao_ r_ r_ k_ k_ (yM_ r_ (aa_ (fun c => bz_ r_ r_ p_) (yM_ r_ (ac_ r_ w_ (ac_ r_ w_ (ac_ r_ w_ (ac_ r_ w_ (ac_ r_ w_ (ac_ r_ w_ (ac_ r_ w_ (ac_ r_ w_ (ac_ r_ w_ (ac_ r_ w_ ?_)))))))))))))))
              refine ac_ r_ w_ (aa_ (fun c => bv_ r_ w_ r_ p_) (ae_ (al_ (ap_ r_ r_ (av_ (ax_ (ax_ (ba_ (al_ (jc_hpM 10 (n := 11) rfl 0 k_ rfl (fun cs1 hcs1 hv1 => ?_)))))))))))
              obtain ⟨u10, u11, u12, u13, u14, rfl⟩ := len5 hcs1
              obtain rfl := Option.some.inj (hv1 0 _ rfl)
              obtain rfl := Option.some.inj (hv1 1 _ rfl)
              obtain rfl := Option.some.inj (hv1 3 _ rfl)
              obtain rfl := Option.some.inj (hv1 4 _ rfl)
              refine hp_know 0 rfl mem0 ?_
              dsimp only [List.zipWith, know]
              refine hp_pani (by (repeat (first | refine pani_then ?_ | refine pani_block ?_)); exact pani_body) (fun hPan => ?_)
              refine df_ (i := 0) r_ k_ k_ k_ b_ hPan (dk_ r_) (df_ (i := 1) r_ k_ k_ k_ b_ hPan (dk_ r_) (df_ (i := 2) rfl k_ k_ k_ b_ hPan (hok_trim 1 rfl rfl rfl g_ (by simp only [List.length_map] ; omega)) (df_ (i := 3) r_ k_ k_ k_ b_ hPan (hok_loadAllK 0 r_ r_ r_ mem0 r_) (df_ (i := 5) r_ k_ k_ k_ b_ hPan (dk_ r_) (df_ (i := 6) r_ k_ k_ k_ b_ hPan (dk_ r_) ?_)))))
              refine df_ (i := 7) rfl k_ k_ k_ b_ hPan (hok_sufOwn 1 rfl rfl rfl g_ (by simp only [List.length_map] ; omega) rfl) (dg_ (i := 4) rfl k_ b_ (ow_buildSliceOwn (rows := [LpRow ⟨h, bf, nodesF g.blocks h, mx⟩ (-1)]) rfl rfl b_ rfl rfl b_ (fun q0 hq0 fq0 => ⟨?_, ?_⟩)))
              exact keepK 1 rfl rfl
              refine dg_ (i := 8) rfl k_ b_ (ow_appendSuf 0 2 rfl rfl rfl rfl (by simp only [List.length_map] ; omega) rfl rfl rfl rfl (lp_rows _) (by simp only [List.length_map, List.length_singleton] ; show (_ + _) * 56 ≤ _ ; omega) (by simp only [List.length_map, List.length_singleton] ; omega) (fun q1 hq1 => ⟨?_, ?_⟩))
              exact keepK 1 rfl rfl
              refine dg_ (i := 9) rfl k_ b_ (ow_appendTrim 2 0 rfl rfl rfl rfl (by simp only [List.length_map] ; omega) rfl rfl rfl rfl (lp_rows2 _ _ _) (by simp only [List.length_map, List.length_append, List.length_drop, List.length_singleton] ; show (_ + _) * 56 ≤ _ ; omega) (by simp only [List.length_map, List.length_append, List.length_drop, List.length_singleton] ; omega) (fun v1 hv1 => ⟨?_, ?_⟩))
              exact keepK 2 rfl rfl
              refine df_ (i := 10) r_ k_ k_ k_ b_ hPan (hok_assign r_) (hp_done k_ ?_)
              clear hPan
              refine jq_unk _ 2 rfl rfl ?_
              dsimp only [List.map, unk]
              refine ay_ (al_ (an_ (M_ r_ (o_ r_ (bj_ r_ r_ g_ (E_ r_ (ak_ (jq_againS (i := (h, v, l, out)) (h + 1, v1, l ++ [⟨h, bf, nodesF g.blocks h, mx⟩], out.take k ++ [⟨h, bf, nodesF g.blocks h, mx⟩] ++ out.drop k) ⟨hlth, hL2, hput⟩ (by dsimp only; omega) ?_ ?_))))))))
              · dsimp only
                rw [← put_rows]
                exact bc_ 1 r_ (bc_ 2 r_ sub_end)
              · (repeat (first | exact True.intro | refine ⟨rfl, ?_⟩))
    · have hlth2 : ¬ (h : Int) < (((g.blocks).map Bk.row).length : Int) := by omega
      have ehn : h = g.blocks.length := by omega
      rw [ehn] at hL
      have hLl := lpsO_len hL
      obtain rfl := hS.unique
      have hsl := srt_len l
      have hfin := loops_ok hck hac hL
      refine am_ (R_ (M_ r_ (F_ r_ (L_ 1 r_ (o_ r_ (br_ r_ (fun hlen => o_ r_ (bw_ r_ r_ (T_ (ap_ r_ w_ (av_ (ax_ (ax_ (ba_ (al_ (am_ (R_ ?_)))))))))))))))))
      refine E_ r_ (T_ (au_ ?_))
      rw [show ((srtF l).map (fun x => LpRow x (-1))) = (arS (-1) (srtF l) 0).map AlRow by rw [arS_zero, List.map_map]; rfl]
      have ea0 := arS_len (-1) (srtF l) 0
      refine jc_loopS (ι := Nat) [] (fun i => i ≤ (srtF l).length) (fun i => [(18, In .i64 (i : Int)), (8, .cell (.val v)), (1, Ptr bx)]) (fun i => [.own v 49 5 ((arS (-1) (srtF l) i).map AlRow), .blk bx 28 g.row]) (fun i => (srtF l).length - i) 0 (Nat.zero_le _) ?_ ?_ ?_
      · exact bc_ 0 r_ (bc_ 0 r_ sub_end)
      · (repeat (first | exact True.intro | refine ⟨rfl, ?_⟩))
      intro i hi
      have eai := arS_len (-1) (srtF l) i
      have eal : ((arS (-1) (srtF l) i).map AlRow).length = (srtF l).length := by rw [List.length_map, eai]
      by_cases hlti : i < (srtF l).length
      · have hlti2 : (i : Int) < (((arS (-1) (srtF l) i).map AlRow).length : Int) := by omega
        have e0 : arS (-1) (srtF l) i = (arS (-1) (srtF l) i).set i ((srtF l)[i], arK (srtF l) (srtF l)[i].hdr 0) := by
          refine (set_same ?_).symm
          rw [List.getElem?_eq_getElem (by omega), arS_get, if_neg (by omega)]
          rfl
        refine am_ (R_ (M_ r_ (M_ r_ (o_ r_ (cw_ 0 r_ r_ (fun hlen => o_ r_ (bw_ r_ r_ (T_ (aq_ r_ u_ (as_ (al_ (B_ (R_ (E_ r_ (T_ (au_ ?_))))))))))))))))
        refine jc_loopS (ι := Nat) [] (fun k => k ≤ i) (fun k => [(19, In .i64 (k : Int)), (18, In .i64 (i : Int)), (8, .cell (.val v)), (1, Ptr bx)]) (fun k => [.own v 49 5 (((arS (-1) (srtF l) i).set i ((srtF l)[i], arK (srtF l) (srtF l)[i].hdr k)).map AlRow), .blk bx 28 g.row]) (fun k => i - k) 0 (Nat.zero_le _) ?_ ?_ ?_
        · rw [← e0]
          exact bc_ 0 r_ (bc_ 0 r_ sub_end)
        · (repeat (first | exact True.intro | refine ⟨rfl, ?_⟩))
        intro k hk
        have es2 : ((arS (-1) (srtF l) i).set i ((srtF l)[i], arK (srtF l) (srtF l)[i].hdr k)).length = (srtF l).length := by rw [List.length_set, arS_len]
        by_cases hlk : k < i
        · have hlk2 : (k : Int) < (i : Int) := by omega
          have hkl : k < (srtF l).length := by omega
          have hrk : (((arS (-1) (srtF l) i).set i ((srtF l)[i], arK (srtF l) (srtF l)[i].hdr k)).map AlRow)[k]? = some (AlRow ((srtF l)[k], arK (srtF l) (srtF l)[k].hdr k)) := by rw [List.getElem?_map, List.getElem?_set_ne (by omega), List.getElem?_eq_getElem (by omega), arS_get, if_pos hlk]; rfl
          have hri2 : (((arS (-1) (srtF l) i).set i ((srtF l)[i], arK (srtF l) (srtF l)[i].hdr k)).map AlRow)[i]? = some (AlRow ((srtF l)[i], arK (srtF l) (srtF l)[i].hdr k)) := by rw [List.getElem?_map, List.getElem?_set_self (by omega)]; rfl
          have hak : arK (srtF l) (srtF l)[i].hdr (k + 1) = if decide ((srtF l)[i].hdr ∈ (srtF l)[k].nodes) then (k : Int) else arK (srtF l) (srtF l)[i].hdr k := by rw [arK, List.getElem?_eq_getElem hkl]; rfl
          cases hin : decide ((srtF l)[i].hdr ∈ (srtF l)[k].nodes) with
          | true =>
            have hC := rHasB_c _ _ true hin
            rw [hin, if_pos rfl] at hak
            have ew2 : (((arS (-1) (srtF l) i).set i ((srtF l)[i], arK (srtF l) (srtF l)[i].hdr k)).map AlRow).set i (AlRow ((srtF l)[i], (k : Int))) = ((arS (-1) (srtF l) i).set i ((srtF l)[i], arK (srtF l) (srtF l)[i].hdr (k + 1))).map AlRow := by rw [hak, ← List.map_set, List.set_set]
            refine am_ (R_ (M_ r_ (M_ r_ (o_ r_ (bw_ r_ r_ (T_ (aq_ r_ u_ (as_ (al_ (B_ (am_ (ao_ r_ r_ k_ k_ (yM_ r_ (yM_ r_ (aa_ (fun c => dc_ (k := 5) 0 rfl rfl rfl g_ (by simp only [List.length_map] ; omega) rfl p_) (aa_ (fun c => ow_fieldAddrInn r_ r_ r_ b_ p_) ?_))))))))))))))))
            refine aa_ (fun c => ow_loadInn 0 k 2 r_ r_ r_ r_ hrk r_ p_) (yM_ r_ (yM_ r_ (aa_ (fun c => dc_ (k := 5) 0 rfl rfl rfl g_ (by simp only [List.length_map] ; omega) rfl p_) (aa_ (fun c => ow_fieldAddrInn r_ r_ r_ b_ p_) (aa_ (fun c => ow_loadInn 0 i 0 r_ r_ r_ r_ hri2 r_ p_) (aa_ (fun c => bm_ r_ (hC) p_) (ae_ (al_ (aq_ r_ r_ (an_ (M_ r_ (M_ r_ (M_ r_ ?_)))))))))))))
            refine o_ r_ (dc_ (k := 5) 0 rfl rfl rfl g_ (by simp only [List.length_map] ; omega) rfl (o_ r_ (ow_fieldAddrInn r_ r_ r_ b_ (ag_ (ow_storeInn (row' := AlRow ((srtF l)[i], (k : Int))) 0 i 3 r_ r_ r_ r_ r_ hri2 r_ (Nat.le_of_ble_eq_true r_) r_ (ak_ (ay_ (al_ (an_ (M_ r_ (o_ r_ (bj_ r_ r_ g_ (E_ r_ (ak_ (jq_againS (i := k) (k + 1) hlk g_ ?_ ?_)))))))))))))))
            · rw [← ew2]
              exact bc_ 0 r_ (bc_ 0 r_ sub_end)
            · (repeat (first | exact True.intro | refine ⟨rfl, ?_⟩))
          | false =>
            have hC := rHasB_c _ _ false hin
            rw [hin, if_neg (by simp)] at hak
            refine am_ (R_ (M_ r_ (M_ r_ (o_ r_ (bw_ r_ r_ (T_ (aq_ r_ u_ (as_ (al_ (B_ (am_ (ao_ r_ r_ k_ k_ (yM_ r_ (yM_ r_ (aa_ (fun c => dc_ (k := 5) 0 rfl rfl rfl g_ (by simp only [List.length_map] ; omega) rfl p_) (aa_ (fun c => ow_fieldAddrInn r_ r_ r_ b_ p_) ?_))))))))))))))))
            refine aa_ (fun c => ow_loadInn 0 k 2 r_ r_ r_ r_ hrk r_ p_) (yM_ r_ (yM_ r_ (aa_ (fun c => dc_ (k := 5) 0 rfl rfl rfl g_ (by simp only [List.length_map] ; omega) rfl p_) (aa_ (fun c => ow_fieldAddrInn r_ r_ r_ b_ p_) (aa_ (fun c => ow_loadInn 0 i 0 r_ r_ r_ r_ hri2 r_ p_) (aa_ (fun c => bm_ r_ (hC) p_) (ae_ (al_ (ap_ r_ r_ (as_ (ay_ (al_ (an_ (M_ r_ (o_ r_ (bj_ r_ r_ g_ ?_))))))))))))))))
            refine E_ r_ (ak_ (jq_againS (i := k) (k + 1) hlk g_ ?_ ?_))
            · rw [hak]
              exact bc_ 0 r_ (bc_ 0 r_ sub_end)
            · (repeat (first | exact True.intro | refine ⟨rfl, ?_⟩))
        · have hlk2 : ¬ (k : Int) < (i : Int) := by omega
          have eki : k = i := by omega
          have est := arS_step (a := -1) hlti
          rw [eki, est]
          refine am_ (R_ (M_ r_ (M_ r_ (o_ r_ (bw_ r_ r_ (T_ (ap_ r_ v_ (av_ (ax_ (ax_ (ba_ (ay_ (al_ (an_ (M_ r_ (o_ r_ (bj_ r_ r_ g_ ?_)))))))))))))))))
          refine E_ r_ (ak_ (jq_againS (i := i) (i + 1) hlti g_ ?_ ?_))
          · exact bc_ 0 r_ (bc_ 0 r_ sub_end)
          · (repeat (first | exact True.intro | refine ⟨rfl, ?_⟩))
      · have hlti2 : ¬ (i : Int) < (((arS (-1) (srtF l) i).map AlRow).length : Int) := by omega
        have ein : i = (srtF l).length := by omega
        have hfa : arS (-1) (srtF l) i = arS (-1) (srtF l) l.length := by rw [ein, hsl]
        rw [hfa] at eal hlti2 ⊢
        refine am_ (R_ (M_ r_ (M_ r_ (o_ r_ (cw_ 0 r_ r_ (fun hlen => o_ r_ (bw_ r_ r_ (T_ (ap_ r_ w_ (av_ (ax_ (ax_ (ba_ (al_ (R_ (M_ r_ (E_ r_ ?_)))))))))))))))))
        exact E_ r_ (T_ (ar_ (jq_freeze 2 0 rfl rfl (by rw [hc]; simp [hb]) (jq_ret2S rfl rfl rfl (fun K h => by rw [hfin] at h; exact h) sub_end))))
end Go.Proofs.Ytpolnonbgaolkaa
end

section
namespace Go.Proofs.Ytpolnonbgaolkaa
open Go.Vc
attribute [local irreducible] JL JC JQ OpWp Con ConN HOk
set_option maxHeartbeats 4000000

abbrev bkV (b : Bk) (v : Value) : List C := [.list (b.ops.map Opx.row), .val (.int .i64 b.cond), .val v]
def bkVs (B : List Bk) (vs : List Value) : List (List C) := List.zipWith bkV B vs
theorem bkVs_len {B : List Bk} {vs : List Value} (h : vs.length = B.length) : (bkVs B vs).length = B.length := by simp [bkVs, h]
theorem bkVs_get {B : List Bk} {vs : List Value} {i : Nat} (h1 : i < B.length) (h2 : i < vs.length) : (bkVs B vs)[i]? = some (bkV B[i] vs[i]) := by
  unfold bkVs
  rw [List.getElem?_zipWith, List.getElem?_eq_getElem h1, List.getElem?_eq_getElem h2]
theorem bkVs_push {B : List Bk} {vs : List Value} (h : vs.length = B.length) (b : Bk) (v : Value) : bkVs B vs ++ [bkV b v] = bkVs (B ++ [b]) (vs ++ [v]) := by
  unfold bkVs
  rw [List.zipWith_append h.symm]
  rfl
/-- The successors are not in the rows. -/
theorem bkVs_next : ∀ (B : List Bk) (vs : List Value) (i : Nat) (b : Bk) (l : List Int), B[i]? = some b → bkVs (B.set i ⟨b.ops, b.cond, l⟩) vs = bkVs B vs
  | [], _, _, _, _, h => by simp at h
  | a :: B, [], i, b, l, h => by cases i <;> simp [bkVs]
  | a :: B, v :: vs, 0, b, l, h => by
    simp only [List.getElem?_cons_zero, Option.some.injEq] at h
    subst h
    rfl
  | a :: B, v :: vs, i + 1, b, l, h => by
    have := bkVs_next B vs i b l (by simpa using h)
    simp only [bkVs, List.set_cons_succ, List.zipWith_cons_cons] at this ⊢
    rw [this]
abbrev nxs (B : List Bk) : List (List Int) := B.map fun b => b.next
theorem nxs_len (B : List Bk) : (nxs B).length = B.length := List.length_map _
theorem nxs_push (B : List Bk) (b : Bk) : nxs (B ++ [b]) = nxs B ++ [b.next] := by simp
theorem bkVs_holds {e : TypeId} {B : List Bk} {vs : List Value} (h : vs.length = B.length) : Holds1 2 (bkVs B vs) (famI e vs (nxs B)) := by
  refine ⟨by rw [bkVs_len h, famI_len (by rw [h, nxs_len]), nxs_len], fun i h1 h2 => ?_⟩
  rw [bkVs_len h] at h1
  have hv : i < vs.length := by omega
  have hn : i < (nxs B).length := by rw [nxs_len]; exact h1
  have h3 := bkVs_get h1 hv
  have h4 := famI_get (e := e) hv hn
  rw [List.getElem?_eq_getElem h2, Option.some.injEq] at h4
  rw [List.getElem?_eq_getElem (by rw [bkVs_len h]; exact h1), Option.some.injEq] at h3
  rw [h3, h4]
  rfl
theorem bkVs_frz {e : TypeId} : ∀ {B : List Bk} {vs : List Value}, vs.length = B.length → frz 2 (bkVs B vs) (famI e vs (nxs B)) = B.map Bk.row
  | [], [], _ => rfl
  | [], _ :: _, h => by simp at h
  | _ :: _, [], h => by simp at h
  | b :: B, v :: vs, h => by
    have := bkVs_frz (e := e) (B := B) (vs := vs) (by simpa using h)
    simp only [frz, bkVs, famI, List.map_cons, List.zipWith_cons_cons] at this ⊢
    rw [this]
    rfl
theorem famI_push {e : TypeId} {vs : List Value} {Ls : List (List Int)} (h : vs.length = Ls.length) (v : Value) (L : List Int) : famI e vs Ls ++ [(v, e, 1, L.map irow)] = famI e (vs ++ [v]) (Ls ++ [L]) := by
  unfold famI
  rw [List.zipWith_append h]
  rfl
/-- One more in the family. -/
theorem famI_more {H : List Ch} {j j2 : Nat} {e : TypeId} {v : Value} {L : List Int} {vs : List Value} {Ls Ls' : List (List Int)} {Hr : List Ch} (h : vs.length = Ls.length) (hp : pick [j, j2] H = some ([.own v e 1 (L.map irow), .fam (famI e vs Ls)], Hr)) (hL : Ls' = Ls ++ [L]) : (flatF H).Perm (flatF (.fam (famI e (vs ++ [v]) Ls') :: Hr)) := by
  subst hL
  rw [← famI_push h]
  exact fam_push hp
/-- A graph whose blocks, points and heads are one's own. -/
abbrev GhV (g : Gh) (vB vP vH : Value) : List C := [.list (g.inputs.map InRow), .val (.int .i64 g.vars), .val (.int .i64 g.keep), .list (g.arrays.map ArRow), .val (.int .i64 g.shared), .val vB, .val vP, .val vH]
/-- .. none of them yet; .. the heads; .. the blocks beside -/
abbrev GhZ : List C := [.val (.slice none 0 0), .val (.int .i64 0), .val (.int .i64 0), .val (.slice none 0 0), .val (.int .i64 0), .val (.slice none 0 0), .val (.slice none 0 0), .val (.slice none 0 0)]
abbrev GhL (g : Gh) (vH : Value) : List C := [.list (g.inputs.map InRow), .val (.int .i64 g.vars), .val (.int .i64 g.keep), .list (g.arrays.map ArRow), .val (.int .i64 g.shared), .list (g.blocks.map Bk.row), .list (g.points.map NRow), .val vH]
abbrev GhM (g : Gh) (vB vH : Value) : List C := [.list (g.inputs.map InRow), .val (.int .i64 g.vars), .val (.int .i64 g.keep), .list (g.arrays.map ArRow), .val (.int .i64 g.shared), .val vB, .list (g.points.map NRow), .val vH]
structure CpI where
  vB : Value
  vP : Value
  vH : Value
  ns : List Value
  ps : List Value
abbrev CpH (i : CpI) (B : List Bk) (P : List (List Int)) (H : List Hd) : List Ch := [.own i.vB 35 3 (bkVs B i.ns), .fam (famI 3 i.ns (nxs B)), .own i.vP 33 1 (i.ps.map vrow), .fam (famI 3 i.ps P), .own i.vH 42 2 (H.map HdRow)]
abbrev CpK (g : Gh) (K : S → List Ch → Prop) : Prop := ∀ i : CpI, i.ns.length = g.blocks.length ∧ i.ps.length = g.points.length → K (.row (GhV g i.vB i.vP i.vH)) (CpH i g.blocks g.points g.heads)
theorem szG_parts {g : Gh} (hw : GhW g) : g.inputs.length ≤ 1500 ∧ g.arrays.length ≤ 1500 ∧ g.heads.length ≤ 1500 ∧ g.points.length ≤ 1500 := by
  have h1 := hw.size
  unfold szG at h1
  have h2 := szP_len g.points
  omega
theorem rows1 {row : List C} {k : Nat} (h : row.length = k) : ∀ r ∈ [row], r.length = k := fun r hr => by rw [List.mem_singleton.1 hr]; exact h
theorem rCopy_c (g : Gh) (hw : GhW g) : Con Try.prog 25 [.row g.row] [] (CpK g) := by
  have eB : (g.blocks.map Bk.row).length = g.blocks.length := List.length_map _
  have eI : (g.inputs.map InRow).length = g.inputs.length := List.length_map _
  have eA : (g.arrays.map ArRow).length = g.arrays.length := List.length_map _
  have eH : (g.heads.map HdRow).length = g.heads.length := List.length_map _
  have eP : (g.points.map NRow).length = g.points.length := List.length_map _
  have hsz := hw.ops
  have hpt := szG_parts hw
  have hszG := hw.size
  have hszB : szB g.blocks ≤ 1500 := by unfold szG at hszG; omega
  have hszP : szP g.points ≤ 1500 := by unfold szG at hszG; omega
  refine con_intro Try.func25 rfl rfl (Nat.le_of_ble_eq_true rfl) (fun c hc => R_ (o_ r_ (ci_ r_ (fun bx => o_ r_ (bl_ rfl rfl (fun br => T_ (R_ (o_ r_ (ow_buildSliceOwn (rows := []) rfl rfl b_ rfl rfl b_ (fun q0 hq0 fq0 => F_ r_ (L_ 2 r_ ?_)))))))))))
  refine o_ r_ (ow_append 0 rfl rfl rfl rfl rfl rfl rfl (rows_len (fun _ => rfl)) (by simp only [List.length_nil, List.length_map] ; show (0 + _) * 32 ≤ _ ; omega) (by simp only [List.length_nil, List.length_map] ; omega) (fun q1 hq1 => F_ r_ (jl_freeze 11 0 rfl rfl (by rw [hc]; simp [hb]) (W_ 1 r_ (T_ (R_ (o_ r_ (ow_buildSliceOwn (rows := []) rfl rfl b_ rfl rfl b_ (fun q0 hq0 fq0 => F_ r_ (L_ 1 r_ ?_))))))))))
  refine o_ r_ (ow_append 0 rfl rfl rfl rfl rfl rfl rfl (rows_len (fun _ => rfl)) (by simp only [List.length_nil, List.length_map] ; show (0 + _) * 24 ≤ _ ; omega) (by simp only [List.length_nil, List.length_map] ; omega) (fun q2 hq2 => F_ r_ (jl_freeze 16 0 rfl rfl (by rw [hc]; simp [hb]) (W_ 0 r_ (T_ (R_ (o_ r_ (ow_buildSliceOwn (rows := []) rfl rfl b_ rfl rfl b_ (fun q0 hq0 fq0 => F_ r_ (L_ 1 r_ ?_))))))))))
  refine o_ r_ (ow_append 0 rfl rfl rfl rfl rfl rfl rfl (rows_len (fun _ => rfl)) (by simp only [List.length_nil, List.length_map] ; show (0 + _) * 16 ≤ _ ; omega) (by simp only [List.length_nil, List.length_map] ; omega) (fun vH hvH => F_ r_ (W_ 1 r_ (T_ (R_ (E_ r_ (T_ (am_ (R_ (E_ r_ (T_ (au_ (jc_ownNil 35 3 g_ (jc_famNil 3 1 0 (Nat.succ_pos _) ?_))))))))))))))
  refine jc_loopS (ι := Nat × Value × List Value) [] (fun i => i.1 ≤ (g.blocks).length ∧ i.2.2.length = i.1) (fun i => (4, In .i64 (i.1 : Int)) :: [(3, .cell (.val i.2.1)), (1, Ptr bx), (2, Ptr br)]) (fun i => [.own i.2.1 35 3 (bkVs (g.blocks.take i.1) i.2.2), .fam (famI 3 i.2.2 (nxs (g.blocks.take i.1))), .own vH 42 2 (g.heads.map HdRow), .blk bx 28 (GhL g vH), .blk br 28 GhZ]) (fun i => (g.blocks).length - i.1) (0, .slice none 0 0, []) ⟨Nat.zero_le _, rfl⟩ ?_ ?_ ?_
  · exact bc_ 1 r_ (bc_ 0 r_ (bc_ 1 r_ (bc_ 0 r_ (bc_ 0 r_ sub_end))))
  · (repeat (first | exact True.intro | refine ⟨rfl, ?_⟩))
  rintro ⟨k, v, ns⟩ hz
  dsimp only at hz ⊢
  obtain ⟨hk, hns⟩ := hz
  have eLk : ((g.blocks).map Bk.row).length = (g.blocks).length := List.length_map _
  by_cases hltk : k < (g.blocks).length
  · have hltk2 : (k : Int) < (((g.blocks).map Bk.row).length : Int) := by omega
    have htk : (g.blocks.take k).length = k := by rw [List.length_take]; omega
    have ebv : (bkVs (g.blocks.take k) ns).length = k := by rw [bkVs_len (by omega)]; exact htk
    have hbm := szB_mem (List.getElem_mem hltk)
    have eO : ((g.blocks[k]).ops.map Opx.row).length = (g.blocks[k]).ops.length := List.length_map _
    have eN : ((g.blocks[k]).next.map Irow).length = (g.blocks[k]).next.length := List.length_map _
    refine am_ (R_ (M_ r_ (F_ r_ (L_ 3 r_ (o_ r_ (br_ r_ (fun hlen => o_ r_ (bw_ r_ r_ (T_ (aq_ r_ u_ (as_ (al_ (B_ (R_ (F_ r_ (L_ 3 r_ (M_ r_ ?_)))))))))))))))))
    refine o_ r_ (cc_ r_ r_ g_ r_ r_ b_ (o_ r_ (cr_ r_ r_ r_ (o_ r_ (bl_ rfl rfl (fun b5 => S_ 0 r_ (T_ (R_ (o_ r_ (ow_buildSliceOwn (rows := []) rfl rfl b_ rfl rfl b_ (fun q0 hq0 fq0 => F_ r_ (L_ 1 r_ ?_))))))))))))
    refine o_ r_ (ow_append 0 rfl rfl rfl rfl rfl rfl rfl (rows_len (fun _ => rfl)) (by simp only [List.length_nil, List.length_map] ; show (0 + _) * 40 ≤ _ ; omega) (by simp only [List.length_nil, List.length_map] ; omega) (fun q3 hq3 => F_ r_ (jl_freeze 38 0 rfl rfl (by rw [hc]; simp [hb]) (W_ 0 r_ (T_ (R_ (o_ r_ (ow_buildSliceOwn (rows := []) rfl rfl b_ rfl rfl b_ (fun q0 hq0 fq0 => F_ r_ (L_ 1 r_ ?_))))))))))
    refine o_ r_ (ow_append 0 rfl rfl rfl rfl rfl rfl rfl (rows_len (fun _ => rfl)) (by simp only [List.length_nil, List.length_map] ; show (0 + _) * 8 ≤ _ ; omega) (by simp only [List.length_nil, List.length_map] ; omega) (fun n1 hn1 => F_ r_ (W_ 1 r_ (T_ (an_ (M_ r_ (A_ 0 r_ (o_ r_ (bq_ r_ r_ b_ r_ r_ b_ ?_)))))))))
    refine o_ r_ (ow_append 2 rfl rfl rfl rfl rfl rfl rfl (rows1 rfl) (by rw [ebv] ; show (_ + 1) * 56 ≤ _ ; omega) (by rw [ebv] ; show _ + 1 ≤ _ ; omega) (fun v1 hv1 => E_ r_ (ak_ (ay_ (al_ (an_ (M_ r_ (o_ r_ (bj_ r_ r_ g_ (E_ r_ (ak_ ?_)))))))))))
    have hpu := bkVs_push (B := g.blocks.take k) (vs := ns) (by omega) g.blocks[k] n1
    rw [← List.take_succ_eq_append_getElem hltk] at hpu
    have hnp : nxs (g.blocks.take (k + 1)) = nxs (g.blocks.take k) ++ [(g.blocks[k]).next] := by rw [List.take_succ_eq_append_getElem hltk]; exact nxs_push _ _
    refine jq_regroup _ (famI_more (j := 2) (j2 := 2) (L := (g.blocks[k]).next) (by rw [nxs_len]; omega) rfl hnp) (jq_againS (i := (k, v, ns)) (k + 1, v1, ns ++ [n1]) ⟨hltk, by dsimp only; rw [List.length_append, hns]; rfl⟩ (by dsimp only; omega) ?_ ?_)
    · dsimp only
      rw [← hpu]
      exact bc_ 1 r_ (bc_ 0 r_ (bc_ 1 r_ (bc_ 1 r_ (bc_ 1 r_ sub_end))))
    · (repeat (first | exact True.intro | refine ⟨rfl, ?_⟩))
  · have hltk2 : ¬ (k : Int) < (((g.blocks).map Bk.row).length : Int) := by omega
    have ekb : g.blocks.take k = g.blocks := List.take_of_length_le (by omega)
    rw [ekb]
    have hnl : ns.length = g.blocks.length := by omega
    refine am_ (R_ (M_ r_ (F_ r_ (L_ 3 r_ (o_ r_ (br_ r_ (fun hlen => o_ r_ (bw_ r_ r_ (T_ (ap_ r_ w_ (av_ (ax_ (ax_ (ba_ (al_ (R_ (M_ r_ ?_)))))))))))))))))
    refine F_ r_ (W_ 3 r_ (T_ (R_ (E_ r_ (T_ (am_ (R_ (E_ r_ (T_ (au_ (jc_ownNil 33 1 g_ (jc_famNil 3 1 0 (Nat.succ_pos _) ?_))))))))))))
    refine jc_loopS (ι := Nat × Value × List Value) [] (fun i => i.1 ≤ (g.points).length ∧ i.2.2.length = i.1) (fun i => (7, In .i64 (i.1 : Int)) :: [(6, .cell (.val i.2.1)), (1, Ptr bx), (2, Ptr br)]) (fun i => [.own i.2.1 33 1 (i.2.2.map vrow), .fam (famI 3 i.2.2 (g.points.take i.1)), .own v 35 3 (bkVs g.blocks ns), .fam (famI 3 ns (nxs g.blocks)), .own vH 42 2 (g.heads.map HdRow), .blk bx 28 (GhM g v vH), .blk br 28 GhZ]) (fun i => (g.points).length - i.1) (0, .slice none 0 0, []) ⟨Nat.zero_le _, rfl⟩ ?_ ?_ ?_
    · exact bc_ 1 r_ (bc_ 0 r_ (bc_ 1 r_ (bc_ 1 r_ (bc_ 1 r_ (bc_ 0 r_ (bc_ 0 r_ sub_end))))))
    · (repeat (first | exact True.intro | refine ⟨rfl, ?_⟩))
    rintro ⟨j, p, ps⟩ hz
    dsimp only at hz ⊢
    obtain ⟨hj, hps⟩ := hz
    have eLj : ((g.points).map NRow).length = (g.points).length := List.length_map _
    by_cases hltj : j < (g.points).length
    · have hltj2 : (j : Int) < (((g.points).map NRow).length : Int) := by omega
      have epv : (ps.map vrow).length = j := by rw [List.length_map]; exact hps
      have hpm := szP_mem (List.getElem_mem hltj)
      have eN : ((g.points[j]).map Irow).length = (g.points[j]).length := List.length_map _
      refine am_ (R_ (M_ r_ (F_ r_ (L_ 5 r_ (o_ r_ (br_ r_ (fun hlen => o_ r_ (bw_ r_ r_ (T_ (aq_ r_ u_ (as_ (al_ (B_ (an_ (M_ r_ (o_ r_ (ow_buildSliceOwn (rows := []) rfl rfl b_ rfl rfl b_ (fun q0 hq0 fq0 => F_ r_ ?_))))))))))))))))))
      refine L_ 6 r_ (M_ r_ (o_ r_ (cc_ r_ r_ g_ r_ r_ b_ (o_ r_ (cb_ r_ r_ (o_ r_ (ow_append 0 rfl rfl rfl rfl rfl rfl rfl (rows_len (fun _ => rfl)) (by simp only [List.length_nil, List.length_map] ; show (0 + _) * 8 ≤ _ ; omega) (by simp only [List.length_nil, List.length_map] ; omega) (fun n1 hn1 => o_ r_ (bq_ r_ r_ b_ r_ r_ b_ ?_)))))))))
      refine o_ r_ (ow_append 1 rfl rfl rfl rfl rfl rfl rfl (rows1 rfl) (by rw [epv] ; show (_ + 1) * 24 ≤ _ ; omega) (by rw [epv] ; show _ + 1 ≤ _ ; omega) (fun p1 hp1 => E_ r_ (ak_ (ay_ (al_ (an_ (M_ r_ (o_ r_ (bj_ r_ r_ g_ (E_ r_ (ak_ ?_)))))))))))
      have hnp : g.points.take (j + 1) = g.points.take j ++ [g.points[j]] := List.take_succ_eq_append_getElem hltj
      refine jq_regroup _ (famI_more (j := 1) (j2 := 1) (L := g.points[j]) (by rw [List.length_take]; omega) rfl hnp) (jq_againS (i := (j, p, ps)) (j + 1, p1, ps ++ [n1]) ⟨hltj, by dsimp only; rw [List.length_append, hps]; rfl⟩ (by dsimp only; omega) ?_ ?_)
      · dsimp only
        rw [List.map_append]
        exact bc_ 1 r_ (bc_ 0 r_ (bc_ 0 r_ (bc_ 0 r_ (bc_ 0 r_ (bc_ 0 r_ (bc_ 0 r_ sub_end))))))
      · (repeat (first | exact True.intro | refine ⟨rfl, ?_⟩))
    · have hltj2 : ¬ (j : Int) < (((g.points).map NRow).length : Int) := by omega
      have ekp : g.points.take j = g.points := List.take_of_length_le (by omega)
      rw [ekp]
      have hpl : ps.length = g.points.length := by omega
      refine am_ (R_ (M_ r_ (F_ r_ (L_ 5 r_ (o_ r_ (br_ r_ (fun hlen => o_ r_ (bw_ r_ r_ (T_ (ap_ r_ w_ (av_ (ax_ (ax_ (ba_ (al_ (R_ (M_ r_ ?_)))))))))))))))))
      exact F_ r_ (W_ 5 r_ (T_ (R_ (A_ 0 r_ (S_ 6 r_ (T_ (ar_ (jq_retRowS rfl rfl rfl rfl 0 rfl (fun K h => h ⟨v, p, vH, ns, ps⟩ ⟨hnl, hpl⟩) (bc_ 4 r_ (bc_ 4 r_ (bc_ 2 r_ (bc_ 2 r_ (bc_ 2 r_ sub_end)))))))))))))
end Go.Proofs.Ytpolnonbgaolkaa
end

section
namespace Go.Proofs.Ytpolnonbgaolkaa
open Go.Vc
attribute [local irreducible] JL JC JQ OpWp Con ConN HOk
set_option maxHeartbeats 4000000

theorem cloneIn_c (L : List (Inp)) (hl : L.length ≤ 100000) : Con Try.prog 35 [.cell (.list (L.map InRow))] [] (fun K => K (.cell (.list (L.map InRow))) []) := by
  refine con_intro Try.func35 rfl rfl (Nat.le_of_ble_eq_true rfl) (fun c hc => R_ (E_ r_ (T_ (am_ (R_ (M_ r_ (o_ r_ (ow_slnil rfl rfl (fun bz hbz => T_ (jc_cond rfl (fun hz => ?_) (fun hz => ?_)))))))))))
  · have h0 := hbz hz
    exact R_ (E_ r_ (T_ (ar_ (aw_ (jq_ownNil 64 3 g_ (jq_freeze 2 0 rfl rfl (by rw [hc]; simp [hb]) (jq_ret1S rfl rfl (fun K h => by rw [h0] at h; exact h) sub_end)))))))
  · refine as_ (al_ (R_ (o_ r_ (ow_buildSliceOwn (rows := []) rfl rfl b_ rfl rfl b_ (fun q0 hq0 fq0 => M_ r_ (o_ r_ (ow_append 0 rfl rfl rfl rfl rfl rfl rfl (rows_len (fun _ => rfl)) (by simp only [List.length_nil, List.length_map] ; show (0 + _) * 32 ≤ _ ; omega) (by simp only [List.length_nil, List.length_map] ; omega) (fun q1 hq1 => E_ r_ (T_ (ar_ (jq_freeze 2 0 rfl rfl (by rw [hc]; simp [hb]) ?_)))))))))))
    exact jq_ret1S rfl rfl (fun K h => h) sub_end
theorem cloneAr_c (L : List (Arr)) (hl : L.length ≤ 100000) : Con Try.prog 36 [.cell (.list (L.map ArRow))] [] (fun K => K (.cell (.list (L.map ArRow))) []) := by
  refine con_intro Try.func36 rfl rfl (Nat.le_of_ble_eq_true rfl) (fun c hc => R_ (E_ r_ (T_ (am_ (R_ (M_ r_ (o_ r_ (ow_slnil rfl rfl (fun bz hbz => T_ (jc_cond rfl (fun hz => ?_) (fun hz => ?_)))))))))))
  · have h0 := hbz hz
    exact R_ (E_ r_ (T_ (ar_ (aw_ (jq_ownNil 66 2 g_ (jq_freeze 2 0 rfl rfl (by rw [hc]; simp [hb]) (jq_ret1S rfl rfl (fun K h => by rw [h0] at h; exact h) sub_end)))))))
  · refine as_ (al_ (R_ (o_ r_ (ow_buildSliceOwn (rows := []) rfl rfl b_ rfl rfl b_ (fun q0 hq0 fq0 => M_ r_ (o_ r_ (ow_append 0 rfl rfl rfl rfl rfl rfl rfl (rows_len (fun _ => rfl)) (by simp only [List.length_nil, List.length_map] ; show (0 + _) * 24 ≤ _ ; omega) (by simp only [List.length_nil, List.length_map] ; omega) (fun q1 hq1 => E_ r_ (T_ (ar_ (jq_freeze 2 0 rfl rfl (by rw [hc]; simp [hb]) ?_)))))))))))
    exact jq_ret1S rfl rfl (fun K h => h) sub_end
theorem cloneOp_c (L : List (Opx)) (hl : L.length ≤ 100000) : Con Try.prog 20 [.cell (.list (L.map Opx.row))] [] (fun K => K (.cell (.list (L.map Opx.row))) []) := by
  refine con_intro Try.func20 rfl rfl (Nat.le_of_ble_eq_true rfl) (fun c hc => R_ (E_ r_ (T_ (am_ (R_ (M_ r_ (o_ r_ (ow_slnil rfl rfl (fun bz hbz => T_ (jc_cond rfl (fun hz => ?_) (fun hz => ?_)))))))))))
  · have h0 := hbz hz
    exact R_ (E_ r_ (T_ (ar_ (aw_ (jq_ownNil 59 5 g_ (jq_freeze 2 0 rfl rfl (by rw [hc]; simp [hb]) (jq_ret1S rfl rfl (fun K h => by rw [h0] at h; exact h) sub_end)))))))
  · refine as_ (al_ (R_ (o_ r_ (ow_buildSliceOwn (rows := []) rfl rfl b_ rfl rfl b_ (fun q0 hq0 fq0 => M_ r_ (o_ r_ (ow_append 0 rfl rfl rfl rfl rfl rfl rfl (rows_len (fun _ => rfl)) (by simp only [List.length_nil, List.length_map] ; show (0 + _) * 40 ≤ _ ; omega) (by simp only [List.length_nil, List.length_map] ; omega) (fun q1 hq1 => E_ r_ (T_ (ar_ (jq_freeze 2 0 rfl rfl (by rw [hc]; simp [hb]) ?_)))))))))))
    exact jq_ret1S rfl rfl (fun K h => h) sub_end
theorem cloneHd_c (L : List (Hd)) (hl : L.length ≤ 100000) : Con Try.prog 37 [.cell (.list (L.map HdRow))] [] (fun K => ∀ v : Value, True → K (.cell (.val v)) [.own v 42 2 (L.map HdRow)]) := by
  refine con_intro Try.func37 rfl rfl (Nat.le_of_ble_eq_true rfl) (fun c hc => R_ (E_ r_ (T_ (am_ (R_ (M_ r_ (o_ r_ (ow_slnil rfl rfl (fun bz hbz => T_ (jc_cond rfl (fun hz => ?_) (fun hz => ?_)))))))))))
  · have h0 := hbz hz
    refine R_ (E_ r_ (T_ (ar_ (aw_ (jq_ownNil 42 2 g_ (jq_ret1S rfl rfl (fun K h => h (.slice none 0 0) trivial) ?_))))))
    rw [h0]
    exact bc_ 0 r_ sub_end
  · exact as_ (al_ (R_ (o_ r_ (ow_buildSliceOwn (rows := []) rfl rfl b_ rfl rfl b_ (fun q0 hq0 fq0 => M_ r_ (o_ r_ (ow_append 0 rfl rfl rfl rfl rfl rfl rfl (rows_len (fun _ => rfl)) (by simp only [List.length_nil, List.length_map] ; show (0 + _) * 16 ≤ _ ; omega) (by simp only [List.length_nil, List.length_map] ; omega) (fun q1 hq1 => E_ r_ (T_ (ar_ (jq_ret1S rfl rfl (fun K h => h q1 trivial) (bc_ 0 r_ sub_end))))))))))))
theorem cloneBk_c (L : List (Bk)) (hl : L.length ≤ 100000) : Con Try.prog 38 [.cell (.list (L.map Bk.row))] [] (fun K => ∀ v : Value, True → K (.cell (.val v)) [.own v 35 3 (L.map Bk.row)]) := by
  refine con_intro Try.func38 rfl rfl (Nat.le_of_ble_eq_true rfl) (fun c hc => R_ (E_ r_ (T_ (am_ (R_ (M_ r_ (o_ r_ (ow_slnil rfl rfl (fun bz hbz => T_ (jc_cond rfl (fun hz => ?_) (fun hz => ?_)))))))))))
  · have h0 := hbz hz
    refine R_ (E_ r_ (T_ (ar_ (aw_ (jq_ownNil 35 3 g_ (jq_ret1S rfl rfl (fun K h => h (.slice none 0 0) trivial) ?_))))))
    rw [h0]
    exact bc_ 0 r_ sub_end
  · exact as_ (al_ (R_ (o_ r_ (ow_buildSliceOwn (rows := []) rfl rfl b_ rfl rfl b_ (fun q0 hq0 fq0 => M_ r_ (o_ r_ (ow_append 0 rfl rfl rfl rfl rfl rfl rfl (rows_len (fun _ => rfl)) (by simp only [List.length_nil, List.length_map] ; show (0 + _) * 56 ≤ _ ; omega) (by simp only [List.length_nil, List.length_map] ; omega) (fun q1 hq1 => E_ r_ (T_ (ar_ (jq_ret1S rfl rfl (fun K h => h q1 trivial) (bc_ 0 r_ sub_end))))))))))))
theorem cloneLs_c (L : List (List Int)) (hl : L.length ≤ 100000) : Con Try.prog 39 [.cell (.list (L.map NRow))] [] (fun K => ∀ v : Value, True → K (.cell (.val v)) [.own v 33 1 (L.map NRow)]) := by
  refine con_intro Try.func39 rfl rfl (Nat.le_of_ble_eq_true rfl) (fun c hc => R_ (E_ r_ (T_ (am_ (R_ (M_ r_ (o_ r_ (ow_slnil rfl rfl (fun bz hbz => T_ (jc_cond rfl (fun hz => ?_) (fun hz => ?_)))))))))))
  · have h0 := hbz hz
    refine R_ (E_ r_ (T_ (ar_ (aw_ (jq_ownNil 33 1 g_ (jq_ret1S rfl rfl (fun K h => h (.slice none 0 0) trivial) ?_))))))
    rw [h0]
    exact bc_ 0 r_ sub_end
  · exact as_ (al_ (R_ (o_ r_ (ow_buildSliceOwn (rows := []) rfl rfl b_ rfl rfl b_ (fun q0 hq0 fq0 => M_ r_ (o_ r_ (ow_append 0 rfl rfl rfl rfl rfl rfl rfl (rows_len (fun _ => rfl)) (by simp only [List.length_nil, List.length_map] ; show (0 + _) * 24 ≤ _ ; omega) (by simp only [List.length_nil, List.length_map] ; omega) (fun q1 hq1 => E_ r_ (T_ (ar_ (jq_ret1S rfl rfl (fun K h => h q1 trivial) (bc_ 0 r_ sub_end))))))))))))
theorem cloneI_c (L : List (Int)) (hl : L.length ≤ 100000) : Con Try.prog 40 [.cell (.list (L.map Irow))] [] (fun K => ∀ v : Value, True → K (.cell (.val v)) [.own v 3 1 (L.map Irow)]) := by
  refine con_intro Try.func40 rfl rfl (Nat.le_of_ble_eq_true rfl) (fun c hc => R_ (E_ r_ (T_ (am_ (R_ (M_ r_ (o_ r_ (ow_slnil rfl rfl (fun bz hbz => T_ (jc_cond rfl (fun hz => ?_) (fun hz => ?_)))))))))))
  · have h0 := hbz hz
    refine R_ (E_ r_ (T_ (ar_ (aw_ (jq_ownNil 3 1 g_ (jq_ret1S rfl rfl (fun K h => h (.slice none 0 0) trivial) ?_))))))
    rw [h0]
    exact bc_ 0 r_ sub_end
  · exact as_ (al_ (R_ (o_ r_ (ow_buildSliceOwn (rows := []) rfl rfl b_ rfl rfl b_ (fun q0 hq0 fq0 => M_ r_ (o_ r_ (ow_append 0 rfl rfl rfl rfl rfl rfl rfl (rows_len (fun _ => rfl)) (by simp only [List.length_nil, List.length_map] ; show (0 + _) * 8 ≤ _ ; omega) (by simp only [List.length_nil, List.length_map] ; omega) (fun q1 hq1 => E_ r_ (T_ (ar_ (jq_ret1S rfl rfl (fun K h => h q1 trivial) (bc_ 0 r_ sub_end))))))))))))
theorem set_sameC {α : Type _} {l : List α} {i : Nat} {x : α} (h : l[i]? = some x) : l.set i x = l := by
  obtain ⟨hi, rfl⟩ := List.getElem?_eq_some_iff.1 h
  exact List.set_getElem_self hi
/-- The blocks when the first i have successors of their own. -/
def bkM (B : List Bk) (i : Nat) (ns : List Value) : List (List C) := bkVs (B.take i) ns ++ (B.drop i).map Bk.row
theorem bkM_zero (B : List Bk) : bkM B 0 [] = B.map Bk.row := by simp [bkM, bkVs]
theorem bkM_end {B : List Bk} {i : Nat} (h : B.length ≤ i) (ns : List Value) : bkM B i ns = bkVs B ns := by
  unfold bkM
  rw [List.take_of_length_le h, List.drop_eq_nil_of_le h, List.map_nil, List.append_nil]
theorem bkM_len {B : List Bk} {i : Nat} {ns : List Value} (hi : i ≤ B.length) (h : ns.length = i) : (bkM B i ns).length = B.length := by
  unfold bkM
  have h1 : (B.take i).length = i := by rw [List.length_take]; omega
  rw [List.length_append, bkVs_len (by omega), List.length_map, List.length_drop, h1]
  omega
theorem bkM_get {B : List Bk} {i : Nat} {ns : List Value} (hi : i < B.length) (h : ns.length = i) : (bkM B i ns)[i]? = some (Bk.row B[i]) := by
  have h1 : (B.take i).length = i := by rw [List.length_take]; omega
  have h2 : (bkVs (B.take i) ns).length = i := by rw [bkVs_len (by omega), h1]
  unfold bkM
  rw [List.getElem?_append_right (by omega), h2, Nat.sub_self, List.drop_eq_getElem_cons hi]
  rfl
theorem bkM_step {B : List Bk} {i : Nat} {ns : List Value} (hi : i < B.length) (h : ns.length = i) (v : Value) : (bkM B i ns).set i (bkV B[i] v) = bkM B (i + 1) (ns ++ [v]) := by
  have h1 : (B.take i).length = i := by rw [List.length_take]; omega
  have h2 : (bkVs (B.take i) ns).length = i := by rw [bkVs_len (by omega), h1]
  unfold bkM
  rw [List.set_append_right _ _ (by omega), h2, Nat.sub_self, List.drop_eq_getElem_cons hi, List.take_succ_eq_append_getElem hi, ← bkVs_push (by omega), List.append_assoc]
  rfl
/-- The points when the first i are slices of one's own. -/
def ptM (P : List (List Int)) (i : Nat) (ps : List Value) : List (List C) := ps.map vrow ++ (P.drop i).map NRow
theorem ptM_zero (P : List (List Int)) : ptM P 0 [] = P.map NRow := by simp [ptM]
theorem ptM_end {P : List (List Int)} {i : Nat} (h : P.length ≤ i) (ps : List Value) : ptM P i ps = ps.map vrow := by
  unfold ptM
  rw [List.drop_eq_nil_of_le h, List.map_nil, List.append_nil]
theorem ptM_len {P : List (List Int)} {i : Nat} {ps : List Value} (hi : i ≤ P.length) (h : ps.length = i) : (ptM P i ps).length = P.length := by
  unfold ptM
  rw [List.length_append, List.length_map, List.length_map, List.length_drop]
  omega
theorem ptM_get {P : List (List Int)} {i : Nat} {ps : List Value} (hi : i < P.length) (h : ps.length = i) : (ptM P i ps)[i]? = some (NRow P[i]) := by
  unfold ptM
  rw [List.getElem?_append_right (by rw [List.length_map]; omega), List.length_map, h, Nat.sub_self, List.drop_eq_getElem_cons hi]
  rfl
theorem ptM_step {P : List (List Int)} {i : Nat} {ps : List Value} (hi : i < P.length) (h : ps.length = i) (v : Value) : (ptM P i ps).set i (vrow v) = ptM P (i + 1) (ps ++ [v]) := by
  unfold ptM
  rw [List.set_append_right _ _ (by rw [List.length_map]; omega), List.length_map, h, Nat.sub_self, List.drop_eq_getElem_cons hi, List.map_append, List.append_assoc]
  rfl
theorem sCopy_c (g : Gh) (hw : GhW g) : Con Try.prog 16 [.row g.row] [] (CpK g) := by
  have eB : (g.blocks.map Bk.row).length = g.blocks.length := List.length_map _
  have eP : (g.points.map NRow).length = g.points.length := List.length_map _
  have hsz := hw.ops
  have hpt := szG_parts hw
  have hszG := hw.size
  have hszB : szB g.blocks ≤ 1500 := by unfold szG at hszG; omega
  have hszP : szP g.points ≤ 1500 := by unfold szG at hszG; omega
  have cIn := cloneIn_c g.inputs (by omega)
  have cAr := cloneAr_c g.arrays (by omega)
  have cHd := cloneHd_c g.heads (by omega)
  have cBk := cloneBk_c g.blocks (by omega)
  have cLs := cloneLs_c g.points (by omega)
  refine con_intro Try.func16 rfl rfl (Nat.le_of_ble_eq_true rfl) (fun c hc => R_ (o_ r_ (ci_ r_ (fun bx => o_ r_ (bl_ rfl rfl (fun br => T_ (am_ (jc_hpM 9 (n := 15) rfl 1 k_ rfl (fun cs1 hcs1 hv1 => ?_)))))))))
  obtain ⟨u10, u11, u12, u13, u14, u15, u16, u17, rfl⟩ := len8 hcs1
  obtain rfl := Option.some.inj (hv1 1 _ rfl)
  obtain rfl := Option.some.inj (hv1 2 _ rfl)
  obtain rfl := Option.some.inj (hv1 4 _ rfl)
  refine hp_know 1 rfl mem0 ?_
  dsimp only [List.zipWith, know]
  refine hp_pani (by (repeat (first | refine pani_then ?_ | refine pani_block ?_)); exact pani_body) (fun hPan => ?_)
  refine df_ (i := 0) r_ k_ k_ k_ b_ hPan (dl_ r_ r_ r_ b_) (df_ (i := 1) r_ k_ k_ k_ b_ hPan (hok_loadK 0 r_ r_ r_ mem0 r_) (df_ (i := 3) r_ k_ k_ k_ b_ hPan (dl_ r_ r_ r_ b_) (df_ (i := 4) r_ k_ k_ k_ b_ hPan (hok_loadK 0 r_ r_ r_ mem0 r_) (df_ (i := 6) r_ k_ k_ k_ b_ hPan (dl_ r_ r_ r_ b_) (df_ (i := 7) r_ k_ k_ k_ b_ hPan (hok_loadK 0 r_ r_ r_ mem0 r_) (dg_ (i := 2) r_ k_ b_ (bm_ r_ (cIn) ⟨?_, ?_⟩)))))))
  exact keepK 0 rfl rfl
  refine df_ (i := 9) r_ k_ k_ k_ b_ hPan (dl_ r_ r_ r_ b_) (dg_ (i := 5) r_ k_ b_ (bm_ r_ (cAr) ⟨?_, ?_⟩))
  exact keepK 0 rfl rfl
  refine dg_ (i := 8) rfl k_ b_ (bt_ [] rfl rfl cHd (fun vH hvH => ⟨?_, ?_⟩))
  exact keepK 1 rfl rfl
  refine hp_tail (dj_ (i := 10) rfl k_ (by decide) (ca_ 1 rfl rfl rfl rfl b_ (di_ (i := 11) rfl k_ b_ (by decide) (bf_ rfl rfl rfl b_ (dj_ (i := 12) rfl k_ (by decide) (ca_ 0 rfl rfl rfl rfl b_ (di_ (i := 13) rfl k_ b_ (by decide) (bf_ rfl rfl rfl b_ (dj_ (i := 14) rfl k_ (by decide) (ca_ 0 rfl rfl rfl rfl b_ (ht_done k_ ?_)))))))))))
  clear hPan
  refine jq_unk _ 2 rfl rfl ?_
  dsimp only [List.map, unk]
  refine jq_row 1 (GhL g vH) rfl (fun _ _ _ h => rdRow_unk h) (al_ (am_ (jc_hpM 6 (n := 10) rfl 0 k_ rfl (fun cs1 hcs1 hv1 => ?_))))
  obtain ⟨u10, u11, u12, u13, u14, u15, u16, u17, rfl⟩ := len8 hcs1
  obtain rfl := Option.some.inj (hv1 1 _ rfl)
  obtain rfl := Option.some.inj (hv1 2 _ rfl)
  obtain rfl := Option.some.inj (hv1 4 _ rfl)
  obtain rfl := Option.some.inj (hv1 7 _ rfl)
  refine hp_know 0 rfl mem0 ?_
  dsimp only [List.zipWith, know]
  refine hp_pani (by (repeat (first | refine pani_then ?_ | refine pani_block ?_)); exact pani_body) (fun hPan => ?_)
  refine df_ (i := 0) r_ k_ k_ k_ b_ hPan (dl_ r_ r_ r_ b_) (df_ (i := 1) r_ k_ k_ k_ b_ hPan (hok_loadK 0 r_ r_ r_ mem0 r_) (df_ (i := 3) r_ k_ k_ k_ b_ hPan (dl_ r_ r_ r_ b_) (df_ (i := 4) r_ k_ k_ k_ b_ hPan (hok_loadK 0 r_ r_ r_ mem0 r_) (dg_ (i := 2) rfl k_ b_ (bt_ [] rfl rfl cBk (fun vB hvB => ⟨?_, ?_⟩))))))
  exact keepK 1 rfl rfl
  refine df_ (i := 6) r_ k_ k_ k_ b_ hPan (dl_ r_ r_ r_ b_) (dg_ (i := 5) rfl k_ b_ (bt_ [] rfl rfl cLs (fun vP hvP => ⟨?_, ?_⟩)))
  exact keepK 2 rfl rfl
  refine hp_tail (dj_ (i := 7) rfl k_ (by decide) (ca_ 2 rfl rfl rfl rfl b_ (di_ (i := 8) rfl k_ b_ (by decide) (bf_ rfl rfl rfl b_ (dj_ (i := 9) rfl k_ (by decide) (ca_ 0 rfl rfl rfl rfl b_ (ht_done k_ ?_)))))))
  clear hPan
  refine jq_unk _ 0 rfl rfl ?_
  dsimp only [List.map, unk]
  clear hcs1 hv1
  generalize u17 = vH
  refine al_ (am_ (R_ (F_ r_ (L_ 0 r_ (o_ r_ (cw_ 2 r_ r_ (fun hlen => M_ r_ (T_ (au_ (jc_famNil 3 1 0 (Nat.succ_pos _) ?_))))))))))
  rw [← bkM_zero]
  refine jc_loopS (ι := Nat × List Value) [] (fun i => i.1 ≤ (g.blocks).length ∧ i.2.length = i.1) (fun i => (30, In .i64 (i.1 : Int)) :: [(28, .cell (.val vB)), (29, In .i64 ((bkM g.blocks 0 []).length : Int)), (1, Ptr bx), (2, Ptr br)]) (fun i => [.own vB 35 3 (bkM g.blocks i.1 i.2), .fam (famI 3 i.2 (nxs (g.blocks.take i.1))), .own vP 33 1 (g.points.map NRow), .own vH 42 2 (g.heads.map HdRow), .blk bx 28 (GhV g vB vP vH), .blk br 28 GhZ]) (fun i => (g.blocks).length - i.1) (0, []) ⟨Nat.zero_le _, rfl⟩ ?_ ?_ ?_
  · exact bc_ 3 r_ (bc_ 0 r_ (bc_ 1 r_ (bc_ 2 r_ (bc_ 0 r_ (bc_ 0 r_ sub_end)))))
  · (repeat (first | exact True.intro | refine ⟨rfl, ?_⟩))
  rintro ⟨k, ns⟩ hz
  dsimp only at hz ⊢
  obtain ⟨hk, hns⟩ := hz
  have ez0 : (bkM g.blocks 0 []).length = g.blocks.length := bkM_len (by omega) rfl
  have eLk : ((g.blocks).map Bk.row).length = (g.blocks).length := List.length_map _
  by_cases hltk : k < (g.blocks).length
  · have hltk2 : (k : Int) < ((bkM g.blocks 0 []).length : Int) := by omega
    have ez : (bkM g.blocks 0 []).length = g.blocks.length := bkM_len (by omega) rfl
    have ebm := bkM_len (B := g.blocks) hk hns
    have hri := bkM_get hltk hns
    have hst := bkM_step hltk hns
    have hbm := szB_mem (List.getElem_mem hltk)
    have cO := cloneOp_c (g.blocks[k]).ops (by omega)
    have cN := cloneI_c (g.blocks[k]).next (by omega)
    have ebs : ((bkM g.blocks k ns).set k (Bk.row g.blocks[k])) = bkM g.blocks k ns := set_sameC hri
    refine R_ (o_ r_ (bw_ r_ r_ (T_ (am_ (aq_ r_ u_ (as_ (al_ (B_ (R_ (M_ r_ (o_ r_ (ow_indexOwnE 0 k r_ r_ r_ g_ g_ r_ (o_ r_ (ow_loadInnN 0 k r_ r_ r_ r_ hri r_ (o_ r_ (bl_ rfl rfl (fun b4 => E_ r_ (S_ 0 r_ (T_ ?_)))))))))))))))))))
    have hri2 : ((bkM g.blocks k ns).set k (Bk.row g.blocks[k]))[k]? = some (Bk.row g.blocks[k]) := List.getElem?_set_self (by omega)
    refine jc_hpM2 15 (n := 18) rfl 5 0 k_ rfl rfl (fun cs1 cs2 hcs1 hv1 hcs2 hv2 => ?_)
    obtain ⟨u10, u11, u12, u13, u14, u15, u16, u17, rfl⟩ := len8 hcs1
    obtain ⟨u20, u21, u22, rfl⟩ := len3 hcs2
    obtain rfl := Option.some.inj (hv1 1 _ rfl)
    obtain rfl := Option.some.inj (hv1 2 _ rfl)
    obtain rfl := Option.some.inj (hv1 4 _ rfl)
    obtain rfl := Option.some.inj (hv1 5 _ rfl)
    obtain rfl := Option.some.inj (hv1 6 _ rfl)
    obtain rfl := Option.some.inj (hv1 7 _ rfl)
    obtain rfl := Option.some.inj (hv2 1 _ rfl)
    refine hp_know 5 rfl mem0 ?_
    dsimp only [List.zipWith, know]
    refine hp_know 1 rfl mem1 ?_
    dsimp only [List.zipWith, know]
    refine hp_pani (by (repeat (first | refine pani_then ?_ | refine pani_block ?_)); exact pani_body) (fun hPan => ?_)
    refine df_ (i := 0) r_ k_ k_ k_ b_ hPan (dl_ r_ r_ r_ b_) (df_ (i := 1) r_ k_ k_ k_ b_ hPan (dm_ 1 r_ r_ r_ mem0 r_) (df_ (i := 2) r_ k_ k_ k_ b_ hPan (dk_ r_) (df_ (i := 3) r_ k_ k_ k_ b_ hPan (dl_ r_ r_ r_ b_) (df_ (i := 4) r_ k_ k_ k_ b_ hPan (dm_ 1 r_ r_ r_ mem0 r_) (df_ (i := 5) r_ k_ k_ k_ b_ hPan (dk_ r_) (df_ (i := 6) r_ k_ k_ k_ b_ hPan (dl_ r_ r_ r_ b_) ?_))))))
    refine df_ (i := 7) r_ k_ k_ k_ b_ hPan (hok_loadK 0 r_ r_ r_ mem1 r_) (df_ (i := 9) r_ k_ k_ k_ b_ hPan (dl_ r_ r_ r_ b_) (df_ (i := 10) r_ k_ k_ k_ b_ hPan (hok_loadK 0 r_ r_ r_ mem1 r_) (dg_ (i := 8) r_ k_ b_ (bm_ r_ (cO) ⟨?_, ?_⟩))))
    exact keepK2 1 0 rfl rfl rfl rfl
    refine dg_ (i := 11) rfl k_ b_ (bt_ [] rfl rfl cN (fun n1 hn1 => ⟨?_, ?_⟩))
    exact keepK2 2 1 rfl rfl rfl rfl
    refine dg_ (i := 12) r_ k_ b_ (ow_indexOwnE 3 k r_ r_ r_ r_ g_ r_ ⟨?_, ?_⟩)
    exact keepK2 2 1 rfl rfl rfl rfl
    refine dg_ (i := 13) r_ k_ b_ (ow_fieldAddrInn r_ r_ r_ b_ ⟨?_, ?_⟩)
    exact keepK2 2 1 rfl rfl rfl rfl
    refine dh_ (i := 14) r_ k_ (ow_storeInn (row' := Bk.row g.blocks[k]) 3 k 0 r_ r_ r_ r_ r_ hri r_ b_ r_ ⟨?_, ?_⟩)
    exact keepK2 3 2 rfl rfl rfl rfl
    refine hp_tail (di_ (i := 15) rfl k_ b_ (by decide) (ow_indexOwnE 0 k rfl rfl rfl rfl (by rw [List.length_set] ; omega) rfl (di_ (i := 16) rfl k_ b_ (by decide) (ow_fieldAddrInn rfl rfl rfl b_ (dj_ (i := 17) rfl k_ (by decide) (ow_storeInn (row' := bkV g.blocks[k] n1) 0 k 2 rfl rfl rfl rfl rfl hri2 rfl b_ rfl (ht_done k_ ?_)))))))
    clear hPan
    refine jq_unk [u10, _, _, u13, _, _, _, _] 3 rfl rfl ?_
    dsimp only [List.map, unk]
    refine jq_unk [u20, _, u22] 3 rfl rfl ?_
    dsimp only [List.map, unk]
    have e2 : ((bkM g.blocks k ns).set k (Bk.row g.blocks[k])).set k (bkV g.blocks[k] n1) = bkM g.blocks (k + 1) (ns ++ [n1]) := by rw [ebs, hst]
    have hnp : nxs (g.blocks.take (k + 1)) = nxs (g.blocks.take k) ++ [(g.blocks[k]).next] := by rw [List.take_succ_eq_append_getElem hltk]; exact nxs_push _ _
    refine ay_ (al_ (an_ (o_ r_ (bj_ r_ r_ g_ (M_ r_ (ak_ (jq_regroup _ (famI_more (j := 3) (j2 := 3) (L := (g.blocks[k]).next) (vs := ns) (Ls := nxs (g.blocks.take k)) (by rw [nxs_len, List.length_take]; omega) rfl hnp) (jq_againS (i := (k, ns)) (k + 1, ns ++ [n1]) ⟨hltk, by dsimp only; rw [List.length_append, hns]; rfl⟩ (by dsimp only; omega) ?_ ?_))))))))
    · dsimp only
      rw [← e2]
      exact bc_ 3 r_ (bc_ 0 r_ (bc_ 2 r_ (bc_ 2 r_ (bc_ 1 r_ (bc_ 1 r_ sub_end)))))
    · (repeat (first | exact True.intro | refine ⟨rfl, ?_⟩))
  · have hltk2 : ¬ (k : Int) < ((bkM g.blocks 0 []).length : Int) := by omega
    have ekb : g.blocks.take k = g.blocks := List.take_of_length_le (by have := bkM_len (B := g.blocks) (ns := []) (Nat.zero_le _) rfl; omega)
    have hnl : ns.length = g.blocks.length := by have := bkM_len (B := g.blocks) (ns := []) (Nat.zero_le _) rfl; omega
    rw [ekb, bkM_end (i := k) (by omega) ns]
    refine R_ (o_ r_ (bw_ r_ r_ (T_ (am_ (ap_ r_ w_ (av_ (ax_ (ax_ (ba_ (al_ (am_ (R_ (F_ r_ (L_ 4 r_ (o_ r_ (cw_ 2 r_ r_ (fun hlen => M_ r_ ?_)))))))))))))))))
    refine T_ (au_ (jc_famNil 3 1 0 (Nat.succ_pos _) ?_))
    rw [← ptM_zero]
    refine jc_loopS (ι := Nat × List Value) [] (fun i => i.1 ≤ (g.points).length ∧ i.2.length = i.1) (fun i => (55, In .i64 (i.1 : Int)) :: [(53, .cell (.val vP)), (54, In .i64 ((ptM g.points 0 []).length : Int)), (1, Ptr bx), (2, Ptr br)]) (fun i => [.own vP 33 1 (ptM g.points i.1 i.2), .fam (famI 3 i.2 (g.points.take i.1)), .own vB 35 3 (bkVs g.blocks ns), .fam (famI 3 ns (nxs g.blocks)), .own vH 42 2 (g.heads.map HdRow), .blk bx 28 (GhV g vB vP vH), .blk br 28 GhZ]) (fun i => (g.points).length - i.1) (0, []) ⟨Nat.zero_le _, rfl⟩ ?_ ?_ ?_
    · exact bc_ 3 r_ (bc_ 0 r_ (bc_ 0 r_ (bc_ 0 r_ (bc_ 0 r_ (bc_ 0 r_ (bc_ 0 r_ sub_end))))))
    · (repeat (first | exact True.intro | refine ⟨rfl, ?_⟩))
    rintro ⟨j, ps⟩ hz
    dsimp only at hz ⊢
    obtain ⟨hj, hps⟩ := hz
    have ez1 : (ptM g.points 0 []).length = g.points.length := ptM_len (by omega) rfl
    have eLj : ((g.points).map NRow).length = (g.points).length := List.length_map _
    by_cases hltj : j < (g.points).length
    · have hltj2 : (j : Int) < ((ptM g.points 0 []).length : Int) := by omega
      have ez : (ptM g.points 0 []).length = g.points.length := ptM_len (by omega) rfl
      have ebm := ptM_len (P := g.points) hj hps
      have hri := ptM_get hltj hps
      have hst := ptM_step hltj hps
      have hpm := szP_mem (List.getElem_mem hltj)
      have cN := cloneI_c g.points[j] (by omega)
      refine R_ (o_ r_ (bw_ r_ r_ (T_ (am_ (aq_ r_ u_ (as_ (al_ (B_ (R_ (M_ r_ (o_ r_ (ow_indexOwnE 0 j r_ r_ r_ g_ g_ r_ (o_ r_ (ow_loadInn 0 j 0 r_ r_ r_ r_ hri r_ (E_ r_ (E_ r_ (T_ (jc_hpM 5 (n := 7) rfl 5 k_ rfl (fun cs1 hcs1 hv1 => ?_)))))))))))))))))))
      obtain ⟨u10, u11, u12, u13, u14, u15, u16, u17, rfl⟩ := len8 hcs1
      obtain rfl := Option.some.inj (hv1 1 _ rfl)
      obtain rfl := Option.some.inj (hv1 2 _ rfl)
      obtain rfl := Option.some.inj (hv1 4 _ rfl)
      obtain rfl := Option.some.inj (hv1 5 _ rfl)
      obtain rfl := Option.some.inj (hv1 6 _ rfl)
      obtain rfl := Option.some.inj (hv1 7 _ rfl)
      refine hp_know 5 rfl mem0 ?_
      dsimp only [List.zipWith, know]
      refine hp_pani (by (repeat (first | refine pani_then ?_ | refine pani_block ?_)); exact pani_body) (fun hPan => ?_)
      refine df_ (i := 0) r_ k_ k_ k_ b_ hPan (dl_ r_ r_ r_ b_) (df_ (i := 1) r_ k_ k_ k_ b_ hPan (dm_ 0 r_ r_ r_ mem0 r_) (df_ (i := 2) r_ k_ k_ k_ b_ hPan (dk_ r_) (df_ (i := 3) r_ k_ k_ k_ b_ hPan (dk_ r_) (dg_ (i := 4) rfl k_ b_ (bt_ [] rfl rfl cN (fun n1 hn1 => ⟨?_, ?_⟩))))))
      exact keepK 1 rfl rfl
      refine hp_tail (di_ (i := 5) rfl k_ b_ (by decide) (ow_indexOwnE 2 j rfl rfl rfl rfl g_ rfl (dj_ (i := 6) rfl k_ (by decide) (ow_storeInn (row' := vrow n1) 2 j 0 rfl rfl rfl rfl rfl hri rfl b_ rfl (ht_done k_ ?_)))))
      clear hPan
      refine jq_unk _ 2 rfl rfl ?_
      dsimp only [List.map, unk]
      have hnp : g.points.take (j + 1) = g.points.take j ++ [g.points[j]] := List.take_succ_eq_append_getElem hltj
      refine ay_ (al_ (an_ (o_ r_ (bj_ r_ r_ g_ (M_ r_ (ak_ (jq_regroup _ (famI_more (j := 2) (j2 := 2) (L := g.points[j]) (vs := ps) (Ls := g.points.take j) (by rw [List.length_take]; omega) rfl hnp) (jq_againS (i := (j, ps)) (j + 1, ps ++ [n1]) ⟨hltj, by dsimp only; rw [List.length_append, hps]; rfl⟩ (by dsimp only; omega) ?_ ?_))))))))
      · dsimp only
        rw [← hst]
        exact bc_ 2 r_ (bc_ 0 r_ (bc_ 1 r_ (bc_ 1 r_ (bc_ 1 r_ (bc_ 0 r_ (bc_ 0 r_ sub_end))))))
      · (repeat (first | exact True.intro | refine ⟨rfl, ?_⟩))
    · have hltj2 : ¬ (j : Int) < ((ptM g.points 0 []).length : Int) := by omega
      have ep : (ptM g.points 0 []).length = g.points.length := ptM_len (by omega) rfl
      have ekp : g.points.take j = g.points := List.take_of_length_le (by omega)
      have hpl : ps.length = g.points.length := by omega
      rw [ekp, ptM_end (i := j) (by omega) ps]
      refine R_ (o_ r_ (bw_ r_ r_ (T_ (am_ (ap_ r_ w_ (av_ (ax_ (ax_ (ba_ (al_ (R_ (A_ 5 r_ (S_ 6 r_ (T_ (ar_ (jq_retRowS rfl rfl rfl rfl 0 rfl (fun K h => h ⟨vB, vP, vH, ns, ps⟩ ⟨hnl, hpl⟩) ?_))))))))))))))))
      exact bc_ 3 r_ (bc_ 3 r_ (bc_ 1 r_ (bc_ 1 r_ (bc_ 1 r_ sub_end))))
end Go.Proofs.Ytpolnonbgaolkaa
end

section
namespace Go.Proofs.Ytpolnonbgaolkaa
open Go.Vc
attribute [local irreducible] JL JC JQ OpWp Con ConN HOk
set_option maxHeartbeats 4000000

def idP (n i : Nat) : List (List Int) := (List.range n).map fun j : Nat => if j < i then [(j : Int)] else []
def idM (n : Nat) : List (List Int) := (List.range n).map fun j : Nat => [(j : Int)]
theorem idP_len (n i : Nat) : (idP n i).length = n := by simp [idP]
theorem idP_zero (n : Nat) : idP n 0 = List.replicate n [] := by
  unfold idP
  rw [List.eq_replicate_iff]
  refine ⟨by simp, fun x hx => ?_⟩
  obtain ⟨y, _, rfl⟩ := List.mem_map.1 hx
  simp
theorem idP_end (n : Nat) : idP n n = idM n := by
  refine List.map_congr_left (fun i hi => ?_)
  rw [if_pos (List.mem_range.1 hi)]
theorem idP_step {n i : Nat} : idP n (i + 1) = (idP n i).set i [(i : Int)] := by
  refine List.ext_getElem (by simp [idP]) (fun j h1 h2 => ?_)
  rw [List.getElem_set]
  simp only [idP, List.getElem_map, List.getElem_range]
  by_cases hj : i = j
  · subst hj
    rw [if_pos (by omega), if_pos rfl]
  · rw [if_neg hj]
    by_cases h3 : j < i
    · rw [if_pos h3, if_pos (by omega)]
    · rw [if_neg h3, if_neg (by omega)]
theorem identity_c (n : Nat) (hn : n ≤ 100000) : Con Try.prog 17 [In .i64 (n : Int)] [] (fun K => ∀ i : Value × List Value, i.2.length = n → K (.cell (.val i.1)) [.own i.1 33 1 (i.2.map vrow), .fam (famI 3 i.2 (idM n))]) := by
  refine con_intro Try.func17 rfl rfl (Nat.le_of_ble_eq_true rfl) (fun c hc => R_ (E_ r_ (T_ (R_ (M_ r_ (o_ r_ (ow_makeSliceVs n rfl rfl rfl rfl rfl rfl g_ (fun V hV fV => E_ r_ (T_ (am_ (R_ (M_ r_ (o_ r_ (cw_ 0 r_ r_ (fun hlen => M_ r_ (T_ (au_ ?_)))))))))))))))))
  refine jc_famNil 3 1 n (Nat.succ_pos _) ?_
  rw [famI_nil, ← idP_zero]
  refine jc_loopS (ι := Nat × List Value) [] (fun i => i.1 ≤ n ∧ i.2.length = n) (fun i => [(9, In .i64 (i.1 : Int)), (8, In .i64 (((List.replicate n (Value.slice none 0 0)).map vrow).length : Int)), (3, .cell (.val V))]) (fun i => [.own V 33 1 (i.2.map vrow), .fam (famI 3 i.2 (idP n i.1))]) (fun i => n - i.1) (0, List.replicate n (.slice none 0 0)) ⟨Nat.zero_le _, List.length_replicate⟩ ?_ ?_ ?_
  · exact bc_ 1 r_ (bc_ 0 r_ sub_end)
  · (repeat (first | exact True.intro | refine ⟨rfl, ?_⟩))
  rintro ⟨k, vs⟩ ⟨hk, hvs⟩
  dsimp only at hk hvs ⊢
  have eR : ((List.replicate n (Value.slice none 0 0)).map vrow).length = n := by simp
  by_cases hlt : k < n
  · have hlt2 : (k : Int) < (((List.replicate n (Value.slice none 0 0)).map vrow).length : Int) := by omega
    have i1 : k < vs.length := by omega
    have i2 : k < (idP n k).length := by rw [idP_len]; exact hlt
    refine R_ (o_ r_ (bw_ r_ r_ (T_ (am_ (aq_ r_ u_ (as_ (al_ (B_ (R_ (M_ r_ (E_ r_ (T_ (an_ (M_ r_ (M_ r_ (M_ r_ ?_))))))))))))))))
    refine o_ r_ (ow_buildSliceOwn (rows := [(k : Int)].map irow) rfl rfl b_ rfl rfl b_ (fun q0 hq0 fq0 => o_ r_ (ow_indexVs 1 r_ r_ r_ g_ r_ (ag_ (ow_storeVs 1 r_ r_ r_ g_ r_ (ak_ (ay_ (al_ (an_ (o_ r_ (bj_ r_ r_ g_ (M_ r_ (ak_ ?_)))))))))))))
    rw [Int.toNat_natCast]
    refine jq_regroup _ (famI_out (j := 2) k i1 i2 rfl) (jq_regroup _ (famI_inE (j := 3) (j2 := 1) (v := q0) (L := [(k : Int)]) (Ls' := idP n (k + 1)) k i1 i2 rfl idP_step) (jq_againS (i := (k, vs)) (k + 1, vs.set k q0) ⟨hlt, by dsimp only; rw [List.length_set]; exact hvs⟩ (by dsimp only; omega) ?_ ?_))
    · exact bc_ 2 r_ (bc_ 0 r_ sub_end)
    · (repeat (first | exact True.intro | refine ⟨rfl, ?_⟩))
  · have hlt2 : ¬ (k : Int) < (((List.replicate n (Value.slice none 0 0)).map vrow).length : Int) := by omega
    have ek : k = n := by omega
    rw [ek, idP_end]
    refine R_ (o_ r_ (bw_ r_ r_ (T_ (am_ (ap_ r_ v_ (av_ (ax_ (ax_ (ba_ (al_ (R_ (M_ r_ (E_ r_ (T_ (ar_ (jq_ret1S rfl rfl (fun K h => h (V, vs) hvs) ?_))))))))))))))))
    exact bc_ 0 r_ (bc_ 0 r_ sub_end)
theorem cmpNaN_c (n : Int) : Con Try.prog 62 [In .i64 n] [] (fun K => K (Bl false) []) := by
  have h1 : ¬ n ≠ n := fun h => h rfl
  have h2 : decide (n ≠ n) = false := decide_eq_false h1
  refine con_intro Try.func62 rfl rfl (Nat.le_of_ble_eq_true rfl) (fun c hc => R_ (E_ r_ (T_ (R_ (M_ r_ (M_ r_ (o_ r_ (bx_ r_ r_ (E_ r_ (T_ (ar_ (jq_ret1 rfl rfl [] rfl (fun K h => by rw [← h2] at h; exact h)))))))))))))
theorem slNaN_c (n : Int) : Con Try.prog 42 [In .i64 n] [] (fun K => K (Bl false) []) := by
  have h1 : ¬ n ≠ n := fun h => h rfl
  have h2 : decide (n ≠ n) = false := decide_eq_false h1
  refine con_intro Try.func42 rfl rfl (Nat.le_of_ble_eq_true rfl) (fun c hc => R_ (E_ r_ (T_ (R_ (M_ r_ (M_ r_ (o_ r_ (bx_ r_ r_ (E_ r_ (T_ (ar_ (jq_ret1 rfl rfl [] rfl (fun K h => by rw [← h2] at h; exact h)))))))))))))
theorem less_c (a b : Int) : Con Try.prog 41 [In .i64 a, In .i64 b] [] (fun K => K (Bl (decide (a < b))) []) := by
  have h1 := cmpNaN_c a
  refine con_intro Try.func41 rfl rfl (Nat.le_of_ble_eq_true rfl) (fun c hc => R_ (E_ r_ (T_ (R_ (M_ r_ (o_ r_ (bm_ r_ (h1) (M_ r_ (ai_ r_ r_ b_ (ai_ r_ r_ b_ (ai_ r_ r_ b_ (o_ r_ (bv_ r_ r_ r_ (M_ r_ (ah_ r_ r_ b_ (bd_ r_ (ah_ r_ r_ b_ (bd_ r_ (ah_ r_ r_ b_ (bw_ r_ r_ ?_))))))))))))))))))))
  refine o_ r_ (bv_ r_ r_ r_ (E_ r_ (T_ (ar_ (jq_ret1 rfl rfl [] rfl (fun K h => h))))))
theorem bs_find {L : List Int} (ha : Asc L) {x : Int} {i : Nat} (hl : ∀ p (hp : p < L.length), p < i → L[p] < x) (hi : i < L.length) (he : L[i] = x) : x ∈ L ∧ L.findIdx (fun y => decide (y = x)) = i := by
  subst he
  exact ⟨List.getElem_mem hi, find_at ha hi⟩
theorem bs_none {L : List Int} {x : Int} {i : Nat} (hl : ∀ p (hp : p < L.length), p < i → L[p] < x) (hr : ∀ p (hp : p < L.length), i < p → x < L[p]) (hi : ∀ h : i < L.length, L[i] ≠ x) : x ∉ L := fun hm => by
  obtain ⟨p, hp, he⟩ := List.getElem_of_mem hm
  rcases Nat.lt_trichotomy p i with h | h | h
  · have := hl p hp h; omega
  · subst h; exact hi hp he
  · have := hr p hp h; omega
theorem bsearch_c (L : List Int) (x : Int) (ha : Asc L) (hl : L.length ≤ 100000) : Con Try.prog 19 [.cell (.list (L.map Irow)), In .i64 x] [] (fun K => ∀ i : Nat × Bool, i.1 ≤ L.length ∧ (i.2 = true → x ∈ L ∧ L.findIdx (fun y => decide (y = x)) = i.1) ∧ (i.2 = false → x ∉ L) → K (.tup [In .i64 (i.1 : Int), Bl i.2]) []) := by
  have eL : (L.map Irow).length = L.length := List.length_map _
  refine con_intro Try.func19 rfl rfl (Nat.le_of_ble_eq_true rfl) (fun c hc => R_ (E_ r_ (E_ r_ (T_ (R_ (M_ r_ (o_ r_ (br_ r_ (fun hlen => E_ r_ (T_ (R_ (M_ r_ (E_ r_ (E_ r_ (T_ (B_ ?_))))))))))))))))
  refine jc_loopS (ι := Nat × Nat) [] (fun i => i.1 ≤ i.2 ∧ i.2 ≤ L.length ∧ (∀ p (hp : p < L.length), p < i.1 → L[p] < x) ∧ (∀ p (hp : p < L.length), i.2 ≤ p → x ≤ L[p])) (fun i => [(7, In .i64 (i.1 : Int)), (8, In .i64 (i.2 : Int)), (6, In .i64 ((L.map Irow).length : Int)), (0, .cell (.list (L.map Irow))), (1, In .i64 x)]) (fun _ => []) (fun i => i.2 - i.1) (0, (L.map Irow).length) ⟨Nat.zero_le _, by dsimp only; omega, fun p hp h => absurd h g_, fun p hp h => absurd h (by dsimp only; omega)⟩ ?_ ?_ ?_
  · exact sub_end
  · (repeat (first | exact True.intro | refine ⟨rfl, ?_⟩))
  rintro ⟨i, j⟩ ⟨h1, h2, h3, h4⟩
  dsimp only at h1 h2 h3 h4 ⊢
  by_cases hlt : i < j
  · have hlt2 : (i : Int) < (j : Int) := by omega
    obtain ⟨m, hm⟩ : ∃ m, m = (i + j) / 2 := ⟨_, rfl⟩
    have hml : m < L.length := by omega
    have em : ((i : Int) + (j : Int)) / 2 = (m : Int) := by omega
    have hmr : (L.map Irow)[m]? = some (Irow L[m]) := by rw [List.getElem?_map, List.getElem?_eq_getElem hml]; rfl
    have hC := less_c L[m] x
    by_cases hc' : L[m] < x
    · rw [decide_eq_true hc'] at hC
      refine am_ (R_ (M_ r_ (M_ r_ (o_ r_ (bw_ r_ r_ (T_ (aq_ r_ u_ (as_ (al_ (au_ (R_ (M_ r_ (M_ r_ (o_ r_ (bj_ r_ r_ g_ (o_ r_ (ow_convU64 r_ r_ r_ g_ (o_ r_ (ow_shr1 r_ r_ g_ ?_)))))))))))))))))))
      refine o_ r_ (ow_convI64 r_ r_ r_ g_ (E_ r_ (T_ (R_ (M_ r_ (M_ r_ (o_ r_ (ow_indexAddrN m r_ r_ em hmr r_ b_ (o_ r_ (cb_ r_ r_ (M_ r_ (o_ r_ (bm_ r_ (hC) (T_ (aq_ r_ r_ (an_ (M_ r_ (o_ r_ (bj_ r_ r_ g_ (E_ r_ ?_))))))))))))))))))))
      refine ak_ (ay_ (jq_againS (i := (i, j)) (m + 1, j) ⟨by dsimp only; omega, h2, fun p hp h => ?_, h4⟩ (by dsimp only; omega) ?_ ?_))
      · by_cases hq : p = m
        · subst hq; exact hc'
        · have := List.pairwise_iff_getElem.1 ha p m hp hml (by omega); omega
      · exact sub_end
      · rw [show ((m + 1 : Nat) : Int) = ((i : Int) + (j : Int)) / 2 + 1 by omega]
        (repeat (first | exact True.intro | refine ⟨rfl, ?_⟩))
    · rw [decide_eq_false hc'] at hC
      refine am_ (R_ (M_ r_ (M_ r_ (o_ r_ (bw_ r_ r_ (T_ (aq_ r_ u_ (as_ (al_ (au_ (R_ (M_ r_ (M_ r_ (o_ r_ (bj_ r_ r_ g_ (o_ r_ (ow_convU64 r_ r_ r_ g_ (o_ r_ (ow_shr1 r_ r_ g_ ?_)))))))))))))))))))
      refine o_ r_ (ow_convI64 r_ r_ r_ g_ (E_ r_ (T_ (R_ (M_ r_ (M_ r_ (o_ r_ (ow_indexAddrN m r_ r_ em hmr r_ b_ (o_ r_ (cb_ r_ r_ (M_ r_ (o_ r_ (bm_ r_ (hC) (T_ (ap_ r_ r_ (an_ (M_ r_ (E_ r_ (ak_ ?_)))))))))))))))))))
      refine ay_ (jq_againS (i := (i, j)) (i, m) ⟨by dsimp only; omega, by dsimp only; omega, h3, fun p hp h => ?_⟩ (by dsimp only; omega) ?_ ?_)
      · by_cases hq : p = m
        · subst hq; omega
        · have := List.pairwise_iff_getElem.1 ha m p hml hp (by dsimp only at h; omega); omega
      · exact sub_end
      · rw [← em]
        (repeat (first | exact True.intro | refine ⟨rfl, ?_⟩))
  · have hlt2 : ¬ (i : Int) < (j : Int) := by omega
    have hij : i = j := by omega
    subst hij
    by_cases hi : i < L.length
    · have hi2 : (i : Int) < ((L.map Irow).length : Int) := by omega
      have hir : (L.map Irow)[i]? = some (Irow L[i]) := by rw [List.getElem?_map, List.getElem?_eq_getElem hi]; rfl
      have hN := slNaN_c L[i]
      by_cases he : L[i] = x
      · have hf := bs_find ha h3 hi he
        refine am_ (R_ (M_ r_ (M_ r_ (o_ r_ (bw_ r_ r_ (T_ (ap_ r_ w_ (av_ (ax_ (ax_ (ba_ (al_ (R_ (M_ r_ (M_ r_ (M_ r_ ?_))))))))))))))))
        refine o_ r_ (bw_ r_ r_ (M_ r_ (ah_ r_ u_ b_ (bd_ r_ (ah_ r_ u_ b_ (bd_ r_ (ah_ r_ u_ b_ (ow_indexAddrN i r_ r_ r_ hir r_ b_ (ah_ r_ u_ b_ (cb_ r_ r_ (ah_ r_ u_ b_ (bd_ r_ (ah_ r_ u_ b_ (bn_ r_ r_ (ah_ r_ u_ b_ (bd_ r_ (ai_ r_ u_ b_ (ai_ r_ u_ b_ (ai_ r_ u_ b_ (ai_ r_ u_ b_ (ai_ r_ u_ b_ (ai_ r_ u_ b_ (aj_ r_ b_ ?_)))))))))))))))))))))))
        exact aj_ r_ b_ (ai_ r_ u_ b_ (ah_ r_ u_ b_ (bp_ r_ u_ r_ (o_ r_ (bp_ r_ u_ r_ (E_ r_ (E_ r_ (T_ (ar_ (jq_ret2S rfl rfl rfl (fun K h => h (i, true) ⟨h2, fun _ => hf, fun h => by cases h⟩) sub_end))))))))))
      · have hn := bs_none (x := x) (i := i) h3 (fun p hp h => by have := List.pairwise_iff_getElem.1 ha i p hi hp h; have := h4 i hi (Nat.le_refl _); omega) (fun _ => he)
        refine am_ (R_ (M_ r_ (M_ r_ (o_ r_ (bw_ r_ r_ (T_ (ap_ r_ w_ (av_ (ax_ (ax_ (ba_ (al_ (R_ (M_ r_ (M_ r_ (M_ r_ ?_))))))))))))))))
        refine o_ r_ (bw_ r_ r_ (M_ r_ (ah_ r_ u_ b_ (bd_ r_ (ah_ r_ u_ b_ (bd_ r_ (ah_ r_ u_ b_ (ow_indexAddrN i r_ r_ r_ hir r_ b_ (ah_ r_ u_ b_ (cb_ r_ r_ (ah_ r_ u_ b_ (bd_ r_ (ah_ r_ u_ b_ (bn_ r_ r_ (ah_ r_ u_ b_ (bd_ r_ (ah_ r_ w_ b_ (bd_ r_ (ah_ r_ w_ b_ (bd_ r_ (ah_ r_ w_ b_ (ow_indexAddrN i r_ r_ r_ hir r_ b_ (ah_ r_ w_ b_ (cb_ r_ r_ (ah_ r_ w_ b_ (bm_ r_ (hN) (ah_ r_ w_ b_ (bd_ r_ ?_))))))))))))))))))))))))))))
        exact ai_ r_ r_ b_ (ai_ r_ r_ b_ (ah_ r_ w_ b_ (bv_ r_ r_ r_ (ah_ r_ u_ b_ (bv_ r_ w_ r_ (o_ r_ (bp_ r_ u_ r_ (E_ r_ (E_ r_ (T_ (ar_ (jq_ret2S rfl rfl rfl (fun K h => h (i, false) ⟨h2, fun h => (by cases h), fun _ => hn⟩) sub_end))))))))))))
    · have hi2 : ¬ (i : Int) < ((L.map Irow).length : Int) := by omega
      have hn := bs_none (x := x) (i := i) h3 (fun p hp h => by omega) (fun h => absurd h hi)
      refine am_ (R_ (M_ r_ (M_ r_ (o_ r_ (bw_ r_ r_ (T_ (ap_ r_ w_ (av_ (ax_ (ax_ (ba_ (al_ (R_ (M_ r_ (M_ r_ (M_ r_ ?_))))))))))))))))
      refine o_ r_ (bw_ r_ r_ (M_ r_ (ai_ r_ w_ b_ (ai_ r_ w_ b_ (ai_ r_ w_ b_ (ai_ r_ w_ b_ (ai_ r_ w_ b_ (ai_ r_ w_ b_ (ai_ r_ w_ b_ (aj_ r_ b_ (aj_ r_ b_ (aj_ r_ b_ (aj_ r_ b_ (aj_ r_ b_ (aj_ r_ b_ (aj_ r_ b_ ?_))))))))))))))))
      exact aj_ r_ b_ (aj_ r_ b_ (ai_ r_ w_ b_ (o_ r_ (bv_ r_ w_ r_ (E_ r_ (E_ r_ (T_ (ar_ (jq_ret2S rfl rfl rfl (fun K h => h (i, false) ⟨h2, fun h => (by cases h), fun _ => hn⟩) sub_end)))))))))
theorem idxLp_c (F : FuncId) [FI Try.prog F] (cap : List Value) (hcap : cap.all Value.oneCell' = true) (h1 : Ch) (p : Lp × Int → Bool) (l : List (Lp × Int)) (hp : ∀ x ∈ l, Con Try.prog F (.row (AlRow x) :: capS cap) [h1] (fun K => K (Bl (p x)) [h1])) :
    Con Try.prog 13 [.cell (.list (l.map AlRow)), FC F cap] [h1] (fun K => K (In .i64 (idxOf p l)) [h1]) := by
  refine con_intro Try.func13 rfl rfl (Nat.le_of_ble_eq_true rfl) (fun c hc => R_ (E_ r_ (T_ (am_ (R_ (M_ r_ (o_ r_ (br_ r_ (fun hlen => M_ r_ (T_ (au_ ?_)))))))))))
  refine jc_loopS (ι := Nat) [] (fun k => k ≤ (l).length ∧ (l.take k).any p = false) (fun k => (8, In .i64 (k : Int)) :: [(0, .cell (.list (l.map AlRow))), (1, FC F cap), (7, In .i64 ((l.map AlRow).length : Int))]) (fun k => [h1]) (fun k => (l).length - k) 0 ⟨Nat.zero_le _, rfl⟩ ?_ ?_ ?_
  · exact bc_ 0 r_ sub_end
  · (repeat (first | exact True.intro | refine ⟨rfl, ?_⟩))
  rintro k ⟨hk, hno⟩
  have eLk : ((l).map AlRow).length = (l).length := List.length_map _
  by_cases hltk : k < (l).length
  · have hltk2 : (k : Int) < (((l).map AlRow).length : Int) := by omega
    have hC := hp l[k] (List.getElem_mem hltk)
    cases hb' : p l[k] with
    | true =>
      rw [hb'] at hC
      have hres := idx_some hltk hb' hno
      refine R_ (o_ r_ (bw_ r_ r_ (T_ (am_ (aq_ r_ u_ (as_ (al_ (B_ (R_ (M_ r_ (E_ r_ (T_ (R_ (M_ r_ (M_ r_ (M_ r_ ?_))))))))))))))))
      refine o_ r_ (cc_ r_ r_ g_ r_ r_ b_ (o_ r_ (cr_ r_ r_ r_ (o_ r_ (ow_callc [0] r_ r_ hcap r_ hC (T_ (aq_ r_ r_ (R_ (M_ r_ (E_ r_ (T_ (ar_ (az_ (aw_ (aw_ (az_ (aw_ (jq_ret1S rfl rfl (fun K h => by rw [hres] at h; exact h) ?_))))))))))))))))))
      exact bc_ 0 r_ sub_end
    | false =>
      rw [hb'] at hC
      refine R_ (o_ r_ (bw_ r_ r_ (T_ (am_ (aq_ r_ u_ (as_ (al_ (B_ (R_ (M_ r_ (E_ r_ (T_ (R_ (M_ r_ (M_ r_ (M_ r_ ?_))))))))))))))))
      refine o_ r_ (cc_ r_ r_ g_ r_ r_ b_ (o_ r_ (cr_ r_ r_ r_ (o_ r_ (ow_callc [0] r_ r_ hcap r_ hC (T_ (ap_ r_ r_ (as_ (ay_ (al_ (an_ (o_ r_ (bj_ r_ r_ g_ (M_ r_ (ak_ (jq_againS (i := k) (k + 1) ⟨hltk, any_snoc hltk hno hb'⟩ g_ ?_ ?_))))))))))))))))
      · exact bc_ 0 r_ sub_end
      · (repeat (first | exact True.intro | refine ⟨rfl, ?_⟩))
  · have hltk2 : ¬ (k : Int) < (((l).map AlRow).length : Int) := by omega
    rw [List.take_of_length_le (by omega)] at hno
    have hres := idx_none hno
    exact R_ (o_ r_ (bw_ r_ r_ (T_ (am_ (ap_ r_ w_ (av_ (ax_ (ax_ (ba_ (al_ (R_ (E_ r_ (T_ (ar_ (jq_ret1S rfl rfl (fun K h => by rw [hres] at h; exact h) (bc_ 0 r_ sub_end))))))))))))))))
theorem unroll1_c (b : Nat) (h : Int) (x : Lp × Int) : Con Try.prog 14 (.row (AlRow x) :: capS [PV b]) [.blk b 3 [.val (.int .i64 h)]] (fun K => K (Bl (decide (x.1.hdr = h))) [.blk b 3 [.val (.int .i64 h)]]) := by
  exact con_intro Try.func14 rfl rfl (Nat.le_of_ble_eq_true rfl) (fun c hc => R_ (o_ r_ (ci_ r_ (fun bx => E_ r_ (T_ (R_ (F_ r_ (L_ 0 r_ (L_ 1 r_ (o_ r_ (bn_ r_ r_ (E_ r_ (T_ (ar_ (jq_ret1S rfl rfl (fun K h => h) (bc_ 1 r_ sub_end))))))))))))))))
theorem loopAt_c (b : Nat) (h : Int) (l : List (Lp × Int)) (F : FuncId) [FI Try.prog F] (hF : F = 14) : Con Try.prog 13 [.cell (.list (l.map AlRow)), FC F [PV b]] [.blk b 3 [.val (.int .i64 h)]] (fun K => K (In .i64 (idxOf (fun x => decide (x.1.hdr = h)) l)) [.blk b 3 [.val (.int .i64 h)]]) := by
  subst hF
  exact idxLp_c _ [PV b] rfl _ (fun x => decide (x.1.hdr = h)) l (fun x _ => unroll1_c b h x)
/-- The copy of a block. -/
theorem copied_c (bn bg : Nat) (g : Gh) (nd : List Int) (ha : Asc nd) (hl : nd.length ≤ 1000) (hg : g.blocks.length ≤ 1000) (x : Int) : Con Try.prog 18 (In .i64 x :: capS [PV bn, PV bg]) [.blk bn 33 [.list (nd.map Irow)], .blk bg 28 g.row] (fun K => K (In .i64 (copN g.blocks.length nd x)) [.blk bn 33 [.list (nd.map Irow)], .blk bg 28 g.row]) := by
  have eB : (g.blocks.map Bk.row).length = g.blocks.length := List.length_map _
  have hB := bsearch_c nd x ha (by omega)
  refine con_intro Try.func18 rfl rfl (Nat.le_of_ble_eq_true rfl) (fun c hc => R_ (E_ r_ (T_ (am_ (R_ (L_ 0 r_ (M_ r_ (o_ r_ (bt_ [] rfl rfl hB (fun pp hpp => M_ r_ (X_ r_ (X_ r_ (E_ r_ (E_ r_ (T_ (R_ ?_))))))))))))))))
  refine M_ r_ (T_ ?_)
  obtain ⟨i, f⟩ := pp
  obtain ⟨h1, h2, h3⟩ := hpp
  dsimp only at h1 h2 h3 ⊢
  cases f with
  | true =>
    obtain ⟨hm, hi⟩ := h2 rfl
    have hres : copN g.blocks.length nd x = ((g.blocks.map Bk.row).length : Int) + (i : Int) := by unfold copN; rw [if_pos hm, hi, eB]
    exact aq_ r_ r_ (R_ (F_ r_ (L_ 1 r_ (o_ r_ (br_ r_ (fun hlen => M_ r_ (o_ r_ (bj_ r_ r_ g_ (E_ r_ (T_ (ar_ (aw_ (jq_ret1S rfl rfl (fun K h => by rw [hres] at h; exact h) (bc_ 0 r_ (bc_ 0 r_ sub_end)))))))))))))))
  | false =>
    have hres : copN g.blocks.length nd x = x := cop_out (h3 rfl)
    exact ap_ r_ r_ (as_ (al_ (R_ (M_ r_ (E_ r_ (T_ (ar_ (jq_ret1S rfl rfl (fun K h => by rw [hres] at h; exact h) (bc_ 0 r_ (bc_ 0 r_ sub_end))))))))))
/-- How many operations some blocks have. -/
theorem opsAt_step {B : List Bk} {nd : List Int} {k : Nat} (h : k < nd.length) : opsAt B (nd.take (k + 1)) = opsAt B (nd.take k) + (bkAt B nd[k]).ops.length := by
  unfold opsAt
  rw [List.take_succ_eq_append_getElem h, List.map_append, List.sum_append]
  simp
theorem opsAt_le {B : List Bk} {M : Nat} (hB : ∀ b, (bkAt B b).ops.length ≤ M) : ∀ nd : List Int, opsAt B nd ≤ nd.length * M
  | [] => by simp [opsAt]
  | x :: nd => by
    have h1 := opsAt_le hB nd
    have h2 := hB x
    unfold opsAt at h1 ⊢
    rw [List.map_cons, List.sum_cons, List.length_cons, Nat.add_mul]
    omega
theorem bkAt_ops (B : List Bk) (b : Int) : (bkAt B b).ops.length ≤ nOps B := by
  unfold bkAt
  by_cases h : b.toNat < B.length
  · rw [List.getElem?_eq_getElem h]
    have := sum_mem (f := fun b : Bk => b.ops.length) (List.getElem_mem h)
    exact this
  · rw [List.getElem?_eq_none (by omega)]
    exact Nat.zero_le _
theorem opsOf_c (g : Gh) (nd : List Int) (ho : nOps g.blocks ≤ 1000) (hl : nd.length ≤ 1000) (hb : ∀ x ∈ nd, 0 ≤ x ∧ x < (g.blocks.length : Int)) : Con Try.prog 15 [.row g.row, .cell (.list (nd.map Irow))] [] (fun K => K (In .i64 (opsAt g.blocks nd : Nat)) []) := by
  have eB : (g.blocks.map Bk.row).length = g.blocks.length := List.length_map _
  refine con_intro Try.func15 rfl rfl (Nat.le_of_ble_eq_true rfl) (fun c hc => R_ (o_ r_ (ci_ r_ (fun bx => E_ r_ (T_ (R_ (E_ r_ (T_ (am_ (R_ (M_ r_ (o_ r_ (br_ r_ (fun hlen => M_ r_ (T_ (au_ ?_))))))))))))))))
  refine jc_loopS (ι := Nat) [] (fun k => k ≤ (nd).length) (fun k => (10, In .i64 (k : Int)) :: [(8, .cell (.list (nd.map Irow))), (9, In .i64 ((nd.map Irow).length : Int)), (5, In .i64 (opsAt g.blocks (nd.take k) : Nat)), (2, Ptr bx)]) (fun k => [.blk bx 28 g.row]) (fun k => (nd).length - k) 0 (Nat.zero_le _) ?_ ?_ ?_
  · exact bc_ 0 r_ sub_end
  · (repeat (first | exact True.intro | refine ⟨rfl, ?_⟩))
  rintro k hk
  have eLk : ((nd).map Irow).length = (nd).length := List.length_map _
  by_cases hltk : k < (nd).length
  · have hltk2 : (k : Int) < (((nd).map Irow).length : Int) := by omega
    have hx := hb nd[k] (List.getElem_mem hltk)
    have hle := opsAt_le (bkAt_ops g.blocks) (nd.take k)
    have hle2 : (nd.take k).length * nOps g.blocks ≤ 1000 * 1000 := Nat.mul_le_mul (by rw [List.length_take]; omega) ho
    have hbo := bkAt_ops g.blocks nd[k]
    have hst := opsAt_step (B := g.blocks) hltk
    have hxl : (nd[k]).toNat < g.blocks.length := by omega
    have hba : bkAt g.blocks nd[k] = g.blocks[(nd[k]).toNat] := by unfold bkAt; rw [List.getElem?_eq_getElem hxl]; rfl
    rw [hba] at hst hbo
    have hbr : (g.blocks.map Bk.row)[(nd[k]).toNat]? = some (Bk.row g.blocks[(nd[k]).toNat]) := by rw [List.getElem?_map, List.getElem?_eq_getElem hxl]; rfl
    have eO : ((g.blocks[(nd[k]).toNat]).ops.map Opx.row).length = (g.blocks[(nd[k]).toNat]).ops.length := List.length_map _
    have hkr : (nd.map Irow)[k]? = some (Irow nd[k]) := by rw [List.getElem?_map, List.getElem?_eq_getElem hltk]; rfl
    refine R_ (o_ r_ (bw_ r_ r_ (T_ (am_ (aq_ r_ u_ (as_ (al_ (B_ (R_ (o_ r_ (ow_indexAddrN k r_ r_ r_ hkr r_ b_ (o_ r_ (cb_ r_ r_ (E_ r_ (T_ (an_ (M_ r_ (F_ r_ ?_))))))))))))))))))
    refine L_ 0 r_ (M_ r_ (o_ r_ (ow_indexAddrN (nd[k]).toNat r_ r_ g_ hbr r_ b_ (o_ r_ (cf_ r_ r_ r_ b_ r_ b_ (o_ r_ (cb_ r_ r_ (o_ r_ (br_ r_ (fun hlen => o_ r_ (bj_ r_ r_ g_ (E_ r_ (ak_ (ay_ (al_ (an_ (o_ r_ (bj_ r_ r_ g_ (M_ r_ (ak_ (jq_againS (i := k) (k + 1) hltk g_ ?_ ?_)))))))))))))))))))))
    · exact bc_ 0 r_ sub_end
    · rw [hst, show ((opsAt g.blocks (nd.take k) + (g.blocks[(nd[k]).toNat]).ops.length : Nat) : Int) = (opsAt g.blocks (nd.take k) : Int) + (((g.blocks[(nd[k]).toNat]).ops.map Opx.row).length : Int) by omega]
      (repeat (first | exact True.intro | refine ⟨rfl, ?_⟩))
  · have hltk2 : ¬ (k : Int) < (((nd).map Irow).length : Int) := by omega
    rw [List.take_of_length_le (by omega)]
    exact R_ (o_ r_ (bw_ r_ r_ (T_ (am_ (ap_ r_ w_ (av_ (ax_ (ax_ (ba_ (al_ (R_ (M_ r_ (E_ r_ (T_ (ar_ (jq_ret1S rfl rfl (fun K h => h) sub_end))))))))))))))))
end Go.Proofs.Ytpolnonbgaolkaa
end

section
namespace Go.Proofs.Ytpolnonbgaolkaa
open Go.Vc
attribute [local irreducible] JL JC JQ OpWp Con ConN HOk
set_option maxHeartbeats 4000000

abbrev CFn (F : FuncId) : S := .cell (.val (.func (.func F) #[] #[]))
abbrev OwH (V : Value) (H : List Hd) : Ch := .own V 42 2 (H.map HdRow)
structure HdO (H : List Hd) : Prop where
  asc : ∀ p q (hp : p < H.length) (hq : q < H.length), p < q → H[p].1 < H[q].1
  bnd : ∀ p (hp : p < H.length), 0 ≤ H[p].1 ∧ H[p].1 ≤ 1000
  len : H.length ≤ 255
theorem HdO.le {H : List Hd} (h : HdO H) {p q : Nat} (hp : p < H.length) (hq : q < H.length) (hpq : p ≤ q) : H[p].1 ≤ H[q].1 := by
  rcases Nat.lt_or_eq_of_le hpq with h1 | h1
  · have := h.asc p q hp hq h1; omega
  · subst h1; omega
theorem hmap_at {H : List Hd} {i : Nat} (h : i < H.length) : (H.map HdRow)[i]? = some (HdRow H[i]) := by
  rw [List.getElem?_map, List.getElem?_eq_getElem h]
  rfl
/-- What is asked of the function that compares. -/
def CmpH (F : FuncId) : Prop := ∀ x y : Hd, (0 ≤ x.1 ∧ x.1 ≤ 1000) → (0 ≤ y.1 ∧ y.1 ≤ 1000) → Con Try.prog F [.row (HdRow x), .row (HdRow y)] [] (fun K => K (In .i64 (x.1 - y.1)) [])
theorem unroll3_c : CmpH 22 := by
  intro x y hx hy
  refine con_intro Try.func22 rfl rfl (Nat.le_of_ble_eq_true rfl) (fun c hc => R_ (o_ r_ (ci_ r_ (fun bx => o_ r_ (ci_ r_ (fun bx => E_ r_ (T_ (R_ (F_ r_ (L_ 1 r_ (F_ r_ (L_ 0 r_ (o_ r_ (cg_ r_ r_ g_ (E_ r_ (T_ (ar_ (jq_ret1 rfl rfl [] rfl (fun K h => h)))))))))))))))))))
/-- A table of lengths. -/
def tabB (s : ByteArray) : Bool := decide (s.size = 256) && (List.range 256).all fun i => decide (0 ≤ byteAt s i) && decide (byteAt s i ≤ 8) && (decide (i = 0) || decide (1 ≤ byteAt s i))
theorem ow_indexT {P : Program} [Gl P] {nt : Nat} {c : Cx P nt} {env : Env} {H : List Ch} {K : S → List Ch → Prop} {d : Option Tmp} {ty t : TypeId} {pos : String} {af : Array Edge} {g : Option (Nat × Bool)} {x y : Operand} [TI P t] (ht : TI.u P t = .string) {s : ByteArray} {k : IntKind} {n : Nat}
    (hx : env.ev x = some (Str s)) (hy : env.ev y = some (In k (n : Int))) (hn : n < 256) (hT : tabB s = true) (hK : ∀ m : Int, 0 ≤ m ∧ m ≤ 8 ∧ (1 ≤ n → 1 ≤ m) → K (In .u8 m) H) : OpWp c ⟨d, .index t x y, ty, pos, af, g⟩ env H K := by
  unfold tabB at hT
  rw [Bool.and_eq_true, decide_eq_true_eq] at hT
  have h1 := List.all_eq_true.1 hT.2 n (List.mem_range.2 hn)
  simp only [Bool.and_eq_true, Bool.or_eq_true, decide_eq_true_eq] at h1
  refine ow_indexStr ht hx hy g_ (by rw [Int.toNat_natCast]; omega) ?_
  rw [Int.toNat_natCast]
  exact hK _ ⟨h1.1.1, h1.1.2, fun h => h1.2.resolve_left g_⟩
theorem bitsLen64_c (n : Nat) (hn : n ≤ 255) : Con Try.prog 72 [In .u64 (n : Int)] [] (fun K => ∀ m : Int, 0 ≤ m ∧ m ≤ 8 ∧ (1 ≤ n → 1 ≤ m) → K (In .i64 m) []) := by
  have c1 : ¬ (n : Int) ≥ 4294967296 := by omega
  have c2 : ¬ (n : Int) ≥ 65536 := by omega
  have c3 : ¬ (n : Int) ≥ 256 := by omega
  refine con_intro Try.func72 rfl rfl (Nat.le_of_ble_eq_true rfl) (fun c hc => R_ (E_ r_ (T_ (am_ (R_ (M_ r_ (o_ r_ (cn_ r_ r_ (T_ (ap_ r_ w_ (as_ (al_ (am_ (R_ (M_ r_ (o_ r_ (cn_ r_ r_ ?_)))))))))))))))))
  refine T_ (ap_ r_ w_ (as_ (al_ (am_ (R_ (M_ r_ (o_ r_ (cn_ r_ r_ (T_ (ap_ r_ w_ (as_ (al_ (R_ (M_ r_ (M_ r_ (o_ r_ (ow_convU8 r_ r_ r_ g_ ?_)))))))))))))))))
  refine o_ r_ (ow_indexT rfl rfl rfl g_ k_ (fun m hm => o_ r_ (ow_convI64 r_ r_ r_ g_ (o_ r_ (bj_ r_ r_ g_ (E_ r_ (T_ (ar_ (jq_ret1 rfl rfl [] rfl (fun K h => by rw [Int.zero_add]; exact h m hm))))))))))
theorem bitsLen_c (n : Nat) (hn : n ≤ 255) : Con Try.prog 44 [In .u64 (n : Int)] [] (fun K => ∀ m : Int, 0 ≤ m ∧ m ≤ 8 ∧ (1 ≤ n → 1 ≤ m) → K (In .i64 m) []) := by
  have hL := bitsLen64_c n hn
  refine con_intro Try.func44 rfl rfl (Nat.le_of_ble_eq_true rfl) (fun c hc => R_ (E_ r_ (T_ (am_ (ap_ r_ r_ (as_ (al_ (R_ (M_ r_ (o_ r_ (bt_ [] rfl rfl hL (fun m hm => E_ r_ (T_ (ar_ (jq_ret1 rfl rfl [] rfl (fun K h => h m hm))))))))))))))))
section
variable (F : FuncId) [FI Try.prog F] (hF : CmpH F)
include hF
theorem insHd_c (V : Value) (H : List Hd) (ho : HdO H) (a b : Nat) (hab : a ≤ b) (hb : b ≤ H.length) : Con Try.prog 63 [.cell (.val V), In .i64 (a : Int), In .i64 (b : Int), CFn F] [OwH V H] (fun K => K (.tup []) [OwH V H]) := by
  have hl := ho.len
  refine con_intro Try.func63 rfl rfl (Nat.le_of_ble_eq_true rfl) (fun c hc => R_ (M_ r_ (o_ r_ (bj_ r_ r_ g_ (E_ r_ (T_ (au_ (jc_loopS (ι := Nat) [] (fun i => a + 1 ≤ i ∧ i ≤ max (a + 1) b) (fun i => [(8, In .i64 (i : Int)), (0, .cell (.val V)), (1, In .i64 (a : Int)), (2, In .i64 (b : Int)), (3, CFn F)]) (fun _ => [OwH V H]) (fun i => b - i) (a + 1) ⟨Nat.le_refl _, by omega⟩ ?_ ?_ ?_))))))))
  · exact bc_ 0 r_ sub_end
  · rw [show ((a + 1 : Nat) : Int) = (a : Int) + 1 by omega]
    (repeat (first | exact True.intro | refine ⟨rfl, ?_⟩))
  rintro i ⟨h1, h2⟩
  by_cases hlt : i < b
  · have hlt2 : (i : Int) < (b : Int) := by omega
    have hi : i < H.length := by omega
    have hi1 : i - 1 < H.length := by omega
    have hj : (i : Int) > (a : Int) := by omega
    have hC := hF H[i] H[i - 1] (ho.bnd _ _) (ho.bnd _ _)
    have hq := ho.asc (i - 1) i hi1 hi (by omega)
    have hneg : ¬ H[i].1 - H[i - 1].1 < 0 := by omega
    refine am_ (R_ (M_ r_ (M_ r_ (o_ r_ (bw_ r_ r_ (T_ (aq_ r_ u_ (as_ (al_ (B_ (R_ (M_ r_ (E_ r_ (T_ (au_ (jc_loopS (ι := Unit) [] (fun _ => True) (fun _ => [(9, In .i64 (i : Int)), (8, In .i64 (i : Int)), (0, .cell (.val V)), (1, In .i64 (a : Int)), (2, In .i64 (b : Int)), (3, CFn F)]) (fun _ => [OwH V H]) (fun _ => 0) () trivial ?_ ?_ ?_))))))))))))))))
    · exact bc_ 0 r_ sub_end
    · (repeat (first | exact True.intro | refine ⟨rfl, ?_⟩))
    intro _ _
    refine am_ (am_ (ao_ r_ r_ k_ k_ (yM_ r_ (yM_ r_ (aa_ (fun c => bz_ r_ r_ p_) (yM_ r_ (ab_ r_ u_ (fun c => bd_ r_ p_) (ab_ r_ u_ (fun c => bd_ r_ p_) (ab_ r_ u_ (fun c => bd_ r_ p_) (ab_ rfl u_ (fun c => ow_indexOwnE 0 (i) rfl rfl rfl g_ (by rw [List.length_map] ; omega) rfl p_) (ab_ r_ u_ (fun c => ow_loadInnN 0 (i) r_ r_ r_ r_ (hmap_at hi) r_ p_) (ab_ r_ u_ (fun c => bd_ r_ p_) ?_))))))))))))
    refine ab_ r_ u_ (fun c => bd_ r_ p_) (ab_ r_ u_ (fun c => cg_ r_ r_ g_ p_) (ab_ rfl u_ (fun c => ow_indexOwnE 0 (i - 1) rfl rfl rfl g_ (by rw [List.length_map] ; omega) rfl p_) (ab_ r_ u_ (fun c => ow_loadInnN 0 (i - 1) r_ r_ r_ r_ (hmap_at hi1) r_ p_) (ab_ r_ u_ (fun c => ow_callv0 r_ r_ (hC) p_) (ab_ r_ u_ (fun c => bw_ r_ r_ p_) (aa_ (fun c => bp_ r_ u_ r_ p_) (ae_ (al_ (ap_ r_ w_ (av_ (ax_ (ax_ (ba_ ?_)))))))))))))
    refine ay_ (al_ (an_ (M_ r_ (o_ r_ (bj_ r_ r_ g_ (E_ r_ (ak_ (jq_againS (i := i) (i + 1) ⟨by omega, by omega⟩ g_ ?_ ?_))))))))
    · exact bc_ 0 r_ sub_end
    · (repeat (first | exact True.intro | refine ⟨rfl, ?_⟩))
  · have hlt2 : ¬ (i : Int) < (b : Int) := by omega
    refine am_ (R_ (M_ r_ (M_ r_ (o_ r_ (bw_ r_ r_ (T_ (ap_ r_ w_ (av_ (ax_ (ax_ (ba_ (jq_retG (ss := []) (.inr rfl) rfl (is := [0]) rfl (fun K h => h)))))))))))))
theorem order2Hd_c (V : Value) (H : List Hd) (ho : HdO H) (a b bs : Nat) (hab : a ≤ b) (hb : b < H.length) : Con Try.prog 98 [.cell (.val V), In .i64 (a : Int), In .i64 (b : Int), Ptr bs, CFn F] [OwH V H, .blk bs 3 [.val (.int .i64 0)]] (fun K => K (.tup [In .i64 (a : Int), In .i64 (b : Int)]) [OwH V H, .blk bs 3 [.val (.int .i64 0)]]) := by
  have hl := ho.len
  have ha : a < H.length := by omega
  have hC := hF H[b] H[a] (ho.bnd _ _) (ho.bnd _ _)
  have hq := ho.le ha hb hab
  have hneg : ¬ H[b].1 - H[a].1 < 0 := by omega
  refine con_intro Try.func98 rfl rfl (Nat.le_of_ble_eq_true rfl) (fun c hc => R_ (E_ r_ (E_ r_ (T_ (am_ (am_ (ao_ r_ r_ k_ k_ (yM_ r_ (yM_ r_ (yM_ r_ (aa_ (fun c => ow_indexOwnE 0 (b) rfl rfl rfl g_ (by rw [List.length_map] ; omega) rfl p_) (aa_ (fun c => ow_loadInnN 0 (b) r_ r_ r_ r_ (hmap_at hb) r_ p_) (yM_ r_ (yM_ r_ ?_))))))))))))))
  refine aa_ (fun c => ow_indexOwnE 0 (a) rfl rfl rfl g_ (by rw [List.length_map] ; omega) rfl p_) (aa_ (fun c => ow_loadInnN 0 (a) r_ r_ r_ r_ (hmap_at ha) r_ p_) (aa_ (fun c => ow_callv0 r_ r_ (hC) p_) (aa_ (fun c => bw_ r_ r_ p_) (ae_ (al_ (ap_ r_ w_ (as_ (al_ (R_ (M_ r_ (M_ r_ (E_ r_ (E_ r_ (T_ (ar_ ?_)))))))))))))))
  exact jq_ret2S rfl rfl rfl (fun K h => h) (bc_ 0 r_ (bc_ 0 r_ sub_end))
theorem medianHd_c (V : Value) (H : List Hd) (ho : HdO H) (a b d bs : Nat) (hab : a ≤ b) (hbd : b ≤ d) (hd : d < H.length) : Con Try.prog 90 [.cell (.val V), In .i64 (a : Int), In .i64 (b : Int), In .i64 (d : Int), Ptr bs, CFn F] [OwH V H, .blk bs 3 [.val (.int .i64 0)]] (fun K => K (In .i64 (b : Int)) [OwH V H, .blk bs 3 [.val (.int .i64 0)]]) := by
  have c1 := order2Hd_c F hF V H ho a b bs hab (by omega)
  have c2 := order2Hd_c F hF V H ho b d bs hbd hd
  refine con_intro Try.func90 rfl rfl (Nat.le_of_ble_eq_true rfl) (fun c hc => R_ (E_ r_ (T_ (R_ (M_ r_ (M_ r_ (M_ r_ (M_ r_ (M_ r_ (o_ r_ (bi_ [0, 0] r_ r_ (c1) (M_ r_ (X_ r_ (X_ r_ (E_ r_ (E_ r_ ?_))))))))))))))))
  refine T_ (R_ (M_ r_ (M_ r_ (M_ r_ (M_ r_ (M_ r_ (o_ r_ (bi_ [0, 0] r_ r_ (c2) (M_ r_ (X_ r_ (X_ r_ (E_ r_ (E_ r_ (T_ (R_ (M_ r_ ?_))))))))))))))))
  refine M_ r_ (M_ r_ (M_ r_ (M_ r_ (o_ r_ (bi_ [0, 0] r_ r_ (c1) (M_ r_ (X_ r_ (X_ r_ (E_ r_ (E_ r_ (T_ (R_ (M_ r_ (E_ r_ (T_ (ar_ ?_))))))))))))))))
  exact jq_ret1S rfl rfl (fun K h => h) (bc_ 0 r_ (bc_ 0 r_ sub_end))
theorem medAdjHd_c (V : Value) (H : List Hd) (ho : HdO H) (a bs : Nat) (h1 : 1 ≤ a) (ha : a + 1 < H.length) : Con Try.prog 89 [.cell (.val V), In .i64 (a : Int), Ptr bs, CFn F] [OwH V H, .blk bs 3 [.val (.int .i64 0)]] (fun K => K (In .i64 (a : Int)) [OwH V H, .blk bs 3 [.val (.int .i64 0)]]) := by
  have hl := ho.len
  have c1 := medianHd_c F hF V H ho (a - 1) a (a + 1) bs (by omega) (by omega) ha
  rw [show ((a - 1 : Nat) : Int) = (a : Int) - 1 by omega, show ((a + 1 : Nat) : Int) = (a : Int) + 1 by omega] at c1
  refine con_intro Try.func89 rfl rfl (Nat.le_of_ble_eq_true rfl) (fun c hc => R_ (E_ r_ (T_ (R_ (M_ r_ (M_ r_ (o_ r_ (cg_ r_ r_ g_ (M_ r_ (M_ r_ (o_ r_ (bj_ r_ r_ g_ (M_ r_ (M_ r_ (o_ r_ (bi_ [0, 0] r_ r_ (c1) (E_ r_ (T_ ?_))))))))))))))))))
  exact ar_ (jq_ret1S rfl rfl (fun K h => h) (bc_ 0 r_ (bc_ 0 r_ sub_end)))
theorem pivotHd_c (V : Value) (H : List Hd) (ho : HdO H) (h8 : 12 < H.length) : Con Try.prog 66 [.cell (.val V), In .i64 0, In .i64 (H.length : Int), CFn F] [OwH V H] (fun K => ∀ j : Int, True → K (.tup [In .i64 j, In .i64 1]) [OwH V H]) := by
  have hl := ho.len
  obtain ⟨q, hq⟩ : ∃ q : Nat, q = H.length / 4 := ⟨_, rfl⟩
  have e1 : 0 + ((H.length : Int) - 0) / 4 * 1 = (q : Int) := by omega
  have e2 : 0 + ((H.length : Int) - 0) / 4 * 2 = ((2 * q : Nat) : Int) := by omega
  have e3 : 0 + ((H.length : Int) - 0) / 4 * 3 = ((3 * q : Nat) : Int) := by omega
  have e8 : (H.length : Int) - 0 ≥ 8 := by omega
  refine con_intro Try.func66 rfl rfl (Nat.le_of_ble_eq_true rfl) (fun c hc => R_ (E_ r_ (E_ r_ (T_ (R_ (M_ r_ (M_ r_ (o_ r_ (cg_ r_ r_ g_ (E_ r_ (T_ (R_ (o_ r_ (bl_ rfl rfl (fun bs => T_ (R_ (M_ r_ ?_)))))))))))))))))
  refine M_ r_ (o_ r_ (ow_quo64 r_ r_ g_ g_ (o_ r_ (cz_ r_ r_ g_ (o_ r_ (bj_ r_ r_ g_ (E_ r_ (T_ (R_ (M_ r_ (M_ r_ (o_ r_ (ow_quo64 r_ r_ g_ g_ (o_ r_ (cz_ r_ r_ g_ (o_ r_ (bj_ r_ r_ g_ (E_ r_ (T_ (R_ (M_ r_ ?_)))))))))))))))))))))
  refine M_ r_ (o_ r_ (ow_quo64 r_ r_ g_ g_ (o_ r_ (cz_ r_ r_ g_ (o_ r_ (bj_ r_ r_ g_ (E_ r_ (T_ (am_ (am_ ?_))))))))))
  have cm := medianHd_c F hF V H ho q (2 * q) (3 * q) bs (by omega) (by omega) (by omega)
  have cA := medAdjHd_c F hF V H ho q bs (by omega) (by omega)
  have cB := medAdjHd_c F hF V H ho (2 * q) bs (by omega) (by omega)
  have cC := medAdjHd_c F hF V H ho (3 * q) bs (by omega) (by omega)
  rw [e1, e2, e3]
  have d0 : (0 : Int) = 0 := rfl
  by_cases h50 : (H.length : Int) - 0 ≥ 50
  · refine an_ (M_ r_ (o_ r_ (cn_ r_ r_ (T_ (aq_ r_ u_ (am_ (R_ (M_ r_ (o_ r_ (cn_ r_ r_ (T_ (aq_ r_ u_ (R_ (M_ r_ (M_ r_ (M_ r_ (o_ r_ (bi_ [1, 0] r_ r_ (cA) ?_))))))))))))))))))
    refine E_ r_ (T_ (R_ (M_ r_ (M_ r_ (M_ r_ (o_ r_ (bi_ [0, 0] r_ r_ (cB) (E_ r_ (T_ (an_ (M_ r_ (M_ r_ (M_ r_ (o_ r_ (bi_ [0, 0] r_ r_ (cC) (E_ r_ (T_ ?_)))))))))))))))))
    refine an_ (M_ r_ (M_ r_ (M_ r_ (M_ r_ (M_ r_ (o_ r_ (bi_ [0, 0] r_ r_ (cm) (E_ r_ (T_ (R_ (L_ 1 r_ (T_ (au_ (R_ (o_ r_ (bn_ r_ r_ (E_ r_ ?_)))))))))))))))))
    exact T_ (aq_ r_ x_ (R_ (M_ r_ (E_ r_ (E_ r_ (T_ (ar_ (az_ (jq_ret2S rfl rfl rfl (fun K h => h _ trivial) (bc_ 0 r_ sub_end))))))))))
  · refine an_ (M_ r_ (o_ r_ (cn_ r_ r_ (T_ (aq_ r_ u_ (am_ (R_ (M_ r_ (o_ r_ (cn_ r_ r_ (T_ (ap_ r_ w_ (as_ (al_ (an_ (M_ r_ (M_ r_ ?_)))))))))))))))))
    refine M_ r_ (M_ r_ (M_ r_ (o_ r_ (bi_ [1, 0] r_ r_ (cm) (E_ r_ (T_ (R_ (L_ 1 r_ (T_ (au_ (R_ (o_ r_ (bn_ r_ r_ (E_ r_ (T_ (aq_ r_ x_ (R_ ?_)))))))))))))))))
    exact M_ r_ (E_ r_ (E_ r_ (T_ (ar_ (az_ (jq_ret2S rfl rfl rfl (fun K h => h _ trivial) (bc_ 0 r_ sub_end)))))))
theorem partHd_c (V : Value) (H : List Hd) (ho : HdO H) (h8 : 12 < H.length) : Con Try.prog 68 [.cell (.val V), In .i64 0, In .i64 (H.length : Int), CFn F] [OwH V H] (fun K => K (Bl true) [OwH V H]) := by
  have hl := ho.len
  refine con_intro Try.func68 rfl rfl (Nat.le_of_ble_eq_true rfl) (fun c hc => R_ (E_ r_ (T_ (R_ (M_ r_ (o_ r_ (bj_ r_ r_ g_ (E_ r_ (T_ (am_ (R_ (E_ r_ (T_ (au_ (jc_loopS (ι := Unit) [] (fun _ => True) (fun _ => [(10, In .i64 0), (9, In .i64 ((1 : Nat) : Int)), (0, .cell (.val V)), (1, In .i64 0), (2, In .i64 (H.length : Int)), (3, CFn F)]) (fun _ => [OwH V H]) (fun _ => 0) () trivial ?_ ?_ ?_)))))))))))))))
  · exact bc_ 0 r_ sub_end
  · (repeat (first | exact True.intro | refine ⟨rfl, ?_⟩))
  intro _ _
  refine am_ (R_ (M_ r_ (o_ r_ (bw_ r_ r_ (T_ (aq_ r_ r_ (as_ (al_ (B_ (B_ (jc_loopS (ι := Nat) [] (fun i => 1 ≤ i ∧ i ≤ H.length) (fun i => [(9, In .i64 (i : Int)), (10, In .i64 0), (0, .cell (.val V)), (1, In .i64 0), (2, In .i64 (H.length : Int)), (3, CFn F)]) (fun _ => [OwH V H]) (fun i => H.length - i) 1 ⟨Nat.le_refl _, by omega⟩ ?_ ?_ ?_)))))))))))
  · exact bc_ 0 r_ sub_end
  · (repeat (first | exact True.intro | refine ⟨rfl, ?_⟩))
  rintro i ⟨h1, h2⟩
  by_cases hi : i < H.length
  · have hlt2 : (i : Int) < (H.length : Int) := by omega
    have hi1 : i - 1 < H.length := by omega
    have hC := hF H[i] H[i - 1] (ho.bnd _ _) (ho.bnd _ _)
    have hq := ho.asc (i - 1) i hi1 hi (by omega)
    have hneg : ¬ H[i].1 - H[i - 1].1 < 0 := by omega
    refine am_ (am_ (ao_ r_ r_ k_ k_ (yM_ r_ (yM_ r_ (aa_ (fun c => bw_ r_ r_ p_) (yM_ r_ (ab_ r_ u_ (fun c => bd_ r_ p_) (ab_ r_ u_ (fun c => bd_ r_ p_) (ab_ r_ u_ (fun c => bd_ r_ p_) (ab_ rfl u_ (fun c => ow_indexOwnE 0 (i) rfl rfl rfl g_ (by rw [List.length_map] ; omega) rfl p_) (ab_ r_ u_ (fun c => ow_loadInnN 0 (i) r_ r_ r_ r_ (hmap_at hi) r_ p_) (ab_ r_ u_ (fun c => bd_ r_ p_) ?_))))))))))))
    refine ab_ r_ u_ (fun c => bd_ r_ p_) (ab_ r_ u_ (fun c => cg_ r_ r_ g_ p_) (ab_ rfl u_ (fun c => ow_indexOwnE 0 (i - 1) rfl rfl rfl g_ (by rw [List.length_map] ; omega) rfl p_) (ab_ r_ u_ (fun c => ow_loadInnN 0 (i - 1) r_ r_ r_ r_ (hmap_at hi1) r_ p_) (ab_ r_ u_ (fun c => ow_callv0 r_ r_ (hC) p_) (ab_ r_ u_ (fun c => bw_ r_ r_ p_) (ab_ r_ u_ (fun c => ce_ r_ p_) (aa_ (fun c => bp_ r_ u_ r_ p_) (ae_ (al_ ?_)))))))))
    refine aq_ r_ u_ (as_ (al_ (au_ (an_ (M_ r_ (o_ r_ (bj_ r_ r_ g_ (E_ r_ (ak_ (ay_ (jq_againS (i := i) (i + 1) ⟨by omega, by omega⟩ g_ ?_ ?_)))))))))))
    · exact bc_ 0 r_ sub_end
    · (repeat (first | exact True.intro | refine ⟨rfl, ?_⟩))
  · have hlt2 : ¬ (i : Int) < (H.length : Int) := by omega
    have hie : (i : Int) = (H.length : Int) := by omega
    refine am_ (am_ (ao_ r_ r_ k_ k_ (yM_ r_ (yM_ r_ (aa_ (fun c => bw_ r_ r_ p_) (yM_ r_ (ac_ r_ w_ (ac_ r_ w_ (ac_ r_ w_ (ac_ r_ w_ (ac_ r_ w_ (ac_ r_ w_ (ac_ r_ w_ (ac_ r_ w_ (ac_ r_ w_ ?_)))))))))))))))
    refine ac_ r_ w_ (ac_ r_ w_ (ac_ r_ w_ (ac_ r_ w_ (aa_ (fun c => bv_ r_ w_ r_ p_) (ae_ (al_ (ap_ r_ r_ (av_ (ax_ (ax_ (ba_ (al_ (am_ (R_ (M_ r_ ?_)))))))))))))))
    exact M_ r_ (o_ r_ (bn_ r_ r_ (T_ (aq_ r_ u_ (R_ (E_ r_ (T_ (ar_ (aw_ (az_ (aw_ (aw_ (az_ (aw_ (jq_ret1S rfl rfl (fun K h => h) (bc_ 0 r_ sub_end))))))))))))))))
theorem pdqHd_c (V : Value) (H : List Hd) (ho : HdO H) (m : Int) (hm : 1 ≤ H.length → 1 ≤ m) : Con Try.prog 43 [.cell (.val V), In .i64 0, In .i64 (H.length : Int), In .i64 m, CFn F] [OwH V H] (fun K => K (.tup []) [OwH V H]) := by
  have hl := ho.len
  have cI := insHd_c F hF V H ho 0 H.length (Nat.zero_le _) (Nat.le_refl _)
  refine con_intro Try.func43 rfl rfl (Nat.le_of_ble_eq_true rfl) (fun c hc => R_ (E_ r_ (T_ (R_ (E_ r_ (T_ (au_ (jc_loopS (ι := Unit) [] (fun _ => True) (fun _ => [(10, Bl true), (11, Bl true), (0, .cell (.val V)), (1, In .i64 0), (2, In .i64 (H.length : Int)), (3, In .i64 m), (4, CFn F)]) (fun _ => [OwH V H]) (fun _ => 0) () trivial ?_ ?_ ?_))))))))
  · exact bc_ 0 r_ sub_end
  · (repeat (first | exact True.intro | refine ⟨rfl, ?_⟩))
  intro _ _
  by_cases h12 : (H.length : Int) - 0 ≤ 12
  · refine au_ (R_ (M_ r_ (M_ r_ (o_ r_ (cg_ r_ r_ g_ (E_ r_ (T_ (am_ (R_ (M_ r_ (o_ r_ (cu_ r_ r_ (T_ (aq_ r_ u_ (R_ (M_ r_ (M_ r_ ?_)))))))))))))))))
    refine M_ r_ (M_ r_ (o_ r_ (bi_ [0] r_ r_ (cI) (T_ (ar_ (aw_ (az_ (aw_ (az_ (jq_retG (ss := []) (.inl rfl) rfl (is := [0]) rfl (fun K h => h)))))))))))
  · have cP := pivotHd_c F hF V H ho (by omega)
    have cQ := partHd_c F hF V H ho (by omega)
    have hm1 := hm (by omega)
    have hm0 : ¬ m = 0 := by omega
    refine au_ (R_ (M_ r_ (M_ r_ (o_ r_ (cg_ r_ r_ g_ (E_ r_ (T_ (am_ (R_ (M_ r_ (o_ r_ (cu_ r_ r_ (T_ (ap_ r_ w_ (as_ (al_ (am_ ?_)))))))))))))))))
    refine R_ (M_ r_ (o_ r_ (bn_ r_ r_ (T_ (ap_ r_ w_ (as_ (al_ (am_ (R_ (M_ r_ (o_ r_ (cd_ r_ (T_ (ap_ r_ r_ (as_ (al_ (R_ ?_)))))))))))))))))
    refine M_ r_ (M_ r_ (M_ r_ (M_ r_ (o_ r_ (bt_ [0] rfl rfl cP (fun j hj => M_ r_ (X_ r_ (X_ r_ (E_ r_ (E_ r_ (T_ (am_ (R_ (M_ r_ (o_ r_ (bn_ r_ r_ (T_ ?_)))))))))))))))))
    refine ap_ r_ r_ (as_ (al_ (am_ (R_ (M_ r_ (M_ r_ (ah_ r_ r_ b_ (bd_ r_ (o_ r_ (bp_ r_ r_ r_ (M_ r_ (ah_ r_ r_ b_ (bd_ r_ (ah_ r_ r_ b_ (bn_ r_ r_ (o_ r_ (bp_ r_ r_ r_ (T_ (aq_ r_ x_ (R_ ?_))))))))))))))))))))
    refine M_ r_ (M_ r_ (M_ r_ (M_ r_ (o_ r_ (bi_ [0] r_ r_ (cQ) (T_ (aq_ r_ r_ (ar_ (aw_ (az_ (aw_ (az_ (jq_retG (ss := []) (.inl rfl) rfl (is := [0]) rfl (fun K h => h))))))))))))))
theorem sortHd_c (V : Value) (H : List Hd) (ho : HdO H) : Con Try.prog 21 [.cell (.val V), CFn F] [OwH V H] (fun K => K (.tup []) [OwH V H]) := by
  have hl := ho.len
  have eH : (H.map HdRow).length = H.length := List.length_map _
  have cL := bitsLen_c H.length hl
  refine con_intro Try.func21 rfl rfl (Nat.le_of_ble_eq_true rfl) (fun c hc => ?_)
  rw [← eH] at cL
  refine R_ (M_ r_ (o_ r_ (cw_ 0 r_ r_ (fun hlen => E_ r_ (T_ (an_ (M_ r_ (M_ r_ (M_ r_ (o_ r_ (ow_convU64 r_ r_ r_ g_ (o_ r_ (bt_ [] rfl rfl cL (fun m hm => M_ r_ ?_))))))))))))))
  have cP := pdqHd_c F hF V H ho m (fun h => hm.2.2 (by omega))
  rw [← eH] at cP
  refine o_ r_ (bi_ [0] r_ r_ (cP) (ak_ (jq_retG (ss := []) (.inr rfl) rfl (is := [0]) rfl (fun K h => h))))
end
end Go.Proofs.Ytpolnonbgaolkaa
end
