import Derived.Test.YtlniadfidfmckaaGreatDoorMq2
import Derived.Test.YtlniadfidfmckaaGreatDoorProg
import Derived.Shelf.Strconv.Itoa3
import Derived.Lib.ItoaLen
section
namespace Go.Proofs.YtlniadfidfmckaaGreatDoor
open Go.Vc
set_option maxHeartbeats 1000000

abbrev Ptr (b : Nat) : S := .cell (.val (.pointer (some ⟨b, 0, none⟩)))
abbrev Irow (n : Int) : List C := [.val (.int .i64 n)]
inductive Sm where
  | mk (kind : Int) (name : ByteArray) (index value : List T) (max label : Int) (thn els : List Sm)
mutual
def Sm.row : Sm → List C
  | .mk k n i v m l t e => [.val (.int .i64 k), .val (.string n), .list (i.map T.row), .list (v.map T.row), .val (.int .i64 m), .val (.int .i64 l), .list (Sm.rows t), .list (Sm.rows e)]
def Sm.rows : List Sm → List (List C)
  | [] => []
  | s :: l => s.row :: Sm.rows l
end
theorem Sm.rows_map : ∀ l : List Sm, Sm.rows l = l.map Sm.row
  | [] => rfl
  | s :: l => by simp [Sm.rows, Sm.rows_map l]
def Sm.kind : Sm → Int | .mk k _ _ _ _ _ _ _ => k
def Sm.name : Sm → ByteArray | .mk _ n _ _ _ _ _ _ => n
def Sm.index : Sm → List T | .mk _ _ i _ _ _ _ _ => i
def Sm.value : Sm → List T | .mk _ _ _ v _ _ _ _ => v
def Sm.max : Sm → Int | .mk _ _ _ _ m _ _ _ => m
def Sm.label : Sm → Int | .mk _ _ _ _ _ l _ _ => l
def Sm.thn : Sm → List Sm | .mk _ _ _ _ _ _ t _ => t
def Sm.els : Sm → List Sm | .mk _ _ _ _ _ _ _ e => e
abbrev Sm.row' (s : Sm) : List C := [.val (.int .i64 s.kind), .val (.string s.name), .list (s.index.map T.row), .list (s.value.map T.row), .val (.int .i64 s.max), .val (.int .i64 s.label), .list (s.thn.map Sm.row), .list (s.els.map Sm.row)]
theorem Sm.row_eq (s : Sm) : s.row = s.row' := by
  cases s
  simp [Sm.row, Sm.row', Sm.rows_map, Sm.kind, Sm.name, Sm.index, Sm.value, Sm.max, Sm.label, Sm.thn, Sm.els]
abbrev Inp := ByteArray × Int × Int
abbrev Shd := ByteArray × Int × ByteArray
abbrev Arr := ByteArray × Int
abbrev Md := ByteArray × ByteArray × Int × Int
abbrev Clm := Int × Int
abbrev InRow (x : Inp) : List C := [.val (.string x.1), .val (.int .i64 x.2.1), .val (.int .i64 x.2.2)]
abbrev ShRow (x : Shd) : List C := [.val (.string x.1), .val (.int .i64 x.2.1), .val (.string x.2.2)]
abbrev ArRow (x : Arr) : List C := [.val (.string x.1), .val (.int .i64 x.2)]
abbrev MdRow (x : Md) : List C := [.val (.string x.1), .val (.string x.2.1), .val (.int .i64 x.2.2.1), .val (.int .i64 x.2.2.2)]
abbrev ClRow (x : Clm) : List C := [.val (.int .i64 x.1), .val (.int .i64 x.2)]
structure Tk where
  name : ByteArray
  period : Int
  deadline : Int
  priority : Int
  jitter : Int
  inputs : List Inp
  vars : List ByteArray
  arrays : List Arr
  modes : List Md
  claims : List Clm
  body : List Sm
abbrev Tk.row (t : Tk) : List C := [.val (.string t.name), .val (.int .i64 t.period), .val (.int .i64 t.deadline), .val (.int .i64 t.priority), .val (.int .i64 t.jitter), .list (t.inputs.map InRow), .list (t.vars.map Wrow), .list (t.arrays.map ArRow), .list (t.modes.map MdRow), .list (t.claims.map ClRow), .list (t.body.map Sm.row)]
structure Pg where
  res : List ByteArray
  shared : List Shd
  tasks : List Tk
abbrev Pg.row (p : Pg) : List C := [.list (p.res.map Wrow), .list (p.shared.map ShRow), .list (p.tasks.map Tk.row)]
end Go.Proofs.YtlniadfidfmckaaGreatDoor
end

section
namespace Go.Proofs.YtlniadfidfmckaaGreatDoor
open Go.Vc
attribute [local irreducible] JL JC JQ OpWp Con ConN
attribute [local irreducible] hasW
set_option maxHeartbeats 4000000

end Go.Proofs.YtlniadfidfmckaaGreatDoor
end

section
namespace Go.Proofs.YtlniadfidfmckaaGreatDoor
open Go.Vc
attribute [local irreducible] JL JC JQ OpWp Con ConN
attribute [local irreducible] byteAt runLen isL isD isName hasW
set_option maxHeartbeats 4000000

def nmOk (s : ByteArray) : Prop := isName s = true ∧ hasW s = false
theorem named_c (s : ByteArray) (h : nmOk s) : Con Tryz.prog 40 [Str s] [] (fun K => K (Bl true) []) := by
  have h1 := Name_c s
  have h2 := Keyword_c s
  rw [h.1] at h1
  rw [h.2] at h2
  refine con_intro Tryz.func40 rfl rfl (Nat.le_of_ble_eq_true rfl) (fun c hc => R_ (E_ r_ (T_ (R_ (M_ r_ (o_ r_ (bm_ r_ (h1) (M_ r_ (ah_ r_ r_ b_ (bd_ r_ (ah_ r_ r_ b_ (bm_ r_ (h2) (ah_ r_ r_ b_ (cd_ r_ (o_ r_ (bp_ r_ r_ r_ (E_ r_ (T_ (ar_ (jq_ret1 rfl rfl [] rfl (fun K h => h)))))))))))))))))))))
theorem signed_c (n : Int) (h : -2147483647 ≤ n ∧ n ≤ 2147483647) : Con Tryz.prog 68 [.cell (.list ([n].map Irow))] [] (fun K => K (Bl true) []) := by
  refine con_intro Tryz.func68 rfl rfl (Nat.le_of_ble_eq_true rfl) (fun c hc => R_ (E_ r_ (T_ (am_ (R_ (M_ r_ (o_ r_ (br_ r_ (fun hlen => M_ r_ (T_ (au_ (jc_loopS [] (fun k : Nat => k ≤ 1) (fun k => [(5, .cell (.list ([n].map Irow))), (6, In .i64 1), (7, In .i64 (k : Int))]) (fun _ => []) (fun k => 1 - k) 0 (Nat.zero_le _) ?_ ?_ ?_))))))))))))
  · exact sub_end
  · (repeat (first | exact True.intro | refine ⟨rfl, ?_⟩))
  · intro k hk
    refine jc_reset [(5, .cell (.list ([n].map Irow))), (6, In .i64 1), (7, In .i64 (k : Int))] [] ?_ ⟨[], [], rfl⟩ ?_
    · (repeat (first | exact True.intro | refine ⟨rfl, ?_⟩))
    have e1 : [n].length = 1 := rfl
    refine R_ (o_ r_ (bw_ r_ r_ (T_ (am_ (jc_condd rfl (fun hlt => ?_) (fun hge => ?_))))))
    · obtain rfl : k = 0 := by omega
      have h0 : ¬ n < -2147483647 := by omega
      refine as_ (al_ (B_ (R_ (o_ r_ (cc_ r_ r_ g_ r_ r_ b_ (o_ r_ (cb_ r_ r_ (E_ r_ (T_ (R_ (M_ r_ (o_ r_ (bw_ r_ r_ (M_ r_ (ah_ r_ w_ b_ (bd_ r_ (ah_ r_ w_ b_ (bz_ r_ r_ (o_ r_ (bv_ r_ w_ r_ (T_ ?_)))))))))))))))))))))
      refine jc_condd rfl (fun h2 => by simp at h2; omega) (fun _ => as_ (ay_ (al_ (an_ (o_ r_ (bj_ r_ r_ g_ (M_ r_ (ak_ (jq_againS 1 g_ g_ ?_ ?_)))))))))
      · exact sub_end
      · (repeat (first | exact True.intro | refine ⟨rfl, ?_⟩))
    · refine av_ (ax_ (ax_ (ba_ (al_ (R_ (E_ r_ (T_ (ar_ (jq_ret1 rfl rfl [] rfl (fun K h => h))))))))))
def T.ok : T → Prop
  | .nu n => -2147483647 ≤ n ∧ n ≤ 2147483647
  | .nm s => nmOk s
  | .ix s t => nmOk s ∧ t.ok
  | .bn o a b => (1 ≤ o ∧ o ≤ 14) ∧ a.ok ∧ b.ok
theorem T.ok_args {t : T} (h : t.ok) : ∀ a ∈ t.args, a.ok := by
  intro a ha
  cases t with
  | nu n => cases ha
  | nm s => cases ha
  | ix s t => rw [List.mem_singleton.1 ha]; exact h.2
  | bn o x y =>
    rcases List.mem_cons.1 ha with rfl | ha
    · exact h.2.1
    · rw [List.mem_singleton.1 ha]; exact h.2.2
end Go.Proofs.YtlniadfidfmckaaGreatDoor
end

section
namespace Go.Proofs.YtlniadfidfmckaaGreatDoor
open Go.Vc
attribute [local irreducible] JL JC JQ OpWp Con ConN
attribute [local irreducible] byteAt runLen isL isD isName hasW
set_option maxHeartbeats 4000000

theorem str_ne {o : Int} (h : 1 ≤ o ∧ o ≤ 14) : ¬ signT o = ⟨#[]⟩ := by
  intro e
  have := congrArg ByteArray.size e
  rcases op14 h with rfl | rfl | rfl | rfl | rfl | rfl | rfl | rfl | rfl | rfl | rfl | rfl | rfl | rfl <;> exact absurd this (by decide)
theorem shaped_c : ∀ (F : Nat) (t : T), F ≤ 20 → t.ok → Con Tryz.prog 36 [.row t.row', In .i64 (21 - (F : Int))] [] (fun K => K (Bl true) []) := by
  intro F
  induction F with
  | zero =>
    intro t _ _
    refine con_intro Tryz.func36 rfl rfl (Nat.le_of_ble_eq_true rfl) (fun c hc => R_ (o_ r_ (ci_ r_ (fun bx => E_ r_ (T_ (am_ (R_ (M_ r_ (o_ r_ (bz_ r_ r_ (T_ (jc_condd rfl (fun _ => R_ (E_ r_ (T_ (ar_ (aw_ ?_))))) (fun h => by omega)))))))))))))
    refine jq_ret1 rfl rfl [] rfl (fun K h => h)
  | succ F ih =>
    intro t hF hok
    have eA : (t.args.map T.row).length = t.args.length := List.length_map _
    have hargs := T.ok_args hok
    refine con_intro Tryz.func36 rfl rfl (Nat.le_of_ble_eq_true rfl) (fun c hc => R_ (o_ r_ (ci_ r_ (fun bx => E_ r_ (T_ (am_ (R_ (M_ r_ (o_ r_ (bz_ r_ r_ (T_ (jc_condd rfl (fun h => by omega) (fun _ => as_ (al_ (am_ ?_)))))))))))))))
    refine jc_cut (ι := Unit) [] (fun _ => True) (fun _ => [(1, In .i64 (21 - ((F + 1 : Nat) : Int))), (2, .cell (.val (.pointer (some ⟨bx, 0, none⟩)))), (5, Bl (decide (t.num = 0) && decide (t.op = 0)))]) (fun _ => [.blk bx 53 t.row']) ?_ ?_
    · by_cases hn : t.num = 0
      · refine an_ (F_ r_ (L_ 0 r_ (o_ r_ (bn_ r_ r_ (M_ r_ (ah_ r_ u_ b_ (bf_ r_ r_ r_ b_ (ah_ r_ u_ b_ (bg_ 0 r_ r_ r_ r_ (ah_ r_ u_ b_ (bn_ r_ r_ (o_ r_ (bp_ r_ u_ r_ (E_ r_ (ak_ (jq_cutS () trivial ?_ ?_))))))))))))))))
        · exact bc_ 0 r_ sub_end
        · rw [decide_eq_true hn, Bool.true_and]
          (repeat (first | exact True.intro | refine ⟨rfl, ?_⟩))
      · refine an_ (F_ r_ (L_ 0 r_ (o_ r_ (bn_ r_ r_ (M_ r_ (ai_ r_ w_ b_ (ai_ r_ w_ b_ (ai_ r_ w_ b_ (o_ r_ (bv_ r_ w_ r_ (E_ r_ (ak_ (jq_cutS () trivial ?_ ?_)))))))))))))
        · exact bc_ 0 r_ sub_end
        · rw [decide_eq_false hn, Bool.false_and]
          (repeat (first | exact True.intro | refine ⟨rfl, ?_⟩))
    · intro _ _
      refine R_ (E_ r_ (T_ (am_ (R_ (F_ r_ (L_ 0 r_ (T_ (jc_cut (ι := Unit) [] (fun _ => True) (fun _ => [(1, In .i64 (21 - ((F + 1 : Nat) : Int))), (2, .cell (.val (.pointer (some ⟨bx, 0, none⟩)))), (6, Bl true)]) (fun _ => [.blk bx 53 t.row']) ?_ ?_))))))))
      · clear ih hargs eA
        cases t with
        | nu n =>
          have hS := signed_c n hok
          refine au_ (R_ (o_ r_ (bn_ r_ r_ (E_ r_ (T_ (jc_condd rfl (fun _ => an_ (F_ r_ (L_ 0 r_ (o_ r_ (bq_ r_ r_ b_ r_ r_ b_ (o_ r_ (bm_ r_ (hS) (M_ r_ (ah_ r_ r_ b_ (bf_ r_ r_ r_ b_ (ah_ r_ r_ b_ (bg_ 0 r_ r_ r_ r_ (ah_ r_ r_ b_ (cs_ r_ r_ (o_ r_ (bp_ r_ r_ r_ ?_)))))))))))))))) (fun h => absurd rfl h)))))))
          refine M_ r_ (ah_ r_ r_ b_ (bf_ r_ r_ r_ b_ (ah_ r_ r_ b_ (bg_ 0 r_ r_ r_ r_ (ah_ r_ r_ b_ (bn_ r_ r_ (o_ r_ (bp_ r_ x_ r_ (M_ r_ (ah_ r_ r_ b_ (bf_ r_ r_ r_ b_ (ah_ r_ r_ b_ (bg_ 0 r_ r_ r_ r_ (ah_ r_ r_ b_ (br_ r_ (fun hlen => ah_ r_ r_ b_ (bn_ r_ r_ (o_ r_ (bp_ r_ x_ r_ (E_ r_ (ak_ (ay_ (jq_cutS () trivial ?_ ?_)))))))))))))))))))))))
          · exact bc_ 0 r_ sub_end
          · (repeat (first | exact True.intro | refine ⟨rfl, ?_⟩))
        | nm s =>
          have hS := named_c s hok
          refine au_ (R_ (o_ r_ (bn_ r_ r_ (E_ r_ (T_ (jc_condd rfl (fun h => by cases h) (fun _ => R_ (o_ r_ (bn_ r_ r_ (E_ r_ (T_ (jc_condd rfl (fun _ => an_ (F_ r_ (L_ 0 r_ (o_ r_ (bm_ r_ (hS) (M_ r_ ?_)))))) (fun h => absurd rfl h)))))))))))))
          refine ah_ r_ r_ b_ (bd_ r_ (o_ r_ (bp_ r_ r_ r_ (M_ r_ (ah_ r_ r_ b_ (bf_ r_ r_ r_ b_ (ah_ r_ r_ b_ (bg_ 0 r_ r_ r_ r_ (ah_ r_ r_ b_ (br_ r_ (fun hlen => ah_ r_ r_ b_ (bn_ r_ r_ (o_ r_ (bp_ r_ r_ r_ (E_ r_ (ak_ (ay_ (jq_cutS () trivial ?_ ?_))))))))))))))))))
          · exact bc_ 0 r_ sub_end
          · (repeat (first | exact True.intro | refine ⟨rfl, ?_⟩))
        | ix s t =>
          have hS := named_c s hok.1
          refine au_ (R_ (o_ r_ (bn_ r_ r_ (E_ r_ (T_ (jc_condd rfl (fun h => by cases h) (fun _ => R_ (o_ r_ (bn_ r_ r_ (E_ r_ (T_ (jc_condd rfl (fun h => by cases h) (fun _ => R_ (o_ r_ (bn_ r_ r_ (E_ r_ (T_ (jc_condd rfl (fun _ => ?_) (fun h => absurd rfl h)))))))))))))))))))
          refine an_ (F_ r_ (L_ 0 r_ (o_ r_ (bm_ r_ (hS) (M_ r_ (ah_ r_ r_ b_ (bd_ r_ (o_ r_ (bp_ r_ r_ r_ (M_ r_ (ah_ r_ r_ b_ (bf_ r_ r_ r_ b_ (ah_ r_ r_ b_ (bg_ 0 r_ r_ r_ r_ (ah_ r_ r_ b_ (br_ r_ (fun hlen => ah_ r_ r_ b_ (bn_ r_ r_ (o_ r_ (bp_ r_ r_ r_ (E_ r_ (ak_ (ay_ ?_)))))))))))))))))))))))
          refine jq_cutS () trivial ?_ ?_
          · exact bc_ 0 r_ sub_end
          · (repeat (first | exact True.intro | refine ⟨rfl, ?_⟩))
        | bn o a b =>
          have hS := Sign_c o hok.1
          have hne := str_ne hok.1
          refine au_ (R_ (o_ r_ (bn_ r_ r_ (E_ r_ (T_ (jc_condd rfl (fun h => by cases h) (fun _ => R_ (o_ r_ (bn_ r_ r_ (E_ r_ (T_ (jc_condd rfl (fun h => by cases h) (fun _ => R_ (o_ r_ (bn_ r_ r_ (E_ r_ (T_ (jc_condd rfl (fun h => by cases h) (fun _ => ?_)))))))))))))))))))
          refine R_ (o_ r_ (bn_ r_ r_ (E_ r_ (T_ (jc_condd rfl (fun _ => an_ (F_ r_ (L_ 0 r_ (o_ r_ (bm_ r_ (hS) (o_ r_ (ct_ r_ r_ (M_ r_ (ah_ r_ u_ b_ (bf_ r_ r_ r_ b_ (ah_ r_ u_ b_ (bg_ 0 r_ r_ r_ r_ (ah_ r_ u_ b_ (bn_ r_ r_ (o_ r_ (bp_ r_ u_ r_ (M_ r_ ?_))))))))))))))))) (fun h => absurd rfl h))))))
          refine ah_ r_ r_ b_ (bf_ r_ r_ r_ b_ (ah_ r_ r_ b_ (bg_ 0 r_ r_ r_ r_ (ah_ r_ r_ b_ (cs_ r_ r_ (o_ r_ (bp_ r_ x_ r_ (M_ r_ (ah_ r_ r_ b_ (bf_ r_ r_ r_ b_ (ah_ r_ r_ b_ (bg_ 0 r_ r_ r_ r_ (ah_ r_ r_ b_ (br_ r_ (fun hlen => ah_ r_ r_ b_ (bn_ r_ r_ (o_ r_ (bp_ r_ x_ r_ (E_ r_ (ak_ (ay_ (jq_cutS () trivial ?_ ?_))))))))))))))))))))))
          · exact bc_ 0 r_ sub_end
          · (repeat (first | exact True.intro | refine ⟨rfl, ?_⟩))
      · intro _ _
        refine am_ (R_ (F_ r_ (L_ 0 r_ (o_ r_ (br_ r_ (fun hlen => M_ r_ (T_ (au_ (jc_loopS (ι := Nat) [] (fun k => k ≤ t.args.length) (fun k => [(1, In .i64 (21 - ((F + 1 : Nat) : Int))), (6, Bl true), (94, .cell (.list (t.args.map T.row))), (95, In .i64 ((t.args.map T.row).length : Int)), (96, In .i64 (k : Int))]) (fun _ => []) (fun k => t.args.length - k) 0 (Nat.zero_le _) ?_ ?_ ?_)))))))))
        · exact sub_end
        · (repeat (first | exact True.intro | refine ⟨rfl, ?_⟩))
        · intro k hk
          refine jc_reset [(1, In .i64 (21 - ((F + 1 : Nat) : Int))), (6, Bl true), (94, .cell (.list (t.args.map T.row))), (95, In .i64 ((t.args.map T.row).length : Int)), (96, In .i64 (k : Int))] [] ?_ ⟨[], [], rfl⟩ ?_
          · (repeat (first | exact True.intro | refine ⟨rfl, ?_⟩))
          refine R_ (o_ r_ (bw_ r_ r_ (T_ (am_ (jc_condd rfl (fun hlt => ?_) (fun hge => ?_))))))
          · have hlt' : k < t.args.length := by omega
            have hI : Con Tryz.prog 36 [.row (t.args[k]).row', In .i64 (21 - ((F + 1 : Nat) : Int) + 1)] [] (fun K => K (Bl true) []) := by
              rw [show (21 - ((F + 1 : Nat) : Int) + 1) = 21 - (F : Int) by omega]
              exact ih _ g_ (hargs _ (List.getElem_mem hlt'))
            refine as_ (al_ (B_ (R_ (o_ r_ (cc_ r_ r_ g_ (T.row_eq _) r_ b_ (o_ r_ (cr_ r_ r_ r_ (o_ r_ (bl_ r_ r_ (fun bl => S_ 0 r_ (T_ (an_ (M_ r_ (M_ r_ (ah_ r_ r_ b_ (bs_ 0 r_ r_ r_ r_ (ah_ r_ r_ b_ (bd_ r_ (ah_ r_ r_ b_ (bj_ r_ r_ g_ (ah_ r_ r_ b_ (bm_ r_ (hI) ?_))))))))))))))))))))))
            refine o_ r_ (bp_ r_ r_ r_ (E_ r_ (ak_ (ay_ (al_ (an_ (o_ r_ (bj_ r_ r_ g_ (M_ r_ (ak_ (jq_againS (k + 1) g_ g_ ?_ ?_)))))))))))
            · exact sub_end
            · (repeat (first | exact True.intro | refine ⟨rfl, ?_⟩))
          · refine av_ (ax_ (ax_ (ba_ (al_ (R_ (M_ r_ (E_ r_ (T_ (ar_ (jq_ret1 rfl rfl [] rfl (fun K h => h)))))))))))
end Go.Proofs.YtlniadfidfmckaaGreatDoor
end

section
namespace Go.Proofs.YtlniadfidfmckaaGreatDoor
open Go.Vc
attribute [local irreducible] JL JC JQ OpWp Con ConN
attribute [local irreducible] byteAt runLen isL isD isName hasW
set_option maxHeartbeats 4000000

end Go.Proofs.YtlniadfidfmckaaGreatDoor
end

section
namespace Go.Proofs.YtlniadfidfmckaaGreatDoor
set_option maxRecDepth 100000
def laysItoa_ren : Go.Shelf.Ren := ⟨fun | 129 => 142 | 171 => 51 | 243 => 81 | 246 => 110 | 283 => 129 | 284 => 130 | 285 => 131 | 286 => 132 | 317 => 141 | 318 => 143 | 319 => 144 | 320 => 145 | 337 => 149 | 338 => 150 | n => n, fun | 0 => 0 | 2 => 2 | 3 => 3 | 4 => 4 | 5 => 5 | 9 => 9 | 20 => 20 | 37 => 73 | 46 => 104 | 51 => 162 | 53 => 165 | 171 => 178 | 173 => 181 | 212 => 186 | 213 => 187 | 232 => 191 | 233 => 192 | n => n, fun | 17 => 4 | 18 => 6 | 19 => 7 | n => n⟩
theorem laysItoa : Go.Proofs.LaysM.n171 Tryz.prog laysItoa_ren := {
  mixed := by kernel_rfl,
  f129 := Tryz.func142.trans (congrArg some (by kernel_rfl)),
  f171 := Tryz.func51.trans (congrArg some (by kernel_rfl)),
  f243 := Tryz.func81.trans (congrArg some (by kernel_rfl)),
  f246 := Tryz.func110.trans (congrArg some (by kernel_rfl)),
  f283 := Tryz.func129.trans (congrArg some (by kernel_rfl)),
  f284 := Tryz.func130.trans (congrArg some (by kernel_rfl)),
  f285 := Tryz.func131.trans (congrArg some (by kernel_rfl)),
  f286 := Tryz.func132.trans (congrArg some (by kernel_rfl)),
  f317 := Tryz.func141.trans (congrArg some (by kernel_rfl)),
  f318 := Tryz.func143.trans (congrArg some (by kernel_rfl)),
  f319 := Tryz.func144.trans (congrArg some (by kernel_rfl)),
  f320 := Tryz.func145.trans (congrArg some (by kernel_rfl)),
  f337 := Tryz.func149.trans (congrArg some (by kernel_rfl)),
  f338 := Tryz.func150.trans (congrArg some (by kernel_rfl)),
  t0 := Tryz.underlying0,
  a0 := Tryz.isAgg0,
  z0 := Tryz.sizeOf0,
  v0 := Tryz.zeroValue0,
  t2 := Tryz.underlying2,
  a2 := Tryz.isAgg2,
  z2 := Tryz.sizeOf2,
  v2 := Tryz.zeroValue2,
  t3 := Tryz.underlying3,
  a3 := Tryz.isAgg3,
  z3 := Tryz.sizeOf3,
  v3 := Tryz.zeroValue3,
  t4 := Tryz.underlying4,
  a4 := Tryz.isAgg4,
  z4 := Tryz.sizeOf4,
  v4 := Tryz.zeroValue4,
  t5 := Tryz.underlying5,
  a5 := Tryz.isAgg5,
  z5 := Tryz.sizeOf5,
  v5 := Tryz.zeroValue5,
  t9 := Tryz.underlying9,
  a9 := Tryz.isAgg9,
  z9 := Tryz.sizeOf9,
  v9 := Tryz.zeroValue9,
  t20 := Tryz.underlying20,
  a20 := Tryz.isAgg20,
  z20 := Tryz.sizeOf20,
  v20 := Tryz.zeroValue20,
  t37 := Tryz.underlying73,
  a37 := Tryz.isAgg73,
  z37 := Tryz.sizeOf73,
  v37 := Tryz.zeroValue73,
  t46 := Tryz.underlying104,
  a46 := Tryz.isAgg104,
  z46 := Tryz.sizeOf104,
  v46 := Tryz.zeroValue104,
  t51 := Tryz.underlying162,
  a51 := Tryz.isAgg162,
  z51 := Tryz.sizeOf162,
  v51 := Tryz.zeroValue162,
  t53 := Tryz.underlying165,
  a53 := Tryz.isAgg165,
  z53 := Tryz.sizeOf165,
  v53 := Tryz.zeroValue165,
  t171 := Tryz.underlying178,
  a171 := Tryz.isAgg178,
  z171 := Tryz.sizeOf178,
  v171 := Tryz.zeroValue178,
  t173 := Tryz.underlying181,
  a173 := Tryz.isAgg181,
  z173 := Tryz.sizeOf181,
  v173 := Tryz.zeroValue181,
  t212 := Tryz.underlying186,
  a212 := Tryz.isAgg186,
  z212 := Tryz.sizeOf186,
  v212 := Tryz.zeroValue186,
  t213 := Tryz.underlying187,
  a213 := Tryz.isAgg187,
  z213 := Tryz.sizeOf187,
  t232 := Tryz.underlying191,
  a232 := Tryz.isAgg191,
  z232 := Tryz.sizeOf191,
  v232 := Tryz.zeroValue191,
  t233 := Tryz.underlying192,
  a233 := Tryz.isAgg192,
  z233 := Tryz.sizeOf192,
  v233 := Tryz.zeroValue192,
  g17 := by kernel_rfl,
  g18 := by kernel_rfl,
  g19 := by kernel_rfl,
  i0 := by kernel_rfl,
  i2 := by kernel_rfl,
  i3 := by kernel_rfl,
  i4 := by kernel_rfl,
  i5 := by kernel_rfl,
  i9 := by kernel_rfl,
  i20 := by kernel_rfl,
  i37 := by kernel_rfl,
  i46 := by kernel_rfl,
  i51 := by kernel_rfl,
  i53 := by kernel_rfl,
  i171 := by kernel_rfl,
  i173 := by kernel_rfl,
  i212 := by kernel_rfl,
  i232 := by kernel_rfl,
  i233 := by kernel_rfl,
  m17 := by kernel_rfl,
  m18 := by kernel_rfl,
  m19 := by kernel_rfl }
end Go.Proofs.YtlniadfidfmckaaGreatDoor
end

section
namespace Go.Proofs.YtlniadfidfmckaaGreatDoor
open Go.Vc
attribute [local irreducible] JL JC JQ OpWp
attribute [local irreducible] byteAt runLen isL isD isName hasW
set_option maxHeartbeats 4000000

def numS (n : Int) : ByteArray := ⟨(Lib.itoa n).toArray⟩
theorem itoa_c (n : Int) (h0 : -2147483647 ≤ n) (h1 : n ≤ 2147483647) : Con Tryz.prog 51 [In .i64 n] [] (fun K => K (Str (numS n)) []) := by
  rintro vs w A _ _ _ ⟨v, r, rfl, ⟨rfl, _⟩, hr⟩ _ ⟨⟨g, hg1, hg2, htab⟩, _, _⟩
  simp only [SOks] at hr
  subst hr
  refine (Any.strconv_Itoa laysItoa n g_ g_ w htab).mono ?_
  rintro e w' ⟨rfl, k, os, rfl⟩
  refine ⟨_, _, [], rfl, fun K h => h, ⟨?_, rfl⟩, by simp, by simp [hb], by simp [hb], ⟨rfl, rfl, rfl, ?_, ?_⟩⟩
  · unfold numS
    rfl
  · simp [Sort.grow]
  · intro j hj _
    show (w.heap ++ os)[j]? = _
    rw [Array.getElem?_append_left hj]
attribute [local irreducible] Con ConN
theorem numS_size (n : Int) (h0 : -2147483647 ≤ n) (h1 : n ≤ 2147483647) : (numS n).size ≤ 21 := by
  have := Lib.itoa_length_le n (by omega) (by omega)
  unfold numS
  simpa [ByteArray.size] using this
theorem numS_nonneg (n : Int) (h : 0 ≤ n) : numS n = decS n.toNat := by
  obtain ⟨u, rfl⟩ : ∃ u : Nat, n = u := ⟨n.toNat, by omega⟩
  unfold numS decS
  rw [Lib.itoa_nonneg, Int.toNat_natCast]
theorem numS_neg (n : Int) (h : n < 0) : numS n = ⟨#[45]⟩ ++ decS (-n).toNat := by
  obtain ⟨u, rfl⟩ : ∃ u : Nat, n = -(u : Int) := ⟨(-n).toNat, by omega⟩
  unfold numS decS
  rw [Lib.itoa_neg u (by omega), show (- -(u : Int)).toNat = u by omega]
  apply ByteArray.ext
  rw [ByteArray.data_append]
  simp
def textT : T → ByteArray
  | .nu n => if n < 0 then (⟨#[40]⟩ ++ numS n) ++ ⟨#[41]⟩ else numS n
  | .nm s => s
  | .ix s t => ((s ++ ⟨#[91]⟩) ++ textT t) ++ ⟨#[93]⟩
  | .bn o a b => (((((⟨#[40]⟩ ++ textT a) ++ ⟨#[32]⟩) ++ signT o) ++ ⟨#[32]⟩) ++ textT b) ++ ⟨#[41]⟩
theorem one_size (c : UInt8) : (⟨#[c]⟩ : ByteArray).size = 1 := rfl
theorem sign_size {o : Int} (h : 1 ≤ o ∧ o ≤ 14) : (signT o).size ≤ 2 := by
  rcases op14 h with rfl | rfl | rfl | rfl | rfl | rfl | rfl | rfl | rfl | rfl | rfl | rfl | rfl | rfl <;> decide
theorem expr_c : ∀ (t : T), t.ok → (textT t).size ≤ 1000000000 → Con Tryz.prog 37 [.row t.row'] [] (fun K => K (Str (textT t)) []) := by
  intro t
  induction t with
  | nu n =>
    intro hok hz
    have hI := itoa_c n hok.1 hok.2
    have hz := numS_size n hok.1 hok.2
    have h40 := one_size 40
    have h41 := one_size 41
    have h2 : (⟨#[40]⟩ ++ numS n).size ≤ 30 := by rw [ByteArray.size_append]; omega
    show Con _ _ [.row [.val (.int .i64 1), .val (.int .i64 n), .val (.string ⟨#[]⟩), .val (.int .i64 0), .list (([] : List T).map T.row)]] [] _
    refine con_intro Tryz.func37 rfl rfl (Nat.le_of_ble_eq_true rfl) (fun c hc => R_ (o_ r_ (ci_ r_ (fun bx => E_ r_ (T_ (am_ (R_ (F_ r_ (L_ 0 r_ (T_ (au_ (R_ (o_ r_ (bn_ r_ r_ (E_ r_ (T_ (jc_condd rfl (fun _ => ?_) (fun h => absurd rfl h))))))))))))))))))
    refine am_ (R_ (F_ r_ (L_ 0 r_ (o_ r_ (bw_ r_ r_ (T_ (jc_condd rfl (fun hn => ?_) (fun hn => ?_))))))))
    · have e : textT (.nu n) = (⟨#[40]⟩ ++ numS n) ++ ⟨#[41]⟩ := by unfold textT; rw [if_pos hn]
      refine R_ (F_ r_ (L_ 0 r_ (o_ r_ (bm_ r_ (hI) (o_ r_ (ow_strcat r_ r_ g_ (o_ r_ (ow_strcat r_ r_ g_ (E_ r_ (T_ (ar_ (aw_ (az_ (aw_ (jq_ret1 rfl rfl [] rfl (fun K h => by rw [e] at h; exact h))))))))))))))))
    · have e : textT (.nu n) = numS n := by unfold textT; rw [if_neg hn]
      refine as_ (al_ (R_ (F_ r_ (L_ 0 r_ (o_ r_ (bm_ r_ (hI) (E_ r_ (T_ (ar_ (az_ (aw_ (jq_ret1 rfl rfl [] rfl (fun K h => by rw [e] at h; exact h)))))))))))))
  | nm s =>
    intro hok hz
    show Con _ _ [.row [.val (.int .i64 2), .val (.int .i64 0), .val (.string s), .val (.int .i64 0), .list (([] : List T).map T.row)]] [] _
    refine con_intro Tryz.func37 rfl rfl (Nat.le_of_ble_eq_true rfl) (fun c hc => R_ (o_ r_ (ci_ r_ (fun bx => E_ r_ (T_ (am_ (R_ (F_ r_ (L_ 0 r_ (T_ (au_ (R_ (o_ r_ (bn_ r_ r_ (E_ r_ (T_ (jc_condd rfl (fun h => by cases h) (fun _ => ?_))))))))))))))))))
    refine R_ (o_ r_ (bn_ r_ r_ (E_ r_ (T_ (jc_condd rfl (fun _ => R_ (F_ r_ (L_ 0 r_ (E_ r_ (T_ (ar_ (az_ (aw_ (jq_ret1 rfl rfl [] rfl (fun K h => h)))))))))) (fun h => absurd rfl h))))))
  | ix s t ih =>
    intro hok hz
    have e : textT (.ix s t) = ((s ++ ⟨#[91]⟩) ++ textT t) ++ ⟨#[93]⟩ := by rw [textT]
    rw [e] at hz
    have h91 := one_size 91
    have h93 := one_size 93
    have hz1 := hz
    rw [ByteArray.size_append] at hz1
    have hz2 := hz1
    rw [ByteArray.size_append] at hz2
    have hz3 := hz2
    rw [ByteArray.size_append] at hz3
    have hI := ih hok.2 (by omega)
    have e1 : [t].length = 1 := rfl
    show Con _ _ [.row [.val (.int .i64 3), .val (.int .i64 0), .val (.string s), .val (.int .i64 0), .list ([t].map T.row)]] [] _
    refine con_intro Tryz.func37 rfl rfl (Nat.le_of_ble_eq_true rfl) (fun c hc => R_ (o_ r_ (ci_ r_ (fun bx => E_ r_ (T_ (am_ (R_ (F_ r_ (L_ 0 r_ (T_ (au_ (R_ (o_ r_ (bn_ r_ r_ (E_ r_ (T_ (jc_condd rfl (fun h => by cases h) (fun _ => ?_))))))))))))))))))
    refine R_ (o_ r_ (bn_ r_ r_ (E_ r_ (T_ (jc_condd rfl (fun h => by cases h) (fun _ => R_ (o_ r_ (bn_ r_ r_ (E_ r_ (T_ (jc_condd rfl (fun _ => am_ (ao_ r_ r_ k_ k_ (yF_ r_ (yL_ 0 r_ (aa_ (fun c => ow_strcat r_ r_ g_ p_) (yF_ r_ ?_)))))) (fun h => absurd rfl h))))))))))))
    refine yL_ 0 r_ (aa_ (fun c => cv_ r_ r_ g_ g_ (T.row_eq _) r_ b_ p_) (aa_ (fun c => cr_ r_ r_ r_ p_) (aa_ (fun c => bm_ r_ (hI) p_) (aa_ (fun c => ow_strcat r_ r_ g_ p_) (aa_ (fun c => ow_strcat r_ r_ g_ p_) (yE_ r_ (ae_ (al_ (ar_ (az_ (aw_ (jq_ret1 rfl rfl [] rfl (fun K h => by rw [e] at h; exact h)))))))))))))
  | bn o a b iha ihb =>
    intro hok hz
    have e : textT (.bn o a b) = (((((⟨#[40]⟩ ++ textT a) ++ ⟨#[32]⟩) ++ signT o) ++ ⟨#[32]⟩) ++ textT b) ++ ⟨#[41]⟩ := by rw [textT]
    rw [e] at hz
    have h40 := one_size 40
    have h32 := one_size 32
    have h41 := one_size 41
    have hz1 := hz
    rw [ByteArray.size_append] at hz1
    have hz2 := hz1
    rw [ByteArray.size_append] at hz2
    have hz3 := hz2
    rw [ByteArray.size_append] at hz3
    have hz4 := hz3
    rw [ByteArray.size_append] at hz4
    have hz5 := hz4
    rw [ByteArray.size_append] at hz5
    have hz6 := hz5
    rw [ByteArray.size_append] at hz6
    have hS := Sign_c o hok.1
    have hA := iha hok.2.1 (by omega)
    have hB := ihb hok.2.2 (by omega)
    have e1 : [a, b].length = 2 := rfl
    show Con _ _ [.row [.val (.int .i64 4), .val (.int .i64 0), .val (.string ⟨#[]⟩), .val (.int .i64 o), .list ([a, b].map T.row)]] [] _
    refine con_intro Tryz.func37 rfl rfl (Nat.le_of_ble_eq_true rfl) (fun c hc => R_ (o_ r_ (ci_ r_ (fun bx => E_ r_ (T_ (am_ (R_ (F_ r_ (L_ 0 r_ (T_ (au_ (R_ (o_ r_ (bn_ r_ r_ (E_ r_ (T_ (jc_condd rfl (fun h => by cases h) (fun _ => ?_))))))))))))))))))
    refine R_ (o_ r_ (bn_ r_ r_ (E_ r_ (T_ (jc_condd rfl (fun h => by cases h) (fun _ => R_ (o_ r_ (bn_ r_ r_ (E_ r_ (T_ (jc_condd rfl (fun h => by cases h) (fun _ => as_ (ay_ (al_ (am_ (ao_ r_ r_ k_ k_ (yF_ r_ ?_)))))))))))))))))
    refine yL_ 0 r_ (aa_ (fun c => cv_ r_ r_ g_ g_ (T.row_eq _) r_ b_ p_) (aa_ (fun c => cr_ r_ r_ r_ p_) (aa_ (fun c => bm_ r_ (hA) p_) (aa_ (fun c => ow_strcat r_ r_ g_ p_) (aa_ (fun c => ow_strcat r_ r_ g_ p_) (yF_ r_ (yL_ 0 r_ (aa_ (fun c => bm_ r_ (hS) p_) (aa_ (fun c => ow_strcat r_ r_ g_ p_) (aa_ (fun c => ow_strcat r_ r_ g_ p_) (yF_ r_ (yL_ 0 r_ (aa_ (fun c => cv_ r_ r_ g_ g_ (T.row_eq _) r_ b_ p_) ?_)))))))))))))
    refine aa_ (fun c => cr_ r_ r_ r_ p_) (aa_ (fun c => bm_ r_ (hB) p_) (aa_ (fun c => ow_strcat r_ r_ g_ p_) (aa_ (fun c => ow_strcat r_ r_ g_ p_) (yE_ r_ (ae_ (al_ (ar_ (jq_ret1 rfl rfl [] rfl (fun K h => by rw [e] at h; exact h)))))))))
end Go.Proofs.YtlniadfidfmckaaGreatDoor
end

section
namespace Go.Proofs.YtlniadfidfmckaaGreatDoor
open Go.Vc

abbrev sgT (c : UInt8) : Int × Int × ByteArray := (3, 0, ⟨#[c]⟩)
def toksT : T → List (Int × Int × ByteArray)
  | .nu n => if n < 0 then [sgT 40, sgT 45, (2, -n, ⟨#[]⟩), sgT 41] else [(2, n, ⟨#[]⟩)]
  | .nm s => [(1, 0, s)]
  | .ix s t => (1, 0, s) :: sgT 91 :: (toksT t ++ [sgT 93])
  | .bn o a b => sgT 40 :: (toksT a ++ (3, 0, signT o) :: (toksT b ++ [sgT 41]))
/-- A text that is empty, or begins with neither a letter nor a digit. -/
def endsW (r : ByteArray) : Prop := r.size = 0 ∨ isLD (byteAt r 0) = false
theorem endsW.dig {r : ByteArray} (h : endsW r) : r.size = 0 ∨ isD (byteAt r 0) = false := by
  rcases h with h | h
  · exact .inl h
  · unfold isLD at h
    exact .inr (by simp only [Bool.or_eq_false_iff] at h; exact h.2)
theorem runLen_ends {p : Int → Bool} (x r : ByteArray) (hr : r.size = 0 ∨ p (byteAt r 0) = false) : runLen p (x ++ r) = runLen p x := by
  unfold runLen
  rw [bytesI_app]
  refine takeWhile_app _ _ (fun n hn => ?_)
  obtain ⟨h0, rfl⟩ := head_bytes hn
  rcases hr with hr | hr
  · omega
  · exact hr
theorem isName_parts {s : ByteArray} (h : isName s = true) : 0 < s.size ∧ s.size ≤ 12 ∧ nameLen s = s.size ∧ isL (byteAt s 0) = true := by
  unfold isName at h
  simp only [Bool.and_eq_true, decide_eq_true_eq] at h
  refine ⟨h.1.1, h.1.2, h.2, ?_⟩
  cases hl : isL (byteAt s 0) with
  | true => rfl
  | false => have := nameLen_zero hl; omega
theorem next_name {s r : ByteArray} (h : isName s = true) (hr : endsW r) : nextT (s ++ r) = ((1, 0, s), s.size) := by
  obtain ⟨h0, h1, h2, h3⟩ := isName_parts h
  have e : nameLen (s ++ r) = s.size := by
    unfold nameLen at h2 ⊢
    rw [ByteArray.size_append, byteAt_app _ _ _ h0, runLen_ends s r hr, if_pos ⟨by omega, h3⟩]
    rw [if_pos ⟨h0, h3⟩] at h2
    exact h2
  unfold nextT
  rw [e, if_pos h0, if_neg (by omega), pre_app _ _ _ (Nat.le_refl _), pre_all]
theorem next_num {n : Int} {r : ByteArray} (h : 0 ≤ n ∧ n ≤ 2147483647) (hr : endsW r) : nextT (decS n.toNat ++ r) = ((2, n, ⟨#[]⟩), (decS n.toNat).size) := by
  have hp := decS_pos n.toNat
  have hall := decS_all n.toNat
  have hd : isD (byteAt (decS n.toNat) 0) = true := hall _ (by
    rw [byteAt_getD, List.getD_eq_getElem?_getD, List.getElem?_eq_getElem (by rw [bytesI_len]; exact hp)]
    exact List.getElem_mem _)
  have hrun : runLen isD (decS n.toNat) = (decS n.toNat).size := by
    unfold runLen
    exact (takeWhile_len (fun j hj _ => hall _ (List.getElem_mem hj)) (by rw [bytesI_len]; omega) (fun hk => absurd hk (by rw [bytesI_len]; omega)))
  have hv := decS_num n.toNat (by omega)
  generalize decS n.toNat = x at hp hd hrun hv
  have hnl : nameLen (x ++ r) = 0 := nameLen_zero (by rw [byteAt_app _ _ _ hp]; exact isD_notL hd)
  unfold nextT
  rw [hnl, if_neg (by omega), runLen_ends x r hr.dig, hrun, if_pos hp, pre_app _ _ _ (Nat.le_refl _), pre_all, hv, if_neg (by omega), show ((n.toNat : Nat) : Int) = n by omega]
theorem SG_one : ∀ t ∈ SG, (decide (t.size = 2) && (decide (byteAt t 0 = 40) || decide (byteAt t 0 = 41) || decide (byteAt t 0 = 91) || decide (byteAt t 0 = 93) || decide (byteAt t 0 = 45) || decide (byteAt t 0 = 123) || decide (byteAt t 0 = 125))) = false := by decide +kernel
theorem next_sg {c : UInt8} (h : c = 40 ∨ c = 41 ∨ c = 91 ∨ c = 93 ∨ c = 45 ∨ c = 123 ∨ c = 125) (r : ByteArray) : nextT ((⟨#[c]⟩ : ByteArray) ++ r) = (sgT c, (⟨#[c]⟩ : ByteArray).size) := by
  have hs : (⟨#[c]⟩ : ByteArray).size = 1 := rfl
  have hb : byteAt ((⟨#[c]⟩ : ByteArray) ++ r) 0 = byteAt (⟨#[c]⟩ : ByteArray) 0 := byteAt_app _ _ _ (by rw [hs]; omega)
  have hb2 : byteAt (⟨#[c]⟩ : ByteArray) 0 = (c.toNat : Int) := by rw [byteAt_getD]; rfl
  have hL : isL (byteAt ((⟨#[c]⟩ : ByteArray) ++ r) 0) = false := by
    rw [hb, hb2]
    rcases h with rfl | rfl | rfl | rfl | rfl | rfl | rfl <;> decide
  have hD : isD (byteAt ((⟨#[c]⟩ : ByteArray) ++ r) 0) = false := by
    rw [hb, hb2]
    rcases h with rfl | rfl | rfl | rfl | rfl | rfl | rfl <;> decide
  have hpos : 0 < ((⟨#[c]⟩ : ByteArray) ++ r).size := by rw [ByteArray.size_append, hs]; omega
  have h1 : ((⟨#[c]⟩ : ByteArray) ++ r).extract 0 1 = ⟨#[c]⟩ := by
    rw [pre_app _ _ 1 (by rw [hs]; omega)]
    exact pre_all ⟨#[c]⟩
  have hsl : signLen ((⟨#[c]⟩ : ByteArray) ++ r) = 1 := by
    unfold signLen
    rw [if_neg, h1, if_pos]
    · refine ⟨by omega, ?_⟩
      rcases h with rfl | rfl | rfl | rfl | rfl | rfl | rfl <;> decide +kernel
    · rintro ⟨h2, h3⟩
      have hm := SG_one _ (hasS_iff.1 h3)
      have e2 : (((⟨#[c]⟩ : ByteArray) ++ r).extract 0 2).size = 2 := by rw [extract_size _ _ _ h2]
      have e0 : byteAt (((⟨#[c]⟩ : ByteArray) ++ r).extract 0 2) 0 = (c.toNat : Int) := by rw [byte0_pre _ _ (by omega), hb, hb2]
      rw [e2, e0] at hm
      rcases h with rfl | rfl | rfl | rfl | rfl | rfl | rfl <;> simp at hm
  unfold nextT
  rw [nameLen_zero hL, if_neg (by omega), runLen_zero hpos hD, if_neg (by omega), hsl, h1, hs]
theorem next_sign {o : Int} (h : 1 ≤ o ∧ o ≤ 14) {r : ByteArray} (hr : blankLed r) : nextT (signT o ++ r) = ((3, 0, signT o), (signT o).size) := by
  have e : nextT (signT o) = ((3, 0, signT o), (signT o).size) ∧ 0 < (signT o).size := by
    rcases op14 h with rfl | rfl | rfl | rfl | rfl | rfl | rfl | rfl | rfl | rfl | rfl | rfl | rfl | rfl <;> decide +kernel
  rw [next_blank _ _ e.2 hr, e.1]
/-- One token in front. -/
theorem px_tok {x r : ByteArray} {t : Int × Int × ByteArray} {L : List (Int × Int × ByteArray)} (hx : 0 < x.size) (hw : ¬ isW (byteAt x 0)) (hn : nextT (x ++ r) = (t, x.size)) (h : PX r L) : PX (x ++ r) (t :: L) := by
  intro line
  obtain ⟨l, hs, e⟩ := h line
  refine ⟨_ :: l, .tok (t := t) (n := x.size) (by rw [ByteArray.size_append]; omega) (by rw [byteAt_app _ _ _ hx]; exact hw) hn (by omega) (by rw [ext_app_right]; exact hs), by rw [List.map_cons, e]⟩
theorem px_name {s r : ByteArray} {L : List (Int × Int × ByteArray)} (hs : isName s = true) (hr : endsW r) (h : PX r L) : PX (s ++ r) ((1, 0, s) :: L) := by
  obtain ⟨h0, _, _, h3⟩ := isName_parts hs
  exact px_tok h0 (isL_notW h3) (next_name hs hr) h
theorem px_num {n : Int} {r : ByteArray} {L : List (Int × Int × ByteArray)} (hn : 0 ≤ n ∧ n ≤ 2147483647) (hr : endsW r) (h : PX r L) : PX (decS n.toNat ++ r) ((2, n, ⟨#[]⟩) :: L) := by
  have hp := decS_pos n.toNat
  refine px_tok hp (isD_notW (decS_all n.toNat _ ?_)) (next_num hn hr) h
  rw [byteAt_getD, List.getD_eq_getElem?_getD, List.getElem?_eq_getElem (by rw [bytesI_len]; exact hp)]
  exact List.getElem_mem _
theorem px_sg {c : UInt8} (hc : c = 40 ∨ c = 41 ∨ c = 91 ∨ c = 93 ∨ c = 45 ∨ c = 123 ∨ c = 125) {r : ByteArray} {L : List (Int × Int × ByteArray)} (h : PX r L) : PX ((⟨#[c]⟩ : ByteArray) ++ r) (sgT c :: L) := by
  refine px_tok (by show 0 < 1; omega) ?_ (next_sg hc r) h
  unfold isW
  rcases hc with rfl | rfl | rfl | rfl | rfl | rfl | rfl <;> decide
theorem px_sign {o : Int} (ho : 1 ≤ o ∧ o ≤ 14) {r : ByteArray} {L : List (Int × Int × ByteArray)} (hr : blankLed r) (h : PX r L) : PX (signT o ++ r) ((3, 0, signT o) :: L) := by
  have e : 0 < (signT o).size ∧ ¬ isW (byteAt (signT o) 0) := by
    unfold isW
    rcases op14 ho with rfl | rfl | rfl | rfl | rfl | rfl | rfl | rfl | rfl | rfl | rfl | rfl | rfl | rfl <;> decide +kernel
  exact px_tok e.1 e.2 (next_sign ho hr) h
theorem blanks_one : blanks ⟨#[32]⟩ := by
  intro c hc
  have : c = 32 := by simpa [bytesI] using hc
  exact .inl this
theorem px_sp {r : ByteArray} {L : List (Int × Int × ByteArray)} (h : PX r L) : PX ((⟨#[32]⟩ : ByteArray) ++ r) L := px_blank blanks_one h
theorem ends_sg {c : UInt8} (hc : isLD (c.toNat : Int) = false) (r : ByteArray) : endsW ((⟨#[c]⟩ : ByteArray) ++ r) := by
  refine .inr ?_
  rw [byteAt_app _ _ _ (by show 0 < 1; omega), byteAt_getD]
  exact hc
theorem led_sp (r : ByteArray) : blankLed ((⟨#[32]⟩ : ByteArray) ++ r) := by
  refine .inr ?_
  rw [byteAt_app _ _ _ (by show 0 < 1; omega), byteAt_getD]
  exact .inl rfl
/-- The tokens of an expression's text. -/
theorem px_text : ∀ (t : T) (r : ByteArray) (L : List (Int × Int × ByteArray)), t.ok → endsW r → PX r L → PX (textT t ++ r) (toksT t ++ L)
  | .nu n, r, L, h, hr, hL => by
    unfold T.ok at h
    unfold textT toksT
    by_cases hn : n < 0
    · rw [if_pos hn, if_pos hn, numS_neg n hn]
      simp only [ByteArray.append_assoc, List.cons_append, List.nil_append]
      refine px_sg (by decide) (px_sg (by decide) (px_num (by omega) (ends_sg (by decide) r) (px_sg (by decide) hL)))
    · rw [if_neg hn, if_neg hn, numS_nonneg n (by omega)]
      exact px_num (by omega) hr hL
  | .nm s, r, L, h, hr, hL => px_name h.1 hr hL
  | .ix s t, r, L, h, hr, hL => by
    unfold textT toksT
    simp only [ByteArray.append_assoc, List.cons_append, List.append_assoc, List.nil_append]
    exact px_name h.1.1 (ends_sg (by decide) _) (px_sg (by decide) (px_text t _ _ h.2 (ends_sg (by decide) _) (px_sg (by decide) hL)))
  | .bn o a b, r, L, h, hr, hL => by
    unfold textT toksT
    simp only [ByteArray.append_assoc, List.cons_append, List.append_assoc, List.nil_append]
    exact px_sg (by decide) (px_text a _ _ h.2.1 (ends_sg (by decide) _) (px_sp (px_sign h.1 (led_sp _) (px_sp (px_text b _ _ h.2.2 (ends_sg (by decide) _) (px_sg (by decide) hL))))))
end Go.Proofs.YtlniadfidfmckaaGreatDoor
end

section
namespace Go.Proofs.YtlniadfidfmckaaGreatDoor
open Go.Vc
set_option maxHeartbeats 4000000
attribute [local irreducible] JL JC JQ OpWp Con ConN

/-- A deck: the list, and some place in it. -/
abbrev DkRow (L : List Int) : List C := [.list (L.map Irow), .ex (fun i : Fin (L.length + 1) => .val (.int .i64 (i.1 : Int)))]
abbrev Dk (b : Nat) (L : List Int) : Ch := .blk b 67 (DkRow L)

theorem gFew_c (a : List Int) : Con Tryz.prog 5 [.cell (.list (a.map Irow))] [] (fun K => K (Bl (decide (a.length ≤ 400))) []) := by
  refine con_intro Tryz.func5 rfl rfl (Nat.le_of_ble_eq_true rfl) (fun c hc => R_ (E_ r_ (T_ (R_ (M_ r_ (o_ r_ (br_ r_ (fun hlen => o_ r_ (cu_ r_ r_ (E_ r_ (T_ (ar_ (jq_ret1 rfl rfl [] rfl (fun K h => ?_))))))))))))))
  have e : decide (a.length ≤ 400) = decide (((a.map Irow).length : Int) ≤ 400) := by simp; omega
  rw [e] at h
  exact h

theorem gMod_c (n k : Int) (hk : 1 ≤ k ∧ k ≤ 1000000000) (_hn : -9223372036854775808 ≤ n ∧ n ≤ 9223372036854775807) : Con Tryz.prog 9 [In .i64 n, In .i64 k] [] (fun K => K (In .i64 (n % k)) []) := by
  have h1 := Int.tmod_lt_of_pos n (show 0 < k by omega)
  have h2 : -k < n.tmod k := by
    have := Int.tmod_lt_of_pos (-n) (show 0 < k by omega)
    rw [Int.neg_tmod] at this
    omega
  have e : (n.tmod k + k) % k = n % k := by
    rw [Int.add_emod_right, Int.tmod_eq_emod]
    split
    · rw [show (n % k - ((0 : Nat) : Int)) = n % k by omega]
      exact Int.emod_emod_of_dvd n (Int.dvd_refl k)
    · rw [Int.sub_emod, show ((k.natAbs : Int)) = k by omega, Int.emod_self, Int.sub_zero, Int.emod_emod_of_dvd _ (Int.dvd_refl k)]
      exact Int.emod_emod_of_dvd n (Int.dvd_refl k)
  refine con_intro Tryz.func9 rfl rfl (Nat.le_of_ble_eq_true rfl) (fun c hc => R_ (E_ r_ (T_ (R_ (M_ r_ (M_ r_ (o_ r_ (ch_ r_ r_ g_ (M_ r_ (o_ r_ (bj_ r_ r_ g_ (M_ r_ (o_ r_ (ow_rem64 r_ r_ g_ g_ (E_ r_ (T_ (ar_ (jq_ret1 rfl rfl [] rfl (fun K h => by rw [← e] at h; exact h)))))))))))))))))))
theorem gNew_c (L : List Int) : Con Tryz.prog 7 [.cell (.list (L.map Irow))] [] (fun K => ∀ b, K (Ptr b) [Dk b L]) := by
  refine con_intro Tryz.func7 rfl rfl (Nat.le_of_ble_eq_true rfl) (fun c hc => R_ (E_ r_ (T_ (R_ (M_ r_ (o_ r_ (bu_ r_ r_ r_ r_ r_ (o_ r_ (ci_ r_ (fun bx => E_ r_ (T_ (ar_ (jq_row 0 (DkRow L) rfl (.cons (.refl _) (.cons (.ex (fun i : Fin (L.length + 1) => .val (.int .i64 (i.1 : Int))) ⟨0, by omega⟩) .nil)) (jq_ret1 rfl rfl [0] rfl (fun K h => h bx)))))))))))))))

/-- A number from 0 to n - 1; 0 where n is less. -/
abbrev Upto (n : Int) : S := .ex (fun i : {i : Int // 0 ≤ i ∧ (i < n ∨ i = 0)} => In .i64 i.1)
theorem gNext_c (L : List Int) (b : Nat) (n : Int) (hL : ∀ x ∈ L, -9223372036854775808 ≤ x ∧ x ≤ 9223372036854775807) (hlen : L.length ≤ 400) (hn : n ≤ 1000000000) :
    Con Tryz.prog 38 [Ptr b, In .i64 n] [Dk b L] (fun K => K (Upto n) [Dk b L]) := by
  refine con_intro Tryz.func38 rfl rfl (Nat.le_of_ble_eq_true rfl) (fun c hc => jc_open 0 rfl (.there .here) (fun i => ?_))
  obtain ⟨i, hi⟩ := i
  dsimp only
  have fin : ∀ k : Nat, k ≤ L.length → RowLe [.list (L.map Irow), .val (.int .i64 (k : Int))] (DkRow L) := fun k hk => .cons (.refl _) (.cons (.ex (fun i : Fin (L.length + 1) => .val (.int .i64 (i.1 : Int))) ⟨k, by omega⟩) .nil)
  have up : ∀ k, 0 ≤ k ∧ (k < n ∨ k = 0) → SLe (In .i64 k) (Upto n) := fun k hk => SLe.ex (fun i : {i : Int // 0 ≤ i ∧ (i < n ∨ i = 0)} => In .i64 i.1) ⟨k, hk⟩
  by_cases hge : (((L.map Irow).length : Nat) : Int) ≤ (i : Int)
  · refine R_ (E_ r_ (T_ (am_ (am_ (ao_ r_ r_ k_ k_ (yM_ r_ (yN_ r_ (yF_ r_ (yL_ 0 r_ (yM_ r_ (yN_ r_ (yF_ r_ (yL_ 0 r_ (aa_ (fun c => br_ r_ (fun hlen => p_)) (aa_ (fun c => cn_ r_ r_ p_) ?_)))))))))))))))
    refine yM_ r_ (ac_ r_ u_ (ac_ r_ u_ (aa_ (fun c => bp_ r_ u_ r_ p_) (ae_ (al_ (jc_cond rfl (fun _ => R_ (E_ r_ (T_ (ar_ (aw_ (jq_row 0 _ rfl (fin i g_) (jq_sle 4 rfl (up 0 g_) (jq_ret1 rfl rfl [0] rfl (fun K h => h))))))))) (fun h => by cases h)))))))
  · by_cases hn1 : n ≤ 1
    · refine R_ (E_ r_ (T_ (am_ (am_ (ao_ r_ r_ k_ k_ (yM_ r_ (yN_ r_ (yF_ r_ (yL_ 0 r_ (yM_ r_ (yN_ r_ (yF_ r_ (yL_ 0 r_ (aa_ (fun c => br_ r_ (fun hlen => p_)) (aa_ (fun c => cn_ r_ r_ p_) ?_)))))))))))))))
      refine yM_ r_ (ab_ r_ w_ (fun c => bd_ r_ p_) (ab_ r_ w_ (fun c => cu_ r_ r_ p_) (aa_ (fun c => bv_ r_ w_ r_ p_) (ae_ (al_ (jc_condd rfl (fun _ => R_ (E_ r_ (T_ (ar_ (aw_ (jq_row 0 _ rfl (fin i g_) (jq_sle 4 rfl (up 0 g_) (jq_ret1 rfl rfl [0] rfl (fun K h => h))))))))) (fun h => absurd hn1 h)))))))
    · have hlt : i < L.length := by simp at hge; omega
      have hlt2 : ((i : Int) + 1 - 1).toNat < L.length := by omega
      have hr := hL L[((i : Int) + 1 - 1).toNat] (List.getElem_mem hlt2)
      have hm := Int.emod_nonneg L[((i : Int) + 1 - 1).toNat] (show n ≠ 0 by omega)
      have hm2 := Int.emod_lt_of_pos L[((i : Int) + 1 - 1).toNat] (show 0 < n by omega)
      refine R_ (E_ r_ (T_ (am_ (am_ (ao_ r_ r_ k_ k_ (yM_ r_ (yN_ r_ (yF_ r_ (yL_ 0 r_ (yM_ r_ (yN_ r_ (yF_ r_ (yL_ 0 r_ (aa_ (fun c => br_ r_ (fun hlen => p_)) (aa_ (fun c => cn_ r_ r_ p_) ?_)))))))))))))))
      refine yM_ r_ (ab_ r_ w_ (fun c => bd_ r_ p_) (ab_ r_ w_ (fun c => cu_ r_ r_ p_) (aa_ (fun c => bv_ r_ w_ r_ p_) (ae_ (al_ (jc_condd rfl (fun h => absurd h hn1) (fun _ => as_ (al_ (R_ (M_ r_ (N_ r_ (F_ r_ (L_ 0 r_ (o_ r_ (bj_ r_ r_ g_ (N_ r_ ?_))))))))))))))))
      refine F_ r_ (W_ 0 r_ (T_ (am_ (ao_ r_ r_ k_ k_ (yM_ r_ (yN_ r_ (yF_ r_ (yL_ 0 r_ (yM_ r_ (yN_ r_ (yF_ r_ (yL_ 0 r_ (aa_ (fun c => cg_ r_ r_ g_ p_) (aa_ (fun c => cv_ r_ r_ g_ g_ r_ r_ b_ p_) (aa_ (fun c => cb_ r_ r_ p_) ?_)))))))))))))))
      refine yM_ r_ (aa_ (fun c => bm_ r_ (gMod_c _ _ g_ hr) p_) (yE_ r_ (ae_ (al_ (ar_ (jq_row 0 _ rfl (fin (i + 1) g_) (jq_sle 4 rfl (up _ ⟨hm, .inl hm2⟩) (jq_ret1 rfl rfl [0] rfl (fun K h => h)))))))))

theorem gNum_c (n : Int) : Con Tryz.prog 10 [In .i64 n] [] (fun K => K (.row (T.nu n).row') []) := by
  refine con_intro Tryz.func10 rfl rfl (Nat.le_of_ble_eq_true rfl) (fun c hc => R_ (o_ r_ (bl_ r_ r_ (fun bl => T_ (R_ (M_ r_ (o_ r_ (bu_ r_ r_ r_ r_ r_ (S_ 0 r_ (T_ (ar_ (jq_row 0 (T.nu n).row' rfl ?_ ?_))))))))))))
  · (repeat (first | exact RowLe.nil | refine RowLe.cons (CLe.refl _) ?_ | refine RowLe.cons CLe.nil ?_))
  · refine jq_retRow rfl rfl rfl rfl 0 rfl [] rfl (fun K h => h)
theorem gName_c (s : ByteArray) : Con Tryz.prog 12 [Str s] [] (fun K => K (.row (T.nm s).row') []) := by
  refine con_intro Tryz.func12 rfl rfl (Nat.le_of_ble_eq_true rfl) (fun c hc => R_ (o_ r_ (bl_ r_ r_ (fun bl => T_ (R_ (M_ r_ (o_ r_ (bu_ r_ r_ r_ r_ r_ (S_ 0 r_ (T_ (ar_ (jq_row 0 (T.nm s).row' rfl ?_ ?_))))))))))))
  · (repeat (first | exact RowLe.nil | refine RowLe.cons (CLe.refl _) ?_ | refine RowLe.cons CLe.nil ?_))
  · refine jq_retRow rfl rfl rfl rfl 0 rfl [] rfl (fun K h => h)
theorem gBin_c (o : Int) (a b : T) : Con Tryz.prog 11 [In .i64 o, .row a.row', .row b.row'] [] (fun K => K (.row (T.bn o a b).row') []) := by
  refine con_intro Tryz.func11 rfl rfl (Nat.le_of_ble_eq_true rfl) (fun c hc => R_ (o_ r_ (ci_ r_ (fun bx => o_ r_ (ci_ r_ (fun bx => o_ r_ (bl_ r_ r_ (fun bl => T_ (R_ (M_ r_ (A_ 2 r_ (A_ 1 r_ (o_ r_ (bq_ r_ r_ b_ r_ r_ b_ (o_ r_ (bu_ r_ r_ r_ r_ r_ (S_ 0 r_ (T_ (ar_ (jq_row 0 (T.bn o a b).row' rfl ?_ ?_))))))))))))))))))))
  · (repeat (first | exact RowLe.nil | refine RowLe.cons (CLe.refl _) ?_ | refine RowLe.cons CLe.nil ?_))
    exact RowLe.cons (CLe.eq (by simp [T.row_eq, T.args])) .nil
  · refine jq_retRow rfl rfl rfl rfl 0 rfl [] rfl (fun K h => h)

abbrev InR (L : List Int) : Prop := ∀ x ∈ L, -9223372036854775808 ≤ x ∧ x ≤ 9223372036854775807
theorem Nx_c {L : List Int} {b : Nat} (n : Int) (hL : InR L) (hLn : L.length ≤ 400) (hn : n ≤ 1000000000) :
    Con Tryz.prog 38 [Ptr b, In .i64 n] [Dk b L] (fun K => ∀ i : Int, (0 ≤ i ∧ (i < n ∨ i = 0)) → K (In .i64 i) [Dk b L]) :=
  con_exP (gNext_c L b n hL hLn hn)

theorem gOp_c {L : List Int} {b : Nat} (hL : InR L) (hLn : L.length ≤ 400) :
    Con Tryz.prog 139 [Ptr b] [Dk b L] (fun K => ∀ i : Int, (1 ≤ i ∧ i ≤ 14) → K (In .i64 i) [Dk b L]) := by
  refine con_intro Tryz.func139 rfl rfl (Nat.le_of_ble_eq_true rfl) (fun c hc => R_ (E_ r_ (T_ (R_ (M_ r_ (o_ r_ (bt_ [0] rfl rfl (Nx_c _ hL hLn g_) (fun i hi => o_ r_ (bj_ r_ r_ g_ (E_ r_ (T_ (ar_ (jq_ret1 rfl rfl [0] rfl (fun K h => h (1 + i) g_))))))))))))))

theorem gWord_c {L : List Int} {b : Nat} (hL : InR L) (hLn : L.length ≤ 400) :
    Con Tryz.prog 138 [Ptr b] [Dk b L] (fun K => ∀ i : Int, (-2147483648 ≤ i ∧ i ≤ 2147483647) → K (In .i64 i) [Dk b L]) := by
  refine con_intro Tryz.func138 rfl rfl (Nat.le_of_ble_eq_true rfl) (fun c hc => R_ (E_ r_ (T_ (am_ (R_ (M_ r_ (o_ r_ (bt_ [0] rfl rfl (Nx_c _ hL hLn g_) (fun k hk => T_ (au_ (R_ (o_ r_ (bn_ r_ r_ (E_ r_ (T_ (jc_condd rfl (fun h0 => ?_) (fun h0 => ?_)))))))))))))))))
  · refine R_ (M_ r_ (o_ r_ (bt_ [0] rfl rfl (Nx_c _ hL hLn g_) (fun i hi => o_ r_ (cy_ r_ g_ (E_ r_ (T_ (ar_ (az_ (aw_ (jq_ret1 rfl rfl [0] rfl (fun K h => h _ g_))))))))))))
  refine R_ (o_ r_ (bn_ r_ r_ (E_ r_ (T_ (jc_condd rfl (fun h1 => ?_) (fun h1 => ?_))))))
  · refine R_ (M_ r_ (o_ r_ (bt_ [0] rfl rfl (Nx_c _ hL hLn g_) (fun i hi => o_ r_ (cg_ r_ r_ g_ (E_ r_ (T_ (ar_ (az_ (aw_ (jq_ret1 rfl rfl [0] rfl (fun K h => h _ g_))))))))))))
  refine R_ (o_ r_ (bn_ r_ r_ (E_ r_ (T_ (jc_condd rfl (fun h2 => ?_) (fun h2 => ?_))))))
  · refine R_ (M_ r_ (o_ r_ (bt_ [0] rfl rfl (Nx_c _ hL hLn g_) (fun i hi => o_ r_ (bj_ r_ r_ g_ (E_ r_ (T_ (ar_ (az_ (aw_ (jq_ret1 rfl rfl [0] rfl (fun K h => h _ g_))))))))))))
  refine R_ (o_ r_ (bn_ r_ r_ (E_ r_ (T_ (jc_condd rfl (fun h3 => ?_) (fun h3 => ?_))))))
  · refine R_ (M_ r_ (o_ r_ (bt_ [0] rfl rfl (Nx_c _ hL hLn g_) (fun i hi => ?_))))
    have h5 : (0 : Int) ≤ 1 * 2 ^ i.toNat ∧ (1 : Int) * 2 ^ i.toNat ≤ 1073741824 := by
      have h6 : (2 : Nat) ^ i.toNat ≤ 2 ^ 30 := Nat.pow_le_pow_right (by omega) (by omega)
      have h7 : ((2 ^ i.toNat : Nat) : Int) = (2 : Int) ^ i.toNat := by simp
      have h8 : (0 : Int) ≤ (2 : Int) ^ i.toNat := h7 ▸ Int.natCast_nonneg _
      omega
    refine o_ r_ (ow_convU64 r_ r_ r_ g_ (o_ r_ (ow_shl64 r_ r_ g_ g_ (E_ r_ (T_ (ar_ (az_ (aw_ (jq_ret1 rfl rfl [0] rfl (fun K h => h _ g_))))))))))
  · refine as_ (ay_ (al_ (R_ (M_ r_ (o_ r_ (bt_ [0] rfl rfl (Nx_c _ hL hLn g_) (fun i hi => E_ r_ (T_ (ar_ (jq_ret1 rfl rfl [0] rfl (fun K h => h _ g_)))))))))))

/-- The deck, the variables, the slice of the loops under way, the arrays, the shared arrays, what is held, labels, statements left, loops under way. -/
abbrev MkRow (bd : Nat) (V : List ByteArray) (lv : Value) (A : List ByteArray) (Sh : List Shd) (hs : ByteArray) (lab st il : Int) : List C :=
  [.val (.pointer (some ⟨bd, 0, none⟩)), .list (V.map Wrow), .val lv, .list (A.map Wrow), .list (Sh.map ShRow), .val (.string hs), .val (.int .i64 lab), .val (.int .i64 st), .val (.int .i64 il)]
abbrev Mk (bm bd : Nat) (V : List ByteArray) (lv : Value) (A : List ByteArray) (Sh : List Shd) (hs : ByteArray) (lab st il : Int) : Ch := .blk bm 134 (MkRow bd V lv A Sh hs lab st il)

theorem gname_c {L : List Int} {bm bd : Nat} {V A : List ByteArray} {lv : Value} {Sh : List Shd} {hs : ByteArray} {lab st il : Int} (hL : InR L) (hLn : L.length ≤ 400) (l : List ByteArray) (h0 : 0 < l.length) (h1 : l.length ≤ 1000) :
    Con Tryz.prog 121 [Ptr bm, .cell (.list (l.map Wrow))] [Mk bm bd V lv A Sh hs lab st il, Dk bd L] (fun K => ∀ s : ByteArray, s ∈ l → K (Str s) [Mk bm bd V lv A Sh hs lab st il, Dk bd L]) := by
  refine con_intro Tryz.func121 rfl rfl (Nat.le_of_ble_eq_true rfl) (fun c hc => R_ (E_ r_ (T_ (R_ (M_ r_ (M_ r_ (N_ r_ (F_ r_ (L_ 0 r_ (M_ r_ (o_ r_ (br_ r_ (fun hlen => o_ r_ (bt_ [1] rfl rfl (Nx_c _ hL hLn (by simp; omega)) (fun i hi => ?_)))))))))))))))
  simp only [List.length_map] at hi
  refine o_ r_ (cv_ r_ r_ g_ g_ r_ r_ b_ (o_ r_ (cb_ r_ r_ (E_ r_ (T_ (ar_ (jq_ret1 rfl rfl [1, 0] rfl (fun K h => h _ (List.getElem_mem _)))))))))
end Go.Proofs.YtlniadfidfmckaaGreatDoor
end

section
namespace Go.Proofs.YtlniadfidfmckaaGreatDoor
open Go.Vc
set_option maxHeartbeats 4000000
attribute [local irreducible] JL JC JQ OpWp Con ConN


def usableF (A : List ByteArray) (Sh : List Shd) (hs : ByteArray) : List ByteArray := A ++ Sh.filterMap fun s => if s.2.2 = hs then some s.1 else none
theorem usable_len (A : List ByteArray) (Sh : List Shd) (hs : ByteArray) : (usableF A Sh hs).length ≤ A.length + Sh.length := by
  unfold usableF
  rw [List.length_append]
  have := List.length_filterMap_le (fun s : Shd => if s.2.2 = hs then some s.1 else none) Sh
  omega
/-- An expression of at most a depth, of some variables, arrays. -/
inductive ExG (V U : List ByteArray) : Nat → T → Prop
  | nu (d : Nat) (n : Int) (h : -2147483647 ≤ n ∧ n ≤ 2147483647) : ExG V U d (.nu n)
  | nm (d : Nat) (s : ByteArray) (h : s ∈ V) : ExG V U d (.nm s)
  | ix (d : Nat) (s : ByteArray) (t : T) (h : s ∈ U) (ht : ExG V U d t) : ExG V U (d + 1) (.ix s t)
  | bn (d : Nat) (o : Int) (a b : T) (ho : 1 ≤ o ∧ o ≤ 14) (ha : ExG V U d a) (hb : ExG V U d b) : ExG V U (d + 1) (.bn o a b)
theorem ExG.pos {x : Int} (h : 0 < x) : x.toNat = (x - 1).toNat + 1 := by omega
section
variable {L : List Int} {bm bd : Nat} {V A LS : List ByteArray} {lv : Value} {Sh : List Shd} {hs : ByteArray} {lab st il : Int}

theorem gusable_c (hA : A.length ≤ 100) (hSh : Sh.length ≤ 100) :
    Con Tryz.prog 120 [Ptr bm] [Mk bm bd V lv A Sh hs lab st il] (fun K => K (.cell (.list ((usableF A Sh hs).map Wrow))) [Mk bm bd V lv A Sh hs lab st il]) := by
  have eS : (Sh.map ShRow).length = Sh.length := List.length_map _
  refine con_intro Tryz.func120 rfl rfl (Nat.le_of_ble_eq_true rfl) (fun c hc => R_ (E_ r_ (T_ (R_ (o_ r_ (ow_buildSliceOwn rfl rfl b_ rfl rfl b_ (fun v0 hv0 fv0 => M_ r_ (N_ r_ (F_ r_ (L_ 1 r_ (o_ r_ (ow_appendM (f := Wrow) (l1 := []) (l2 := A) 0 rfl rfl rfl rfl rfl rfl rfl (fun _ => rfl) (by show (0 + _) * 16 ≤ _; omega) (by simp; omega) (fun v1 hv1 => E_ r_ (T_ (am_ (R_ (E_ r_ ?_)))))))))))))))))
  refine T_ (au_ (jc_loopS (ι := Nat × Value) [] (fun i => i.1 ≤ Sh.length) (fun i => [(0, Ptr bm), (3, .cell (.val i.2)), (4, In .i64 (i.1 : Int))]) (fun i => [.own i.2 9 1 ((usableF A (Sh.take i.1) hs).map Wrow), Mk bm bd V lv A Sh hs lab st il]) (fun i => Sh.length - i.1) (0, v1) (Nat.zero_le _) ?_ ?_ ?_))
  · rw [show usableF A (Sh.take 0) hs = A by simp [usableF]]
    exact bc_ 0 r_ (bc_ 0 r_ sub_end)
  · (repeat (first | exact True.intro | refine ⟨rfl, ?_⟩))
  rintro ⟨k, v⟩ hk
  dsimp only at hk ⊢
  have hlen := usable_len A (Sh.take k) hs
  have htk : (Sh.take k).length ≤ k := by rw [List.length_take]; omega
  refine jc_reset [(0, Ptr bm), (3, .cell (.val v)), (4, In .i64 (k : Int))] [.own v 9 1 ((usableF A (Sh.take k) hs).map Wrow), Mk bm bd V lv A Sh hs lab st il] ?_ ⟨[0, 0], [], rfl⟩ ?_
  · (repeat (first | exact True.intro | refine ⟨rfl, ?_⟩))
  by_cases hlt : k < Sh.length
  · have hlt' : (k : Int) < ((Sh.map ShRow).length : Int) := by omega
    by_cases he : Sh[k].2.2 = hs
    · have e2 : usableF A (Sh.take (k + 1)) hs = usableF A (Sh.take k) hs ++ [Sh[k].1] := by
        unfold usableF
        rw [List.take_succ_eq_append_getElem hlt, List.filterMap_append, List.append_assoc]
        simp [he]
      refine am_ (R_ (M_ r_ (M_ r_ (N_ r_ (F_ r_ (L_ 1 r_ (o_ r_ (br_ r_ (fun hlen => o_ r_ (bw_ r_ r_ (T_ (aq_ r_ u_ (as_ (al_ (B_ (am_ (ao_ r_ r_ k_ k_ ?_)))))))))))))))))
      refine yM_ r_ (yN_ r_ (yF_ r_ (yL_ 1 r_ (yM_ r_ (aa_ (fun c => cc_ r_ r_ g_ r_ r_ b_ p_) (aa_ (fun c => cf_ r_ r_ r_ b_ r_ b_ p_) (aa_ (fun c => cb_ r_ r_ p_) (yM_ r_ (yN_ r_ (yF_ r_ (yL_ 1 r_ (aa_ (fun c => cs_ r_ r_ p_) (ae_ (al_ (aq_ r_ u_ ?_)))))))))))))))
      refine an_ (M_ r_ (M_ r_ (N_ r_ (F_ r_ (L_ 1 r_ (M_ r_ (o_ r_ (cc_ r_ r_ g_ r_ r_ b_ (o_ r_ (cf_ r_ r_ r_ b_ r_ b_ (o_ r_ (cf_ r_ r_ r_ b_ r_ b_ (o_ r_ (cb_ r_ r_ (o_ r_ (bq_ r_ r_ b_ r_ r_ b_ ?_))))))))))))))))
      refine o_ r_ (ow_append1 0 (Sh[k].1) rfl rfl rfl rfl rfl rfl rfl (fun _ => rfl) (by show (_ + _) * 16 ≤ _; first | omega | (simp only [List.length_append]; omega)) (by first | omega | (simp only [List.length_append]; omega)) (fun v2 hv2 => E_ r_ (ak_ (ay_ (al_ (an_ (M_ r_ (o_ r_ (bj_ r_ r_ g_ (E_ r_ (ak_ (jq_againS (i := (k, v)) ((k + 1, v2) : Nat × Value) hlt (by dsimp only; omega) ?_ ?_))))))))))))
      · rw [e2]
        exact bc_ 0 r_ (bc_ 0 r_ sub_end)
      · (repeat (first | exact True.intro | refine ⟨rfl, ?_⟩))
    · have e2 : usableF A (Sh.take (k + 1)) hs = usableF A (Sh.take k) hs := by
        unfold usableF
        rw [List.take_succ_eq_append_getElem hlt, List.filterMap_append]
        simp [he]
      refine am_ (R_ (M_ r_ (M_ r_ (N_ r_ (F_ r_ (L_ 1 r_ (o_ r_ (br_ r_ (fun hlen => o_ r_ (bw_ r_ r_ (T_ (aq_ r_ u_ (as_ (al_ (B_ (am_ (ao_ r_ r_ k_ k_ ?_)))))))))))))))))
      refine yM_ r_ (yN_ r_ (yF_ r_ (yL_ 1 r_ (yM_ r_ (aa_ (fun c => cc_ r_ r_ g_ r_ r_ b_ p_) (aa_ (fun c => cf_ r_ r_ r_ b_ r_ b_ p_) (aa_ (fun c => cb_ r_ r_ p_) (yM_ r_ (yN_ r_ (yF_ r_ (yL_ 1 r_ (aa_ (fun c => cs_ r_ r_ p_) (ae_ (al_ (ap_ r_ w_ ?_)))))))))))))))
      refine as_ (ay_ (al_ (an_ (M_ r_ (o_ r_ (bj_ r_ r_ g_ (E_ r_ (ak_ (jq_againS (i := (k, v)) ((k + 1, v) : Nat × Value) hlt (by dsimp only; omega) ?_ ?_)))))))))
      · rw [e2]
        exact bc_ 0 r_ (bc_ 0 r_ sub_end)
      · (repeat (first | exact True.intro | refine ⟨rfl, ?_⟩))
  · have hlt' : ¬ (k : Int) < ((Sh.map ShRow).length : Int) := by omega
    have e2 : Sh.take k = Sh := List.take_of_length_le (by omega)
    rw [e2]
    refine am_ (R_ (M_ r_ (M_ r_ (N_ r_ (F_ r_ (L_ 1 r_ (o_ r_ (br_ r_ (fun hlen => o_ r_ (bw_ r_ r_ (T_ (ap_ r_ w_ (av_ (ax_ (ax_ (ba_ (al_ ?_)))))))))))))))))
    refine R_ (M_ r_ (E_ r_ (T_ (ar_ (jq_freeze 2 0 rfl rfl (by rw [hc]; simp [hb]) (jq_ret1 rfl rfl [0] rfl (fun K h => h)))))))
theorem gtarget_c (hL : InR L) (hLn : L.length ≤ 400) (hV0 : 0 < V.length) (hV : V.length ≤ 100) (hLS : LS.length ≤ 100) :
    Con Tryz.prog 125 [Ptr bm] [Mk bm bd V lv A Sh hs lab st il, Dk bd L, .own lv 9 1 (LS.map Wrow)] (fun K => ∀ s : ByteArray, s ∈ V → K (Str s) [Mk bm bd V lv A Sh hs lab st il, Dk bd L, .own lv 9 1 (LS.map Wrow)]) := by
  have eV : (V.map Wrow).length = V.length := List.length_map _
  refine con_intro Tryz.func125 rfl rfl (Nat.le_of_ble_eq_true rfl) (fun c hc => R_ (E_ r_ (T_ (R_ (M_ r_ (M_ r_ (N_ r_ (F_ r_ (L_ 0 r_ (o_ r_ (bt_ [0, 0] rfl rfl (gname_c hL hLn V hV0 g_) (fun s hs1 => E_ r_ (T_ (am_ (R_ (E_ r_ ?_))))))))))))))))
  refine T_ (au_ (jc_loop [0, 3] (fun k => k ≤ LS.length) (fun k => [(4, In .i64 (k : Int))]) (fun _ => [Mk bm bd V lv A Sh hs lab st il, Dk bd L, .own lv 9 1 (LS.map Wrow)]) (fun k => LS.length - k) 0 [0, 0, 0] (Nat.zero_le _) rfl ?_ ?_))
  · (repeat (first | exact True.intro | refine ⟨rfl, ?_⟩))
  · intro k hk
    refine am_ (R_ (M_ r_ (M_ r_ (N_ r_ (F_ r_ (L_ 0 r_ (o_ r_ (cw_ 2 r_ r_ (fun hlen => o_ r_ (bw_ r_ r_ (T_ (jc_condd rfl (fun hlt => ?_) (fun hge => ?_)))))))))))))
    · simp only [List.length_map, Int.ofNat_lt] at hlt
      refine as_ (al_ (B_ (R_ (M_ r_ (N_ r_ (F_ r_ (L_ 0 r_ (M_ r_ (o_ r_ (dc_ 2 rfl rfl rfl g_ (by simp only [List.length_map]; omega) rfl (o_ r_ (db_ 2 r_ r_ r_ g_ r_ (M_ r_ (o_ r_ (cs_ r_ r_ (T_ (jc_condd rfl (fun he => ?_) (fun hne => ?_))))))))))))))))))
      · refine am_ (ao_ r_ r_ k_ k_ (yM_ r_ (yN_ r_ (yF_ r_ (yL_ 0 r_ (yM_ r_ (yN_ r_ (yF_ r_ (yL_ 0 r_ (aa_ (fun c => br_ r_ (fun hlen => p_)) (aa_ (fun c => cg_ r_ r_ g_ p_) (aa_ (fun c => cv_ r_ r_ g_ g_ r_ r_ b_ p_) (aa_ (fun c => cb_ r_ r_ p_) (yE_ r_ (ae_ ?_)))))))))))))))
        refine al_ (ar_ (az_ (aw_ (aw_ (az_ (aw_ (jq_ret1 rfl rfl [0, 0, 0] rfl (fun K h => h _ (List.getElem_mem _)))))))))
      · refine as_ (ay_ (al_ (an_ (M_ r_ (o_ r_ (bj_ r_ r_ g_ (E_ r_ (ak_ (jq_again (k + 1) [0, 0, 0] hlt g_ rfl ?_)))))))))
        (repeat (first | exact True.intro | refine ⟨rfl, ?_⟩))
    · refine av_ (ax_ (ax_ (ba_ (al_ (R_ (M_ r_ (E_ r_ (T_ (ar_ (jq_ret1 rfl rfl [0, 0, 0] rfl (fun K h => h _ hs1)))))))))))

theorem gexpr_step (hL : InR L) (hLn : L.length ≤ 400) (hV0 : 0 < V.length) (hV : V.length ≤ 100) (hA : A.length ≤ 100) (hSh : Sh.length ≤ 100) (d : Int) (hd0 : -100 ≤ d) (hd1 : d ≤ 100)
    (ih : 0 < d → Con Tryz.prog 122 [Ptr bm, In .i64 (d - 1)] [Mk bm bd V lv A Sh hs lab st il, Dk bd L] (fun K => ∀ e : T, ExG V (usableF A Sh hs) (d - 1).toNat e → K (.row e.row') [Mk bm bd V lv A Sh hs lab st il, Dk bd L])) :
    Con Tryz.prog 122 [Ptr bm, In .i64 d] [Mk bm bd V lv A Sh hs lab st il, Dk bd L] (fun K => ∀ e : T, ExG V (usableF A Sh hs) d.toNat e → K (.row e.row') [Mk bm bd V lv A Sh hs lab st il, Dk bd L]) := by
  refine con_intro Tryz.func122 rfl rfl (Nat.le_of_ble_eq_true rfl) (fun c hc => R_ (o_ r_ (bl_ r_ r_ (fun bl => T_ (R_ (M_ r_ (N_ r_ (F_ r_ (L_ 1 r_ (o_ r_ (bt_ [2] rfl rfl (Nx_c _ hL hLn g_) (fun k0 hk0 => E_ r_ (T_ (am_ (R_ (M_ r_ (o_ r_ (cu_ r_ r_ ?_))))))))))))))))))
  refine T_ ?_
  have ht : 0 ≤ k0 % 3 ∧ k0 % 3 ≤ 2 := by omega
  refine jc_cut (ι := Int) [0, 1, 4] (fun k => 0 ≤ k ∧ k ≤ 5 ∧ (d ≤ 0 → k ≤ 2)) (fun k => [(5, In .i64 k)]) (fun _ => [Mk bm bd V lv A Sh hs lab st il, Dk bd L, .blk bl 53 [.val (.int .i64 0), .val (.int .i64 0), .val (.string ⟨#[]⟩), .val (.int .i64 0), .val (.slice none 0 0)]]) ?_ ?_
  · refine jc_condd rfl (fun hd => ?_) (fun hd => ?_)
    · refine an_ (M_ r_ (o_ r_ (ow_rem64 r_ r_ g_ g_ (E_ r_ (ak_ (jq_cut (k0 % 3) [2, 0, 0] ⟨ht.1, by omega, fun _ => ht.2⟩ rfl ?_))))))
      (repeat (first | exact True.intro | refine ⟨rfl, ?_⟩))
    · refine as_ (jq_cut k0 [2, 0, 0] ⟨hk0.1, by omega, fun h => absurd h hd⟩ rfl ?_)
      (repeat (first | exact True.intro | refine ⟨rfl, ?_⟩))
  · intro k ⟨hka, hkb, hkd⟩
    refine am_ (R_ (M_ r_ (T_ (au_ (R_ (o_ r_ (bn_ r_ r_ (E_ r_ (T_ (jc_condd rfl (fun h0 => ?_) (fun h0 => ?_)))))))))))
    · refine R_ (M_ r_ (N_ r_ (F_ r_ (L_ 0 r_ (o_ r_ (bt_ [1] rfl rfl (Nx_c _ hL hLn g_) (fun n1 hn1 => E_ r_ (T_ (am_ (R_ (M_ r_ (N_ r_ (F_ r_ (L_ 1 r_ (o_ r_ (bt_ [0] rfl rfl (Nx_c _ hL hLn g_) (fun n2 hn2 => o_ r_ (bn_ r_ r_ ?_))))))))))))))))))
      refine T_ (jc_cut (ι := Int) [0, 1, 4] (fun k => -2147483647 ≤ k ∧ k ≤ 2147483647) (fun k => [(6, In .i64 k)]) (fun _ => [Mk bm bd V lv A Sh hs lab st il, Dk bd L, .blk bl 53 [.val (.int .i64 0), .val (.int .i64 0), .val (.string ⟨#[]⟩), .val (.int .i64 0), .val (.slice none 0 0)]]) ?_ ?_)
      · refine jc_condd rfl (fun _ => ?_) (fun _ => ?_)
        · refine an_ (M_ r_ (N_ r_ (F_ r_ (L_ 1 r_ (o_ r_ (bt_ [0] rfl rfl (gWord_c hL hLn) (fun n3 hn3 => o_ r_ (ck_ r_ r_ (E_ r_ (ak_ (jq_cut (max (-2147483647) n3) [1, 0, 0] g_ rfl ?_)))))))))))
          (repeat (first | exact True.intro | refine ⟨rfl, ?_⟩))
        · refine as_ (jq_cut n1 [1, 0, 0] g_ rfl ?_)
          (repeat (first | exact True.intro | refine ⟨rfl, ?_⟩))
      · intro n3 hn3
        refine R_ (M_ r_ (o_ r_ (bm_ r_ (gNum_c _) (S_ 2 r_ (T_ (ar_ (az_ (aw_ (jq_retRow rfl rfl rfl rfl 0 rfl [1, 1] rfl (fun K h => h _ (.nu _ _ hn3)))))))))))
    · refine R_ (o_ r_ (bn_ r_ r_ (E_ r_ (T_ (jc_condd rfl (fun h3 => ?_) (fun h3 => ?_))))))
      · refine R_ (M_ r_ ?_)
        have hU := usable_len A Sh hs
        refine o_ r_ (bi_ [0] r_ r_ (gusable_c hA hSh) (E_ r_ (T_ (R_ (M_ r_ (o_ r_ (br_ r_ (fun hlen => o_ r_ (bz_ r_ r_ (T_ (jc_condd rfl (fun hp => ?_) (fun hp => ?_))))))))))))
        · simp only [List.length_map] at hp
          refine R_ (M_ r_ (M_ r_ (o_ r_ (bt_ [0, 0] rfl rfl (gname_c hL hLn (usableF A Sh hs) g_ g_) (fun s hs1 => M_ r_ (M_ r_ (o_ r_ (cg_ r_ r_ g_ (o_ r_ (bt_ [0, 0] rfl rfl (ih g_) (fun e1 he1 => o_ r_ (bq_ r_ r_ b_ r_ r_ b_ (o_ r_ (bu_ r_ r_ r_ r_ r_ (S_ 2 r_ (T_ (ar_ (az_ (aw_ (jq_row 0 (T.ix s e1).row' rfl ?_ ?_))))))))))))))))))))
          · (repeat (first | exact RowLe.nil | refine RowLe.cons (CLe.refl _) ?_ | refine RowLe.cons CLe.nil ?_))
            exact RowLe.cons (CLe.eq (by simp [T.row_eq, T.args])) .nil
          · refine jq_retRow rfl rfl rfl rfl 0 rfl [1, 1] rfl (fun K h => h _ (by rw [ExG.pos (x := d) g_]; exact .ix _ _ _ hs1 he1))
        · refine as_ (ay_ (al_ (R_ (M_ r_ (M_ r_ (N_ r_ (F_ r_ (L_ 0 r_ (o_ r_ (bt_ [0, 0] rfl rfl (gname_c hL hLn V hV0 g_) (fun s hs1 => o_ r_ (bm_ r_ (gName_c _) (S_ 2 r_ (T_ (ar_ (jq_retRow rfl rfl rfl rfl 0 rfl [1, 1] rfl (fun K h => h _ (.nm _ _ hs1))))))))))))))))))
      · refine am_ (R_ (o_ r_ (bn_ r_ r_ (E_ r_ (T_ (jc_condd rfl (fun h4 => ?_) (fun h4 => ?_)))))))
        · refine as_ (al_ (jc_condd rfl (fun _ => R_ (M_ r_ (N_ r_ (F_ r_ (L_ 0 r_ (o_ r_ (bt_ [1] rfl rfl (gOp_c hL hLn) (fun o ho => M_ r_ (M_ r_ (o_ r_ (cg_ r_ r_ g_ (o_ r_ (bt_ [1, 0] rfl rfl (ih g_) (fun e1 he1 => M_ r_ (M_ r_ (o_ r_ (cg_ r_ r_ g_ ?_))))))))))))))))) (fun h => absurd h4 h)))
          refine o_ r_ (bt_ [0, 0] rfl rfl (ih g_) (fun e2 he2 => o_ r_ (bm_ r_ (gBin_c _ _ _) (S_ 2 r_ (T_ (ar_ (az_ (aw_ (jq_retRow rfl rfl rfl rfl 0 rfl [1, 1] rfl (fun K h => h _ (by rw [ExG.pos (x := d) g_]; exact .bn _ _ _ _ ho he1 he2)))))))))))
        · refine an_ (o_ r_ (bn_ r_ r_ (E_ r_ (T_ (jc_condd rfl (fun h5 => ?_) (fun h5 => ?_))))))
          · refine R_ (M_ r_ (N_ r_ (F_ r_ (L_ 0 r_ (o_ r_ (bt_ [1] rfl rfl (gOp_c hL hLn) (fun o ho => M_ r_ (M_ r_ (o_ r_ (cg_ r_ r_ g_ (o_ r_ (bt_ [1, 0] rfl rfl (ih g_) (fun e1 he1 => M_ r_ (M_ r_ (o_ r_ (cg_ r_ r_ g_ (o_ r_ (bt_ [0, 0] rfl rfl (ih g_) (fun e2 he2 => o_ r_ (bm_ r_ (gBin_c _ _ _) (S_ 2 r_ ?_)))))))))))))))))))))
            refine T_ (ar_ (az_ (aw_ (jq_retRow rfl rfl rfl rfl 0 rfl [1, 1] rfl (fun K h => h _ (by rw [ExG.pos (x := d) g_]; exact .bn _ _ _ _ ho he1 he2))))))
          · refine as_ (ay_ (al_ (R_ (M_ r_ (M_ r_ (N_ r_ (F_ r_ (L_ 0 r_ (o_ r_ (bt_ [0, 0] rfl rfl (gname_c hL hLn V hV0 g_) (fun s hs1 => o_ r_ (bm_ r_ (gName_c _) (S_ 2 r_ (T_ (ar_ (jq_retRow rfl rfl rfl rfl 0 rfl [1, 1] rfl (fun K h => h _ (.nm _ _ hs1))))))))))))))))))

theorem gexpr_c (hL : InR L) (hLn : L.length ≤ 400) (hV0 : 0 < V.length) (hV : V.length ≤ 100) (hA : A.length ≤ 100) (hSh : Sh.length ≤ 100) : ∀ (n : Nat) (d : Int), d ≤ n → -100 ≤ d → n ≤ 100 →
    Con Tryz.prog 122 [Ptr bm, In .i64 d] [Mk bm bd V lv A Sh hs lab st il, Dk bd L] (fun K => ∀ e : T, ExG V (usableF A Sh hs) d.toNat e → K (.row e.row') [Mk bm bd V lv A Sh hs lab st il, Dk bd L])
  | 0, d, h1, h2, _ => gexpr_step hL hLn hV0 hV hA hSh d h2 (by omega) (fun h => by omega)
  | n + 1, d, h1, h2, h3 => gexpr_step hL hLn hV0 hV hA hSh d h2 (by omega) (fun h => gexpr_c hL hLn hV0 hV hA hSh n (d - 1) (by omega) (by omega) (by omega))
end
end Go.Proofs.YtlniadfidfmckaaGreatDoor
end

section
namespace Go.Proofs.YtlniadfidfmckaaGreatDoor
open Go.Vc
set_option maxHeartbeats 4000000
attribute [local irreducible] JL JC JQ OpWp Con ConN


section
variable {L : List Int} {bm bd : Nat} {V A LS : List ByteArray} {lv : Value} {Sh : List Shd} {hs : ByteArray} {lab st il : Int}

theorem gcondition_c (hL : InR L) (hLn : L.length ≤ 400) (hV0 : 0 < V.length) (hV : V.length ≤ 100) (hA : A.length ≤ 100) (hSh : Sh.length ≤ 100) :
    Con Tryz.prog 123 [Ptr bm] [Mk bm bd V lv A Sh hs lab st il, Dk bd L] (fun K => ∀ e : T, ExG V (usableF A Sh hs) 2 e → K (.row e.row') [Mk bm bd V lv A Sh hs lab st il, Dk bd L]) := by
  refine con_intro Tryz.func123 rfl rfl (Nat.le_of_ble_eq_true rfl) (fun c hc => R_ (o_ r_ (bl_ r_ r_ (fun bl => T_ (am_ (R_ (M_ r_ (N_ r_ (F_ r_ (L_ 1 r_ (o_ r_ (bt_ [2] rfl rfl (Nx_c _ hL hLn g_) (fun k0 hk0 => o_ r_ (bn_ r_ r_ (T_ (jc_condd rfl (fun h3 => ?_) (fun h3 => ?_)))))))))))))))))
  · refine R_ (M_ r_ (o_ r_ (bt_ [2, 0] rfl rfl (gexpr_c hL hLn hV0 hV hA hSh 2 2 g_ g_ g_) (fun e1 he1 => S_ 2 r_ (T_ (ar_ (aw_ (jq_retRow rfl rfl rfl rfl 0 rfl [1, 1] rfl (fun K h => h _ he1)))))))))
  · refine as_ (al_ (am_ (jc_anyB 20 none rfl k_ k_ (yM_ r_ (yN_ r_ (yF_ r_ (yL_ 2 r_ (aa_ (fun c => ow_callA [0] r_ r_ (gNext_c L _ _ hL hLn g_)) (aa_ (fun c => ow_exarg 15 rfl (fun i => bj_ rfl rfl (by have := i.2; omega) ⟨rfl, .refl _⟩)) (yM_ r_ (yM_ r_ (yN_ r_ (yF_ r_ (yL_ 2 r_ (aa_ (fun c => ow_callA [2, 0] r_ r_ (con_toEx (gname_c hL hLn V hV0 g_))) ?_)))))))))))))))
    refine aa_ (fun c => ow_exarg 22 rfl (fun i => bm_ rfl (gName_c _) ⟨rfl, .refl _⟩)) (yM_ r_ (yN_ r_ (yF_ r_ (yL_ 2 r_ (aa_ (fun c => ow_callA [0] r_ r_ (gNext_c L _ _ hL hLn g_)) (aa_ (fun c => ow_exarg 28 rfl (fun i => bm_ rfl (gNum_c _) ⟨rfl, .refl _⟩)) (aa_ (fun c => ow_exarg 16 rfl (fun i => ow_exarg 23 rfl (fun j => ow_exarg 29 rfl (fun k => bm_ rfl (gBin_c _ _ _) ⟨rfl, .refl _⟩)))) (ae_ (afin_none ?_)))))))))
    refine jl_slot 30 rfl (fun i => jl_slot 30 rfl (fun j => jl_slot 30 rfl (fun k => S_ 1 r_ (T_ (ar_ (jq_retRow rfl rfl rfl rfl 0 rfl [2, 1] rfl (fun K h => h _ (.bn _ _ _ _ (by have := i.2; omega) (.nm _ _ j.2) (.nu _ _ (by have := k.2; omega))))))))))
end

def czT : T → Int
  | .nu n => if 0 ≤ n ∧ n ≤ 9 then 1 else 13
  | .nm _ => 3
  | .ix _ t => 5 + czT t
  | .bn _ a b => 6 + czT a + czT b
theorem czT_nn : ∀ t : T, 0 ≤ czT t
  | .nu n => by unfold czT; split <;> omega
  | .nm _ => by unfold czT; omega
  | .ix _ t => by have := czT_nn t; unfold czT; omega
  | .bn _ a b => by have := czT_nn a; have := czT_nn b; unfold czT; omega
def czTs : List T → Int
  | [] => 0
  | t :: l => czT t + czTs l
mutual
def Sm.cz : Sm → Int
  | .mk k _ i v _ _ t e => (if k = 1 then 15 else if k = 2 then 17 else if k = 3 then 50 else if k = 4 then 42 else 29) + czTs i + czTs v + Sm.czs t + Sm.czs e
def Sm.czs : List Sm → Int
  | [] => 0
  | s :: l => s.cz + Sm.czs l
end
theorem Sm.czs_app : ∀ l m : List Sm, Sm.czs (l ++ m) = Sm.czs l + Sm.czs m
  | [], m => by simp [Sm.czs]
  | s :: l, m => by simp only [List.cons_append, Sm.czs, Sm.czs_app l m]; omega
theorem czTs_nn : ∀ l : List T, 0 ≤ czTs l
  | [] => by simp [czTs]
  | t :: l => by have := czT_nn t; have := czTs_nn l; unfold czTs; omega
mutual
theorem Sm.cz_nn : ∀ s : Sm, 0 ≤ s.cz
  | .mk k _ i v _ _ t e => by
    have h1 := Sm.czs_nn t
    have h2 := Sm.czs_nn e
    have h3 := czTs_nn i
    have h4 := czTs_nn v
    have h5 : 0 ≤ (if k = 1 then 15 else if k = 2 then 17 else if k = 3 then 50 else if k = 4 then 42 else 29 : Int) := by (repeat' split) <;> omega
    simp only [Sm.cz]
    omega
theorem Sm.czs_nn : ∀ l : List Sm, 0 ≤ Sm.czs l
  | [] => by simp [Sm.czs]
  | s :: l => by have h1 := Sm.cz_nn s; have h2 := Sm.czs_nn l; simp only [Sm.czs]; omega
end
theorem Sm.czs_take (l : List Sm) (n : Nat) : Sm.czs (l.take n) ≤ Sm.czs l := by
  have := Sm.czs_app (l.take n) (l.drop n)
  rw [List.take_append_drop] at this
  have := Sm.czs_nn (l.drop n)
  omega
theorem ExG.cz {V U : List ByteArray} : ∀ {d : Nat} {t : T}, ExG V U d t → czT t ≤ 19 * 2 ^ d - 6 := by
  intro d t h
  have hp : ∀ d : Nat, 1 ≤ (2 : Int) ^ d := fun d => Int.pow_pos (by decide)
  induction h with
  | nu d n h => have := hp d; unfold czT; split <;> omega
  | nm d s h => have := hp d; unfold czT; omega
  | ix d s t _ _ ih => have := hp d; unfold czT; rw [Int.pow_succ]; omega
  | bn d o a b _ _ _ ia ib => have := hp d; unfold czT; rw [Int.pow_succ]; omega
theorem ExG.cz1 {V U : List ByteArray} {t : T} (h : ExG V U 1 t) : czT t ≤ 32 := h.cz
theorem ExG.cz2 {V U : List ByteArray} {t : T} (h : ExG V U 2 t) : czT t ≤ 70 := h.cz

inductive PcG (St : Int → Int → List Sm → Prop) : Nat → Int → Int → List Sm → Prop
  | nil (lab : Int) : PcG St 0 lab lab []
  | snoc (n : Nat) (lab lab1 lab2 : Int) (l l2 : List Sm) (h1 : PcG St n lab lab1 l) (h2 : St lab1 lab2 l2) : PcG St (n + 1) lab lab2 (l ++ l2)
/-- At most so many pieces, whose labels go from one to another. -/
def BlG (St : Int → Int → List Sm → Prop) (most : Int) (lab lab' : Int) (l : List Sm) : Prop := ∃ n : Nat, (n : Int) ≤ most ∧ PcG St n lab lab' l
abbrev E0 : ByteArray := ⟨#[]⟩
def LeafG (V U : List ByteArray) (lab lab' : Int) (l : List Sm) : Prop :=
  lab' = lab ∧ ((∃ s e, s ∈ V ∧ ExG V U 2 e ∧ l = [.mk 1 s [] [e] 0 0 [] []]) ∨ ∃ s e1 e2, s ∈ U ∧ ExG V U 1 e1 ∧ ExG V U 2 e2 ∧ l = [.mk 2 s [e1] [e2] 0 0 [] []])
def IfG (V U : List ByteArray) (St : Int → Int → List Sm → Prop) (lab lab' : Int) (l : List Sm) : Prop :=
  lab < 12 ∧ ∃ c l1 l2 lab1, ExG V U 2 c ∧ BlG St 2 (lab + 1) lab1 l1 ∧ (l2 = [] ∧ lab' = lab1 ∨ BlG St 2 lab1 lab' l2) ∧ l = [.mk 3 E0 [] [c] 0 (lab + 1) l1 l2]
def WhG (V U : List ByteArray) (St : Int → Int → List Sm → Prop) (lab lab' : Int) (l : List Sm) : Prop :=
  ∃ c mx l1, ExG V U 2 c ∧ (0 ≤ mx ∧ mx ≤ 5) ∧ BlG St 2 (lab + 1) lab' l1 ∧ l = [.mk 4 E0 [] [c] mx (lab + 1) l1 []]
def CtG (V : List ByteArray) (St : Int → Int → List Sm → Prop) (lab lab' : Int) (l : List Sm) : Prop :=
  ∃ v n op top mx l1 st, v ∈ V ∧ (0 ≤ n ∧ n ≤ 2) ∧ (0 ≤ op ∧ op ≤ 1) ∧ ((∃ t, (0 ≤ t ∧ t ≤ 5) ∧ top = .nu t) ∨ ∃ s ∈ V, top = .nm s) ∧ (0 ≤ mx ∧ mx ≤ 5) ∧ (1 ≤ st ∧ st ≤ 3) ∧ BlG St 2 (lab + 1) lab' l1 ∧
    l = [.mk 1 v [] [.nu n] 0 0 [] [], .mk 4 E0 [] [.bn (11 + op) (.nm v) top] mx (lab + 1) (l1 ++ [.mk 1 v [] [.bn 1 (.nm v) (.nu st)] 0 0 [] []]) []]
def LpG (V U : List ByteArray) (il : Int) (St : Int → Int → List Sm → Prop) (lab lab' : Int) (l : List Sm) : Prop := il < 2 ∧ lab < 12 ∧ (WhG V U St lab lab' l ∨ CtG V St lab lab' l)
def LkG (Sh : List Shd) (hs : ByteArray) (St : ByteArray → Int → Int → List Sm → Prop) (lab lab' : Int) (l : List Sm) : Prop := hs = E0 ∧ ∃ sh ∈ Sh, ∃ l1, BlG (St sh.2.2) 2 lab lab' l1 ∧ l = [.mk 5 sh.2.2 [] [] 0 0 l1 []]
/-- What one call makes, at a depth, within so many loops, with a resource held. -/
def StG (V A : List ByteArray) (Sh : List Shd) : Nat → Int → ByteArray → Int → Int → List Sm → Prop
  | 0, _, hs => LeafG V (usableF A Sh hs)
  | d + 1, il, hs => fun lab lab' l => LeafG V (usableF A Sh hs) lab lab' l ∨ IfG V (usableF A Sh hs) (StG V A Sh d il hs) lab lab' l ∨ LpG V (usableF A Sh hs) il (StG V A Sh d (il + 1) hs) lab lab' l ∨ LkG Sh hs (StG V A Sh d il) lab lab' l
theorem StG.leaf {V A : List ByteArray} {Sh : List Shd} {d : Nat} {il : Int} {hs : ByteArray} {lab lab' : Int} {l : List Sm} (h : LeafG V (usableF A Sh hs) lab lab' l) : StG V A Sh d il hs lab lab' l := by
  cases d with
  | zero => exact h
  | succ d => exact .inl h

theorem cz_1 (n i v m lb t e) : Sm.cz (.mk 1 n i v m lb t e) = 15 + czTs i + czTs v + Sm.czs t + Sm.czs e := by simp [Sm.cz]
theorem cz_2 (n i v m lb t e) : Sm.cz (.mk 2 n i v m lb t e) = 17 + czTs i + czTs v + Sm.czs t + Sm.czs e := by simp [Sm.cz]
theorem cz_3 (n i v m lb t e) : Sm.cz (.mk 3 n i v m lb t e) = 50 + czTs i + czTs v + Sm.czs t + Sm.czs e := by simp [Sm.cz]
theorem cz_4 (n i v m lb t e) : Sm.cz (.mk 4 n i v m lb t e) = 42 + czTs i + czTs v + Sm.czs t + Sm.czs e := by simp [Sm.cz]
theorem cz_5 (n i v m lb t e) : Sm.cz (.mk 5 n i v m lb t e) = 29 + czTs i + czTs v + Sm.czs t + Sm.czs e := by simp [Sm.cz]
theorem leaf_cz {V U : List ByteArray} {a b : Int} {l : List Sm} (h : LeafG V U a b l) : Sm.czs l ≤ 120 := by
  obtain ⟨_, ⟨s, e, _, he, rfl⟩ | ⟨s, e1, e2, _, he1, he2, rfl⟩⟩ := h
  · have := he.cz2
    simp only [Sm.czs, cz_1, czTs]
    omega
  · have := he1.cz1
    have := he2.cz2
    simp only [Sm.czs, cz_2, czTs]
    omega
theorem while_cz {V U : List ByteArray} {e : T} {mx lb a b : Int} {l : List Sm} (he : ExG V U 2 e) (h : Sm.czs l ≤ 120 * (a - b)) : Sm.czs [.mk 4 ⟨#[]⟩ [] [e] mx lb l []] ≤ 120 * (a + 1 - b) := by
  have := he.cz2
  simp only [Sm.czs, cz_4, czTs]
  omega
theorem count_cz {V : List ByteArray} {v : ByteArray} {n op sp mx lb a b : Int} {top : T} {l : List Sm} (hn : 0 ≤ n ∧ n ≤ 9) (hs : 0 ≤ 1 + sp ∧ 1 + sp ≤ 9) (ht : (∃ t, (0 ≤ t ∧ t ≤ 5) ∧ top = .nu t) ∨ ∃ s ∈ V, top = .nm s) (h : Sm.czs l ≤ 120 * (a - b)) :
    Sm.czs [.mk 1 v [] [.nu n] 0 0 [] [], .mk 4 ⟨#[]⟩ [] [.bn (11 + op) (.nm v) top] mx lb (l ++ [.mk 1 v [] [.bn 1 (.nm v) (.nu (1 + sp))] 0 0 [] []]) []] ≤ 120 * (a + 1 - b) := by
  have e1 : czT (.nu n) = 1 := if_pos hn
  have e2 : czT (.nu (1 + sp)) = 1 := if_pos hs
  have e3 : czT top ≤ 3 := by
    rcases ht with ⟨t, ht, rfl⟩ | ⟨s, _, rfl⟩
    · rw [czT, if_pos (by omega)]; omega
    · exact Int.le_refl _
  have e5 : czT (.bn (11 + op) (.nm v) top) = 6 + 3 + czT top := rfl
  have e6 : czT (.bn 1 (.nm v) (.nu (1 + sp))) = 6 + 3 + czT (.nu (1 + sp)) := rfl
  simp only [Sm.czs, cz_1, cz_4, czTs, Sm.czs_app]
  omega
theorem if_cz {V U : List ByteArray} {e : T} {lb a b c : Int} {l m : List Sm} (he : ExG V U 2 e) (h1 : Sm.czs l ≤ 120 * (a - b)) (h2 : Sm.czs m ≤ 120 * (b - c)) : Sm.czs [.mk 3 ⟨#[]⟩ [] [e] 0 lb l m] ≤ 120 * (a + 1 - c) := by
  have := he.cz2
  simp only [Sm.czs, cz_3, czTs]
  omega
theorem lock_cz {s : ByteArray} {a b : Int} {l : List Sm} (h : Sm.czs l ≤ 120 * (a - b)) : Sm.czs [.mk 5 s [] [] 0 0 l []] ≤ 120 * (a + 1 - b) := by
  simp only [Sm.czs, cz_5, czTs]
  omega
theorem nil_cz {a : Int} : Sm.czs [] ≤ 120 * (a - a) := by simp only [Sm.czs]; omega
attribute [local irreducible] Sm.czs Sm.cz czT czTs

/-- What turns in a maker. -/
structure Ms where
  lv : Value
  lab : Int
  st : Int
abbrev Ms.ok (m : Ms) : Prop := (0 ≤ m.lab ∧ m.lab ≤ 12) ∧ 0 ≤ m.st ∧ m.st ≤ 14
/-- What is given throughout. -/
structure Gv (L : List Int) (V A : List ByteArray) (Sh : List Shd) : Prop where
  hL : InR L
  hLn : L.length ≤ 400
  hV0 : 0 < V.length
  hV : V.length ≤ 100
  hA : A.length ≤ 100
  hSh : Sh.length ≤ 100
def StmtP (L : List Int) (bm bd : Nat) (V A : List ByteArray) (Sh : List Shd) (d : Nat) : Prop :=
  ∀ (m : Ms) (hs : ByteArray) (il : Int) (LS : List ByteArray) (x : Int), m.ok → 0 ≤ il → il ≤ 2 → LS.length ≤ il → x = d →
    Con Tryz.prog 100 [Ptr bm, In .i64 x] [Mk bm bd V m.lv A Sh hs m.lab m.st il, Dk bd L, .own m.lv 9 1 (LS.map Wrow)]
      (fun K => ∀ r : Ms × List Sm, (r.1.ok ∧ r.2.length ≤ 2 ∧ StG V A Sh d il hs m.lab r.1.lab r.2 ∧ Sm.czs r.2 ≤ 120 * (m.st + 1 - r.1.st)) → K (.cell (.list (r.2.map Sm.row))) [Mk bm bd V r.1.lv A Sh hs r.1.lab r.1.st il, Dk bd L, .own r.1.lv 9 1 (LS.map Wrow)])
def BlockP (L : List Int) (bm bd : Nat) (V A : List ByteArray) (Sh : List Shd) (d : Nat) : Prop :=
  ∀ (m : Ms) (hs : ByteArray) (il : Int) (LS : List ByteArray) (x most : Int), m.ok → 0 ≤ il → il ≤ 2 → LS.length ≤ il → x = d → 1 ≤ most → most ≤ 5 →
    ConN Tryz.prog 70 [Ptr bm, In .i64 x, In .i64 most] [Mk bm bd V m.lv A Sh hs m.lab m.st il, Dk bd L, .own m.lv 9 1 (LS.map Wrow)]
      (fun n K => ∀ r : Ms × Value × List Sm, (r.1.ok ∧ FreshN n r.2.1 ∧ (r.2.2.length : Int) ≤ 2 * most ∧ BlG (StG V A Sh d il hs) most m.lab r.1.lab r.2.2 ∧ Sm.czs r.2.2 ≤ 120 * (m.st - r.1.st)) →
        K (.cell (.val r.2.1)) [.own r.2.1 51 8 (r.2.2.map Sm.row), Mk bm bd V r.1.lv A Sh hs r.1.lab r.1.st il, Dk bd L, .own r.1.lv 9 1 (LS.map Wrow)])
section
variable {L : List Int} {bm bd : Nat} {V A : List ByteArray} {Sh : List Shd}

theorem block_step (gv : Gv L V A Sh) (d : Nat) (hstm : StmtP L bm bd V A Sh d) : BlockP L bm bd V A Sh d := by
  intro m hs0 il LS x most hm hil hil2 hLS hx hmo hmo5
  obtain ⟨lv0, lab0, st0⟩ := m
  refine con_introN Tryz.func70 rfl rfl (Nat.le_of_ble_eq_true rfl) (fun c hc => R_ (E_ r_ (T_ (R_ (E_ r_ (T_ (am_ (R_ (M_ r_ (N_ r_ (F_ r_ (L_ 0 r_ (M_ r_ (o_ r_ (bt_ [1] rfl rfl (Nx_c _ gv.hL gv.hLn g_) (fun k0 hk0 => o_ r_ (bj_ r_ r_ g_ ?_)))))))))))))))))
  refine E_ r_ (T_ (au_ (jc_ownNil 51 8 g_ ?_)))
  obtain ⟨n0, hn0⟩ : ∃ n : Nat, 1 + k0 = (n : Int) := ⟨(1 + k0).toNat, by omega⟩
  rw [hn0]
  refine jc_loop (ι := Nat × Ms × Value × List Sm) [0, 1, 2] (fun i => ((i.1 : Int) ≤ most ∧ i.2.1.ok) ∧ c.Fresh i.2.2.1 ∧ ((i.2.2.2.length : Int) + 2 * (i.1 : Int) ≤ 2 * most ∧ Sm.czs i.2.2.2 ≤ 120 * (st0 - i.2.1.st) ∧ ∃ n : Nat, (n : Int) + (i.1 : Int) ≤ most ∧ PcG (StG V A Sh d il hs0) n lab0 i.2.1.lab i.2.2.2)) (fun i => [(7, .cell (.val i.2.2.1)), (8, In .i64 (i.1 : Int))])
    (fun i => [.own i.2.2.1 51 8 (i.2.2.2.map Sm.row), Mk bm bd V i.2.1.lv A Sh hs0 i.2.1.lab i.2.1.st il, Dk bd L, .own i.2.1.lv 9 1 (LS.map Wrow)]) (fun i => i.1) (n0, ⟨lv0, lab0, st0⟩, .slice none 0 0, []) [0, 1, 0, 0] ⟨⟨by dsimp only; omega, hm⟩, fresh_nil, by dsimp only; simp only [List.length_nil]; omega, nil_cz, 0, by dsimp only; omega, .nil _⟩ rfl ?_ ?_
  · (repeat (first | exact True.intro | refine ⟨rfl, ?_⟩))
  · rintro ⟨k, m, v, l⟩ ⟨⟨hk, hok⟩, hf, hl, hcz, np, hnp, hsh⟩
    obtain ⟨lv, lab, st⟩ := m
    obtain ⟨⟨hlab0, hlab1⟩, hst0, hst1⟩ := hok
    dsimp only at hk hlab0 hlab1 hst0 hst1 hf hl hcz hnp hsh ⊢
    have fin : ∀ K : S → List Ch → Prop, (∀ r : Ms × Value × List Sm, (r.1.ok ∧ FreshN c.B.heap.size r.2.1 ∧ (r.2.2.length : Int) ≤ 2 * most ∧ BlG (StG V A Sh d il hs0) most lab0 r.1.lab r.2.2 ∧ Sm.czs r.2.2 ≤ 120 * (st0 - r.1.st)) →
        K (.cell (.val r.2.1)) [.own r.2.1 51 8 (r.2.2.map Sm.row), Mk bm bd V r.1.lv A Sh hs0 r.1.lab r.1.st il, Dk bd L, .own r.1.lv 9 1 (LS.map Wrow)]) →
        K (.cell (.val v)) [.own v 51 8 (l.map Sm.row), Mk bm bd V lv A Sh hs0 lab st il, Dk bd L, .own lv 9 1 (LS.map Wrow)] :=
      fun K h => h (⟨lv, lab, st⟩, v, l) ⟨⟨⟨hlab0, hlab1⟩, hst0, hst1⟩, hf, by dsimp only; omega, ⟨np, by omega, hsh⟩, hcz⟩
    by_cases hk0 : (0 : Int) < (k : Int)
    · refine am_ (R_ (M_ r_ (o_ r_ (bz_ r_ r_ (M_ r_ (ah_ r_ u_ b_ (bd_ r_ (ah_ r_ u_ b_ (bh_ r_ (ah_ r_ u_ b_ (bf_ r_ r_ r_ b_ (ah_ r_ u_ b_ (bg_ 1 r_ r_ r_ r_ (ah_ r_ u_ b_ (bz_ r_ r_ (o_ r_ (bp_ r_ u_ r_ (T_ (jc_condd rfl (fun hst => ?_) (fun hst => ?_))))))))))))))))))))
      · refine as_ (al_ (B_ (R_ (M_ r_ (N_ r_ (F_ r_ (L_ 1 r_ (o_ r_ (cg_ r_ r_ g_ (N_ r_ (F_ r_ (W_ 1 r_ (T_ (an_ (M_ r_ (M_ r_ ?_))))))))))))))))
        refine M_ r_ (o_ r_ (bt_ [0, 1, 1] rfl rfl (hstm ⟨lv, lab, st - 1⟩ hs0 il LS x ⟨⟨hlab0, hlab1⟩, by dsimp only; omega⟩ hil hil2 hLS hx) (fun r hr => ?_)))
        obtain ⟨⟨lv2, lab2, st2⟩, l2⟩ := r
        obtain ⟨hok2, hl2, hsh2, hcz2⟩ := hr
        dsimp only at hok2 hl2 hsh2 hcz2 ⊢
        skip
        refine o_ r_ (ow_appendMF 3 rfl rfl rfl rfl rfl rfl rfl (fun a => by rw [Sm.row_eq]; rfl) (by show (_ + _) * 136 ≤ _; first | omega | (simp only [List.length_append]; omega)) (by first | omega | (simp only [List.length_append]; omega)) (fun v2 hv2 fv2 => E_ r_ (ak_ (ay_ (al_ (an_ (M_ r_ (o_ r_ (cg_ r_ r_ g_ (E_ r_ (ak_ ?_)))))))))))
        refine jq_again (i := (k, ⟨lv, lab, st⟩, v, l)) (k - 1, ⟨lv2, lab2, st2⟩, v2, l ++ l2) [0, 0, 0, 0] ⟨⟨by dsimp only; omega, hok2⟩, fv2 hf, by dsimp only; simp only [List.length_append]; omega, by dsimp only; rw [Sm.czs_app]; omega, np + 1, by dsimp only; omega, .snoc _ _ _ _ _ _ hsh hsh2⟩ (by dsimp only; omega) rfl ?_
        rw [show (((k - 1 : Nat) : Int)) = (k : Int) - 1 by omega]
        (repeat (first | exact True.intro | refine ⟨rfl, ?_⟩))
      · exact av_ (ax_ (ax_ (ba_ (al_ (R_ (M_ r_ (E_ r_ (T_ (ar_ (jq_ret1 rfl rfl [0, 0, 0, 0] rfl fin))))))))))
    · refine am_ (R_ (M_ r_ (o_ r_ (bz_ r_ r_ (M_ r_ (ai_ r_ w_ b_ (ai_ r_ w_ b_ (ai_ r_ w_ b_ (ai_ r_ w_ b_ (ai_ r_ w_ b_ (o_ r_ (bv_ r_ w_ r_ (T_ (jc_cond rfl (fun h => by cases h) (fun _ => av_ (ax_ (ax_ ?_)))))))))))))))))
      exact ba_ (al_ (R_ (M_ r_ (E_ r_ (T_ (ar_ (jq_ret1 rfl rfl [0, 0, 0, 0] rfl fin)))))))
end
end Go.Proofs.YtlniadfidfmckaaGreatDoor
end

section
namespace Go.Proofs.YtlniadfidfmckaaGreatDoor
open Go.Vc
set_option maxHeartbeats 4000000
attribute [local irreducible] JL JC JQ OpWp Con ConN
attribute [local irreducible] StG Sm.czs Sm.cz czT czTs

def LoopP (L : List Int) (bm bd : Nat) (V A : List ByteArray) (Sh : List Shd) (d : Nat) : Prop :=
  ∀ (m : Ms) (hs : ByteArray) (il : Int) (LS : List ByteArray) (x : Int), m.ok → m.lab ≤ 11 → 0 ≤ il → il ≤ 1 → LS.length ≤ il → x = (d + 1 : Nat) →
    Con Tryz.prog 124 [Ptr bm, In .i64 x] [Mk bm bd V m.lv A Sh hs m.lab m.st il, Dk bd L, .own m.lv 9 1 (LS.map Wrow)]
      (fun K => ∀ r : Ms × List Sm, (r.1.ok ∧ r.2.length ≤ 2 ∧ LpG V (usableF A Sh hs) il (StG V A Sh d (il + 1) hs) m.lab r.1.lab r.2 ∧ Sm.czs r.2 ≤ 120 * (m.st + 1 - r.1.st)) → K (.cell (.list (r.2.map Sm.row))) [Mk bm bd V r.1.lv A Sh hs r.1.lab r.1.st il, Dk bd L, .own r.1.lv 9 1 (LS.map Wrow)])

theorem sm_le (k : Int) (nm : ByteArray) (I V : List T) (mx lb : Int) (tt ee : List Sm) {cI cV cT cE : C} (hI : CLe cI (.list (I.map T.row))) (hV : CLe cV (.list (V.map T.row))) (hT : CLe cT (.list (tt.map Sm.row))) (hE : CLe cE (.list (ee.map Sm.row))) :
    RowLe [.val (.int .i64 k), .val (.string nm), cI, cV, .val (.int .i64 mx), .val (.int .i64 lb), cT, cE] (Sm.row (.mk k nm I V mx lb tt ee)) := by
  rw [Sm.row_eq]
  exact .cons (.refl _) (.cons (.refl _) (.cons hI (.cons hV (.cons (.refl _) (.cons (.refl _) (.cons hT (.cons hE .nil)))))))
theorem sm_le' (k : Int) (nm : ByteArray) (I V : List T) (mx lb : Int) (tt ee : List Sm) {cI cV cT cE : C} (hI : CLe cI (.list (I.map T.row))) (hV : CLe cV (.list (V.map T.row))) (hT : CLe cT (.list (tt.map Sm.row))) (hE : CLe cE (.list (ee.map Sm.row))) :
    RowLe [.val (.int .i64 k), .val (.string nm), cI, cV, .val (.int .i64 mx), .val (.int .i64 lb), cT, cE] (Sm.row' (.mk k nm I V mx lb tt ee)) := by
  rw [← Sm.row_eq]; exact sm_le k nm I V mx lb tt ee hI hV hT hE
theorem ex1_le (e : T) : CLe (.list [e.row']) (.list ([e].map T.row)) := CLe.eq (by simp [T.row_eq])
section
variable {L : List Int} {bm bd : Nat} {V A : List ByteArray} {Sh : List Shd}

theorem loop_step (gv : Gv L V A Sh) (d : Nat) (hd10 : d ≤ 10) (hblk : BlockP L bm bd V A Sh d) : LoopP L bm bd V A Sh d := by
  intro m hs0 il LS x hm hm11 hil hil2 hLS hx
  obtain ⟨lv0, lab0, st0⟩ := m
  obtain ⟨⟨hlab0, hlab1⟩, hst0, hst1⟩ := hm
  dsimp only at hlab0 hlab1 hst0 hst1 hm11 ⊢
  refine con_intro Tryz.func124 rfl rfl (Nat.le_of_ble_eq_true rfl) (fun c hc => R_ (E_ r_ (T_ (R_ (M_ r_ (N_ r_ (F_ r_ (L_ 0 r_ (o_ r_ (bj_ r_ r_ g_ (N_ r_ (F_ r_ (W_ 0 r_ (T_ (R_ (M_ r_ ?_))))))))))))))))
  refine N_ r_ (F_ r_ (L_ 0 r_ (o_ r_ (bj_ r_ r_ g_ (N_ r_ (F_ r_ (W_ 0 r_ (T_ (am_ (jc_anyB 11 (some 10) rfl k_ k_ (yM_ r_ (yN_ r_ (yF_ r_ (yL_ 0 r_ (yM_ r_ (yN_ r_ ?_))))))))))))))))
  refine yF_ r_ (yL_ 0 r_ (aa_ (fun c => ow_callA [1] r_ r_ (gNext_c L _ _ gv.hL gv.hLn g_)) (aa_ (fun c => ow_exarg 31 rfl (fun i => bu_ rfl rfl rfl rfl rfl ⟨rfl, .refl _⟩)) (af_ (ae_ (afin_some rfl rfl rfl (fun bS => jl_slot 32 rfl (fun mx => S_ 0 r_ (T_ (am_ (R_ (M_ r_ (N_ r_ (F_ r_ (L_ 1 r_ ?_)))))))))))))))
  refine o_ r_ (bt_ [2] rfl rfl (Nx_c _ gv.hL gv.hLn g_) (fun k0 hk0 => o_ r_ (bn_ r_ r_ (T_ (jc_condd rfl (fun h3 => ?_) (fun h3 => ?_))))))
  · refine R_ (M_ r_ (o_ r_ (bt_ [2, 0] rfl rfl (gcondition_c gv.hL gv.hLn gv.hV0 gv.hV gv.hA gv.hSh) (fun e1 he1 => o_ r_ (bq_ r_ r_ b_ r_ r_ b_ (F_ r_ (W_ 2 r_ (T_ (R_ (M_ r_ (M_ r_ (o_ r_ (cg_ r_ r_ g_ (o_ r_ (ow_callNP [1, 1, 1] rfl rfl (hblk ⟨lv0, lab0 + 1, st0⟩ hs0 (il + 1) LS (x - 1) 2 ⟨⟨by dsimp only; omega, by dsimp only; omega⟩, hst0, hst1⟩ g_ g_ g_ g_ g_ g_) (fun r n hn hr => ?_))))))))))))))))
    obtain ⟨⟨lv2, lab2, st2⟩, v2, l2⟩ := r
    obtain ⟨hok2, hf2, hl2, hsh2, hcz2⟩ := hr
    dsimp only at hok2 hl2 hsh2 hcz2 ⊢
    refine jl_freezeF 46 0 rfl rfl (hf2.mono hn) (F_ r_ (W_ 3 r_ (T_ (R_ (M_ r_ (N_ r_ (F_ r_ (L_ 1 r_ (o_ r_ (cg_ r_ r_ g_ (N_ r_ (F_ r_ (W_ 1 r_ (T_ (R_ (A_ 1 r_ ?_))))))))))))))))
    refine o_ r_ (bq_ r_ r_ b_ r_ r_ b_ (E_ r_ (T_ (ar_ (aw_ (jq_sle 4 rfl (SLe.cell (CLe.list (.cons (sm_le 4 ⟨#[]⟩ [] [e1] mx.1 (lab0 + 1) l2 [] .nil (ex1_le e1) (.refl _) .nil) .nil))) ?_))))))
    have fin : ∀ K : S → List Ch → Prop, (∀ r : Ms × List Sm, (r.1.ok ∧ r.2.length ≤ 2 ∧ LpG V (usableF A Sh hs0) il (StG V A Sh d (il + 1) hs0) lab0 r.1.lab r.2 ∧ Sm.czs r.2 ≤ 120 * (st0 + 1 - r.1.st)) → K (.cell (.list (r.2.map Sm.row))) [Mk bm bd V r.1.lv A Sh hs0 r.1.lab r.1.st il, Dk bd L, .own r.1.lv 9 1 (LS.map Wrow)]) →
        K (.cell (.list [Sm.row (.mk 4 ⟨#[]⟩ [] [e1] mx.1 (lab0 + 1) l2 [])])) [Mk bm bd V lv2 A Sh hs0 lab2 st2 (il + 1 - 1), Dk bd L, .own lv2 9 1 (LS.map Wrow)] := by
      intro K h
      rw [show il + 1 - 1 = il by omega]
      exact h (⟨lv2, lab2, st2⟩, [.mk 4 ⟨#[]⟩ [] [e1] mx.1 (lab0 + 1) l2 []]) ⟨hok2, by simp, ⟨by omega, by omega, .inl ⟨e1, mx.1, l2, he1, by have := mx.2; omega, hsh2, rfl⟩⟩, while_cz he1 hcz2⟩
    exact jq_ret1 rfl rfl [0, 1, 1] rfl fin
  · refine as_ (al_ (R_ (M_ r_ (o_ r_ (bt_ [2, 0, 1] rfl rfl (gtarget_c gv.hL gv.hLn gv.hV0 gv.hV g_) (fun tg htg => E_ r_ (T_ (R_ (M_ r_ (N_ r_ (F_ r_ (L_ 0 r_ (o_ r_ (bt_ [1] rfl rfl (Nx_c _ gv.hL gv.hLn g_) (fun sp hsp => o_ r_ (bj_ r_ r_ g_ (E_ r_ (T_ ?_))))))))))))))))))
    refine R_ (M_ r_ (N_ r_ (F_ r_ (L_ 1 r_ (o_ r_ (bt_ [0] rfl rfl (Nx_c _ gv.hL gv.hLn g_) (fun tp htp => o_ r_ (bm_ r_ (gNum_c _) (o_ r_ (bl_ r_ r_ (fun bl => S_ 0 r_ (T_ (am_ (R_ (M_ r_ (N_ r_ (F_ r_ (L_ 2 r_ ?_))))))))))))))))))
    refine o_ r_ (bt_ [1] rfl rfl (Nx_c _ gv.hL gv.hLn g_) (fun k4 hk4 => o_ r_ (bn_ r_ r_ (T_ ?_))))
    refine jc_cut (ι := T) [0, 1, 5, 6, 7, 8] (fun top => (∃ t, (0 ≤ t ∧ t ≤ 5) ∧ top = .nu t) ∨ ∃ s ∈ V, top = .nm s) (fun _ => []) (fun e => [Mk bm bd V lv0 A Sh hs0 (lab0 + 1) st0 (il + 1), Dk bd L, .own lv0 9 1 (LS.map Wrow), .blk bS 51 [.val (.int .i64 4), .val (.string ⟨#[]⟩), .val (.slice none 0 0), .val (.slice none 0 0), .val (.int .i64 mx.1), .val (.int .i64 (lab0 + 1)), .val (.slice none 0 0), .val (.slice none 0 0)], .blk bl 53 (T.row' e)]) ?_ ?_
    · refine jc_condd rfl (fun h2 => ?_) (fun h2 => ?_)
      · refine an_ (M_ r_ (M_ r_ (N_ r_ (F_ r_ (L_ 2 r_ (o_ r_ (bt_ [2, 0] rfl rfl (gname_c gv.hL gv.hLn V gv.hV0 (by have := gv.hV; omega)) (fun nm hnm => o_ r_ (bm_ r_ (gName_c _) (S_ 2 r_ (ak_ (jq_cut (T.nm nm) [1, 1, 1, 1, 0] (.inr ⟨nm, hnm, rfl⟩) rfl ?_))))))))))))
        (repeat (first | exact True.intro | refine ⟨rfl, ?_⟩))
      · refine as_ (jq_cut (T.nu tp) [2, 0, 1, 1, 0] (.inl ⟨tp, by omega, rfl⟩) rfl ?_)
        (repeat (first | exact True.intro | refine ⟨rfl, ?_⟩))
    · intro e8 he8
      refine R_ (M_ r_ (M_ r_ (N_ r_ (F_ r_ (L_ 0 r_ (M_ r_ (o_ r_ (bq_ r_ r_ b_ r_ r_ b_ (o_ r_ (ow_append1F 2 (tg) rfl rfl rfl rfl rfl rfl rfl (fun _ => rfl) (by show (_ + _) * 16 ≤ _; first | omega | (simp only [List.length_append]; omega)) (by first | omega | (simp only [List.length_append]; omega)) (fun lv1 hlv1 flv1 => N_ r_ (F_ r_ (W_ 1 r_ (T_ (am_ (jc_anyB 12 none rfl k_ k_ (yM_ r_ ?_)))))))))))))))))
      refine yN_ r_ (yF_ r_ (yL_ 0 r_ (aa_ (fun c => ow_callA [2] r_ r_ (gNext_c L _ _ gv.hL gv.hLn g_)) (aa_ (fun c => ow_exarg 98 rfl (fun i => bj_ rfl rfl (by have := i.2; omega) ⟨rfl, .refl _⟩)) (yM_ r_ (aa_ (fun c => bm_ r_ (gName_c _) p_) (aa_ (fun c => bs_ 4 r_ r_ r_ r_ p_) (aa_ (fun c => ow_exarg 99 rfl (fun i => bm_ rfl (gBin_c _ _ _) ⟨rfl, .refl _⟩)) ?_))))))))
      refine aa_ (fun c => ow_exarg 103 rfl (fun i => bq_ rfl rfl b_ rfl rfl b_ ⟨rfl, .refl _⟩)) (yF_ r_ (ae_ (afin_none (jl_slot 104 rfl (fun op => W_ 3 r_ (T_ (R_ (M_ r_ (M_ r_ (o_ r_ (cg_ r_ r_ g_ ?_)))))))))))
      have con := hblk ⟨lv1, lab0 + 1, st0⟩ hs0 (il + 1) (LS ++ [tg]) (x - 1) 2 ⟨⟨by dsimp only; omega, by dsimp only; omega⟩, hst0, hst1⟩ (by omega) (by omega) (by simp only [List.length_append, List.length_cons, List.length_nil]; omega) (by omega) (by omega) (by omega)
      dsimp only at con
      refine o_ r_ (ow_callNP [1, 2, 1] rfl rfl (con) (fun r n hn hr => ?_))
      obtain ⟨⟨lv2, lab2, st2⟩, v2, l2⟩ := r
      obtain ⟨hok2, hf2, hl2, hsh2, hcz2⟩ := hr
      dsimp only at hok2 hl2 hsh2 hf2 hcz2 ⊢
      refine M_ r_ (M_ r_ (o_ r_ (bm_ r_ (gName_c _) (M_ r_ (o_ r_ (bm_ r_ (gNum_c _) (o_ r_ (bm_ r_ (gBin_c _ _ _) (o_ r_ (bq_ r_ r_ b_ r_ r_ b_ (o_ r_ (bu_ r_ r_ r_ r_ r_ (o_ r_ (bq_ r_ r_ b_ r_ r_ b_ (jl_sle 118 rfl (SLe.cell (CLe.list (.cons (sm_le 1 tg [] [.bn 1 (.nm tg) (.nu (1 + sp))] 0 0 [] [] .nil (ex1_le _) .nil .nil) .nil))) ?_)))))))))))))))
      refine o_ r_ (ow_append1F 0 ((.mk 1 tg [] [.bn 1 (.nm tg) (.nu (1 + sp))] 0 0 [] [])) rfl rfl rfl rfl rfl rfl rfl (fun a => by rw [Sm.row_eq]; rfl) (by show (_ + _) * 136 ≤ _; first | omega | (simp only [List.length_append]; omega)) (by first | omega | (simp only [List.length_append]; omega)) (fun v3 hv3 fv3 => jl_freezeF 119 0 rfl rfl (fv3 (hf2.mono hn)) (F_ r_ (W_ 3 r_ (T_ (am_ ?_))))))
      have eL : (List.map Wrow (LS ++ [tg])).length = LS.length + 1 := by simp
      refine jc_anyB 12 none rfl k_ k_ (yM_ r_ (yM_ r_ (yN_ r_ (yF_ r_ (yL_ 1 r_ (yM_ r_ (yN_ r_ (yF_ r_ (yL_ 1 r_ (aa_ (fun c => cw_ 3 r_ r_ (fun hlen => p_)) (aa_ (fun c => cg_ r_ r_ g_ p_) ?_)))))))))))
      (first | refine any_op (fun c => ow_trim 3 rfl rfl rfl (by omega) (by omega) ⟨rfl, .refl _⟩) ?_ | refine any_op (fun c => ow_trim 2 rfl rfl rfl (by omega) (by omega) ⟨rfl, .refl _⟩) ?_ | refine any_op (fun c => ow_trim 4 rfl rfl rfl (by omega) (by omega) ⟨rfl, .refl _⟩) ?_)
      refine ae_ ?_
      try refine afin_none ?_
      rw [show ((((List.map Wrow (LS ++ [tg])).length : Nat) : Int) - 1).toNat = LS.length by omega]
      (first | refine jl_trim 3 LS.length rfl (by omega) ?_ | refine jl_trim 2 LS.length rfl (by omega) ?_ | refine jl_trim 4 LS.length rfl (by omega) ?_)
      rw [show (List.map Wrow (LS ++ [tg])).take LS.length = List.map Wrow LS by rw [List.map_append, List.take_left' (by simp)]]
      generalize trimV lv2 LS.length = lv3
      refine N_ r_ (F_ r_ (W_ 2 r_ (T_ (R_ (M_ r_ (N_ r_ (F_ r_ (L_ 0 r_ (o_ r_ (cg_ r_ r_ g_ (N_ r_ (F_ r_ (W_ 0 r_ (T_ (am_ (ao_ r_ r_ k_ k_ ?_))))))))))))))))
      refine yM_ r_ (yM_ r_ (yN_ r_ (yF_ r_ (yL_ 0 r_ (aa_ (fun c => ow_callA [3] r_ r_ (gNext_c L _ _ gv.hL gv.hLn g_)) (aa_ (fun c => ow_exarg 147 rfl (fun i => bm_ rfl (gNum_c _) ⟨rfl, .refl _⟩)) (aa_ (fun c => ow_exarg 148 rfl (fun i => bq_ rfl rfl b_ rfl rfl b_ ⟨rfl, .refl _⟩)) (aa_ (fun c => ow_exarg 149 rfl (fun i => bu_ rfl rfl rfl rfl rfl ⟨rfl, .refl _⟩)) (aa_ (fun c => bs_ 2 r_ r_ r_ r_ p_) ?_)))))))))
      refine aa_ (fun c => ow_exarg 150 rfl (fun i => bq_ rfl rfl b_ rfl rfl b_ ⟨rfl, .refl _⟩)) (yE_ r_ (ae_ (al_ (ar_ (jq_slot 4 rfl (fun i => ?_))))))
      refine jq_sle 4 rfl (SLe.cell (CLe.list (.cons (sm_le 1 tg [] [.nu i.1] 0 0 [] [] .nil (ex1_le _) .nil .nil) (.cons (sm_le 4 ⟨#[]⟩ [] [.bn (11 + op.1) (.nm tg) e8] mx.1 (lab0 + 1) (l2 ++ [(.mk 1 tg [] [.bn 1 (.nm tg) (.nu (1 + sp))] 0 0 [] [])]) [] .nil (ex1_le _) (.refl _) .nil) .nil)))) ?_
      have fin : ∀ K : S → List Ch → Prop, (∀ r : Ms × List Sm, (r.1.ok ∧ r.2.length ≤ 2 ∧ LpG V (usableF A Sh hs0) il (StG V A Sh d (il + 1) hs0) lab0 r.1.lab r.2 ∧ Sm.czs r.2 ≤ 120 * (st0 + 1 - r.1.st)) → K (.cell (.list (r.2.map Sm.row))) [Mk bm bd V r.1.lv A Sh hs0 r.1.lab r.1.st il, Dk bd L, .own r.1.lv 9 1 (LS.map Wrow)]) →
          K (.cell (.list [Sm.row (.mk 1 tg [] [.nu i.1] 0 0 [] []), Sm.row (.mk 4 ⟨#[]⟩ [] [.bn (11 + op.1) (.nm tg) e8] mx.1 (lab0 + 1) (l2 ++ [.mk 1 tg [] [.bn 1 (.nm tg) (.nu (1 + sp))] 0 0 [] []]) [])])) [Mk bm bd V lv3 A Sh hs0 lab2 st2 (il + 1 - 1), Dk bd L, .own lv3 9 1 (LS.map Wrow)] := by
        intro K h
        rw [show il + 1 - 1 = il by omega]
        exact h (⟨lv3, lab2, st2⟩, [.mk 1 tg [] [.nu i.1] 0 0 [] [], .mk 4 ⟨#[]⟩ [] [.bn (11 + op.1) (.nm tg) e8] mx.1 (lab0 + 1) (l2 ++ [.mk 1 tg [] [.bn 1 (.nm tg) (.nu (1 + sp))] 0 0 [] []]) []])
          ⟨hok2, by simp, ⟨by clear he8; omega, by clear he8; omega, .inr ⟨tg, i.1, op.1, e8, mx.1, l2, 1 + sp, htg, by clear he8; have := i.2; omega, by clear he8; have := op.2; omega, he8, by clear he8; have := mx.2; omega, by clear he8 hok2; omega, hsh2, rfl⟩⟩, count_cz (by have := i.2; clear he8; omega) (by clear he8; omega) he8 hcz2⟩
      first | exact jq_ret1 rfl rfl [0, 1, 0] rfl fin | exact jq_ret1 rfl rfl [0, 2, 0] rfl fin | exact jq_ret1 rfl rfl [0, 3, 0] rfl fin | exact jq_ret1 rfl rfl [0, 4, 0] rfl fin
end
end Go.Proofs.YtlniadfidfmckaaGreatDoor
end

section
namespace Go.Proofs.YtlniadfidfmckaaGreatDoor
open Go.Vc
set_option maxHeartbeats 4000000
attribute [local irreducible] JL JC JQ OpWp Con ConN
theorem StG.inn {V A : List ByteArray} {Sh : List Shd} {d : Nat} {il : Int} {hs : ByteArray} {lab lab' : Int} {l : List Sm} (h : IfG V (usableF A Sh hs) (StG V A Sh d il hs) lab lab' l ∨ LpG V (usableF A Sh hs) il (StG V A Sh d (il + 1) hs) lab lab' l ∨ LkG Sh hs (StG V A Sh d il) lab lab' l) : StG V A Sh (d + 1) il hs lab lab' l := .inr h
attribute [local irreducible] StG Sm.czs Sm.cz czT czTs

section
variable {L : List Int} {bm bd : Nat} {V A : List ByteArray} {Sh : List Shd}

theorem stmt_step (gv : Gv L V A Sh) (d : Nat) (hd10 : d ≤ 10) (hblk : ∀ d', d = d' + 1 → BlockP L bm bd V A Sh d') (hloop : ∀ d', d = d' + 1 → LoopP L bm bd V A Sh d') : StmtP L bm bd V A Sh d := by
  intro m hs0 il LS x hm hil hil2 hLS hx
  obtain ⟨lv0, lab0, st0⟩ := m
  obtain ⟨⟨hlab0, hlab1⟩, hst0, hst1⟩ := hm
  dsimp only at hlab0 hlab1 hst0 hst1 ⊢
  refine con_intro Tryz.func100 rfl rfl (Nat.le_of_ble_eq_true rfl) (fun c hc => R_ (E_ r_ (T_ (R_ (M_ r_ (N_ r_ (F_ r_ (L_ 0 r_ (o_ r_ (bt_ [1] rfl rfl (Nx_c _ gv.hL gv.hLn g_) (fun k0 hk0 => E_ r_ (T_ (am_ (am_ (jc_cut (ι := Bool) [0, 1, 4, 5] (fun b => b = false → 0 < x ∧ lab0 < 12) (fun b => [(23, Bl b)]) (fun _ => [Mk bm bd V lv0 A Sh hs0 lab0 st0 il, Dk bd L, .own lv0 9 1 (LS.map Wrow)]) ?_ ?_)))))))))))))))
  · by_cases hx0 : x ≤ 0
    · refine an_ (M_ r_ (o_ r_ (cu_ r_ r_ (M_ r_ (ai_ r_ u_ b_ (ai_ r_ u_ b_ (ai_ r_ u_ b_ (ai_ r_ u_ b_ (ai_ r_ u_ b_ (o_ r_ (bp_ r_ u_ r_ (ak_ (jq_cut true [1, 0, 0] (by simp) rfl ?_)))))))))))))
      (repeat (first | exact True.intro | refine ⟨rfl, ?_⟩))
    · refine an_ (M_ r_ (o_ r_ (cu_ r_ r_ (M_ r_ (ah_ r_ w_ b_ (bd_ r_ (ah_ r_ w_ b_ (bh_ r_ (ah_ r_ w_ b_ (bf_ r_ r_ r_ b_ (ah_ r_ w_ b_ (bg_ 1 r_ r_ r_ r_ (ah_ r_ w_ b_ (cn_ r_ r_ (o_ r_ (bv_ r_ w_ r_ (ak_ (jq_cut (decide (12 ≤ lab0)) [1, 0, 0] (by simp; omega) rfl ?_))))))))))))))))))
      (repeat (first | exact True.intro | refine ⟨rfl, ?_⟩))
  intro b hb
  skip
  have ht : 0 ≤ k0 % 3 ∧ k0 % 3 ≤ 2 := by omega
  refine jc_cut (ι := Int) [0, 1, 4] (fun k => 0 ≤ k ∧ k ≤ 8 ∧ (2 < k → 0 < x ∧ lab0 < 12)) (fun k => [(5, In .i64 k)]) (fun _ => [Mk bm bd V lv0 A Sh hs0 lab0 st0 il, Dk bd L, .own lv0 9 1 (LS.map Wrow)]) ?_ ?_
  · refine jc_cond rfl (fun h => ?_) (fun h => ?_)
    · refine an_ (M_ r_ (o_ r_ (ow_rem64 r_ r_ g_ g_ (E_ r_ (ak_ (jq_cut (k0 % 3) [0, 0, 0] g_ rfl ?_))))))
      (repeat (first | exact True.intro | refine ⟨rfl, ?_⟩))
    · refine as_ (jq_cut k0 [0, 0, 0] ⟨hk0.1, by omega, fun _ => hb h⟩ rfl ?_)
      (repeat (first | exact True.intro | refine ⟨rfl, ?_⟩))
  intro k ⟨hk1, hk8, hkd⟩
  clear ht
  have fin1 : ∀ (s : Sm) (m : Ms), m.ok → StG V A Sh d il hs0 lab0 m.lab [s] → Sm.czs [s] ≤ 120 * (st0 + 1 - m.st) → ∀ K : S → List Ch → Prop, (∀ r : Ms × List Sm, (r.1.ok ∧ r.2.length ≤ 2 ∧ StG V A Sh d il hs0 lab0 r.1.lab r.2 ∧ Sm.czs r.2 ≤ 120 * (st0 + 1 - r.1.st)) → K (.cell (.list (r.2.map Sm.row))) [Mk bm bd V r.1.lv A Sh hs0 r.1.lab r.1.st il, Dk bd L, .own r.1.lv 9 1 (LS.map Wrow)]) →
      K (.cell (.list [s.row])) [Mk bm bd V m.lv A Sh hs0 m.lab m.st il, Dk bd L, .own m.lv 9 1 (LS.map Wrow)] :=
    fun s m hm hs hz K h => h (m, [s]) ⟨hm, by simp, hs, hz⟩
  have fin0 : ∀ (s : Sm), LeafG V (usableF A Sh hs0) lab0 lab0 [s] → ∀ K : S → List Ch → Prop, (∀ r : Ms × List Sm, (r.1.ok ∧ r.2.length ≤ 2 ∧ StG V A Sh d il hs0 lab0 r.1.lab r.2 ∧ Sm.czs r.2 ≤ 120 * (st0 + 1 - r.1.st)) → K (.cell (.list (r.2.map Sm.row))) [Mk bm bd V r.1.lv A Sh hs0 r.1.lab r.1.st il, Dk bd L, .own r.1.lv 9 1 (LS.map Wrow)]) →
      K (.cell (.list [s.row])) [Mk bm bd V lv0 A Sh hs0 lab0 st0 il, Dk bd L, .own lv0 9 1 (LS.map Wrow)] :=
    fun s hs => fin1 s ⟨lv0, lab0, st0⟩ ⟨⟨hlab0, hlab1⟩, hst0, hst1⟩ (.leaf hs) (by have := leaf_cz hs; dsimp only; omega)
  have hU := usable_len A Sh hs0
  have hUA := gv.hA
  have hUS := gv.hSh
  refine am_ (R_ (M_ r_ (T_ (jc_cut (ι := Unit) [0, 1] (fun _ => True) (fun _ => []) (fun _ => [Mk bm bd V lv0 A Sh hs0 lab0 st0 il, Dk bd L, .own lv0 9 1 (LS.map Wrow)]) ?_ ?_))))
  · refine au_ (R_ (o_ r_ (bn_ r_ r_ (E_ r_ (T_ (jc_condd rfl (fun h1 => ?_) (fun h1 => ?_)))))))
    · refine R_ (M_ r_ (o_ r_ (bi_ [0] r_ r_ (gusable_c gv.hA gv.hSh) (E_ r_ (T_ (R_ (M_ r_ (o_ r_ (br_ r_ (fun hlen => o_ r_ (bz_ r_ r_ (T_ (jc_condd rfl (fun hp => ?_) (fun hp => ?_))))))))))))))
      · simp only [List.length_map] at hp
        refine R_ (M_ r_ (M_ r_ (o_ r_ (bt_ [0, 0] rfl rfl (gname_c gv.hL gv.hLn (usableF A Sh hs0) g_ g_) (fun s1 hs1 => M_ r_ (o_ r_ (bt_ [0, 0] rfl rfl (gexpr_c gv.hL gv.hLn gv.hV0 gv.hV gv.hA gv.hSh 1 1 g_ g_ g_) (fun e1 he1 => o_ r_ (bq_ r_ r_ b_ r_ r_ b_ (M_ r_ (o_ r_ (bt_ [0, 0] rfl rfl (gexpr_c gv.hL gv.hLn gv.hV0 gv.hV gv.hA gv.hSh 2 2 g_ g_ g_) (fun e2 he2 => o_ r_ (bq_ r_ r_ b_ r_ r_ b_ ?_))))))))))))))
        exact o_ r_ (bu_ r_ r_ r_ r_ r_ (o_ r_ (bq_ r_ r_ b_ r_ r_ b_ (E_ r_ (T_ (ar_ (az_ (aw_ (jq_sle 4 rfl (SLe.cell (CLe.list (.cons (sm_le 2 s1 [e1] [e2] 0 0 [] [] (ex1_le e1) (ex1_le e2) .nil .nil) .nil))) (jq_ret1 rfl rfl [0, 0, 0] rfl (fin0 _ ⟨rfl, .inr ⟨s1, e1, e2, hs1, he1, he2, rfl⟩⟩)))))))))))
      · refine as_ (ay_ (jq_cut () [0, 0, 0] trivial rfl ?_))
        (repeat (first | exact True.intro | refine ⟨rfl, ?_⟩))
    · refine am_ (jc_cut (ι := Bool) [0, 1, 26] (fun b => b = decide (k = 3 ∨ k = 4 ∨ k = 5)) (fun b => [(45, Bl b)]) (fun _ => [Mk bm bd V lv0 A Sh hs0 lab0 st0 il, Dk bd L, .own lv0 9 1 (LS.map Wrow)]) ?_ ?_)
      · refine R_ (o_ r_ (bn_ r_ r_ (E_ r_ (T_ (jc_condd rfl (fun h3 => ?_) (fun h3 => ?_))))))
        · refine as_ (jq_cut (decide (k = 3)) [0, 0, 0] (by rw [decide_eq_decide]; omega) rfl ?_)
          (repeat (first | exact True.intro | refine ⟨rfl, ?_⟩))
        · refine R_ (o_ r_ (bn_ r_ r_ (E_ r_ (T_ (jc_condd rfl (fun h4 => ?_) (fun h4 => ?_))))))
          · refine as_ (jq_cut (decide (k = 4)) [0, 0, 0] (by rw [decide_eq_decide]; omega) rfl ?_)
            (repeat (first | exact True.intro | refine ⟨rfl, ?_⟩))
          · refine an_ (o_ r_ (bn_ r_ r_ (E_ r_ (ak_ (jq_cut (decide (k = 5)) [0, 0, 0] (by rw [decide_eq_decide]; omega) rfl ?_)))))
            (repeat (first | exact True.intro | refine ⟨rfl, ?_⟩))
      intro b hb
      refine jc_cond rfl (fun hbt => ?_) (fun hbt => ?_)
      · have hk3 : k = 3 ∨ k = 4 ∨ k = 5 := by rw [hb] at hbt; exact of_decide_eq_true hbt
        obtain ⟨hx0, hl12⟩ := hkd (by omega)
        obtain ⟨d', rfl⟩ : ∃ d', d = d' + 1 := ⟨d - 1, by omega⟩
        have hblk := hblk d' rfl
        clear hloop
        refine R_ (M_ r_ (N_ r_ (F_ r_ (L_ 0 r_ (o_ r_ (bj_ r_ r_ g_ (N_ r_ (F_ r_ (W_ 0 r_ (T_ (am_ (jc_anyB 9 (some 8) rfl k_ k_ (yM_ r_ (yN_ r_ (yF_ r_ (yL_ 0 r_ ?_))))))))))))))))
        refine yM_ r_ (aa_ (fun c => ow_callA [0, 0] r_ r_ (con_toEx (gcondition_c gv.hL gv.hLn gv.hV0 gv.hV gv.hA gv.hSh))) (aa_ (fun c => ow_exarg 61 rfl (fun i => bq_ rfl rfl b_ rfl rfl b_ ⟨rfl, .refl _⟩)) (aa_ (fun c => ow_exarg 62 rfl (fun i => bu_ rfl rfl rfl rfl rfl ⟨rfl, .refl _⟩)) (af_ (ae_ (afin_some rfl rfl rfl (fun bS => jl_slot 63 rfl (fun e1 => S_ 0 r_ (T_ (R_ (M_ r_ (M_ r_ (o_ r_ (cg_ r_ r_ g_ ?_))))))))))))))
        refine o_ r_ (ow_callNP [1, 1, 1] rfl rfl (hblk ⟨lv0, lab0 + 1, st0⟩ hs0 il LS (x - 1) 2 ⟨⟨by dsimp only; omega, by dsimp only; omega⟩, hst0, hst1⟩ hil hil2 hLS g_ g_ g_) (fun r n hn hr => ?_))
        obtain ⟨⟨lv1, lab1, st1⟩, v1, l1⟩ := r
        obtain ⟨hok1, hf1, hl1, hsh1, hcz1⟩ := hr
        dsimp only at hok1 hl1 hsh1 hf1 hcz1 ⊢
        refine jl_freezeF 67 0 rfl rfl (hf1.mono hn) (F_ r_ (W_ 3 r_ (T_ (am_ ?_))))
        refine jc_cut (ι := Ms × List Sm) [0, 1, 7] (fun r => r.1.ok ∧ r.2.length ≤ 4 ∧ (r.2 = [] ∧ r.1.lab = lab1 ∨ BlG (StG V A Sh d' il hs0) 2 lab1 r.1.lab r.2) ∧ Sm.czs r.2 ≤ 120 * (st1 - r.1.st)) (fun _ => []) (fun r => [Mk bm bd V r.1.lv A Sh hs0 r.1.lab r.1.st il, Dk bd L, .own r.1.lv 9 1 (LS.map Wrow), .blk bS 51 (Sm.row' (.mk 3 ⟨#[]⟩ [] [e1.1] 0 (lab0 + 1) l1 r.2))]) ?_ ?_
        · refine R_ (M_ r_ (N_ r_ (F_ r_ (L_ 1 r_ (o_ r_ (bt_ [2] rfl rfl (Nx_c _ gv.hL gv.hLn g_) (fun k4 hk4 => o_ r_ (bn_ r_ r_ (T_ (jc_condd rfl (fun h2 => ?_) (fun h2 => ?_)))))))))))
          · refine an_ (M_ r_ (M_ r_ (o_ r_ (cg_ r_ r_ g_ (o_ r_ (ow_callNP [2, 0, 1] rfl rfl (hblk ⟨lv1, lab1, st1⟩ hs0 il LS (x - 1) 2 hok1 hil hil2 hLS g_ g_ g_) (fun r n2 hn2 hr => ?_)))))))
            obtain ⟨⟨lv2, lab2, st2⟩, v2, l2⟩ := r
            obtain ⟨hok2, hf2, hl2, hsh2, hcz2⟩ := hr
            dsimp only at hok2 hl2 hsh2 hf2 hcz2 ⊢
            refine jl_freezeF 78 0 rfl rfl (hf2.mono hn2) (F_ r_ (W_ 3 r_ (ak_ ?_)))
            (first | refine jq_row 0 _ rfl (sm_le' 3 ⟨#[]⟩ [] [e1.1] 0 (lab0 + 1) l1 l2 .nil (ex1_le e1.1) (.refl _) (.refl _)) ?_ | refine jq_row 1 _ rfl (sm_le' 3 ⟨#[]⟩ [] [e1.1] 0 (lab0 + 1) l1 l2 .nil (ex1_le e1.1) (.refl _) (.refl _)) ?_ | refine jq_row 2 _ rfl (sm_le' 3 ⟨#[]⟩ [] [e1.1] 0 (lab0 + 1) l1 l2 .nil (ex1_le e1.1) (.refl _) (.refl _)) ?_ | refine jq_row 3 _ rfl (sm_le' 3 ⟨#[]⟩ [] [e1.1] 0 (lab0 + 1) l1 l2 .nil (ex1_le e1.1) (.refl _) (.refl _)) ?_)
            (first | refine jq_cut (⟨lv2, lab2, st2⟩, l2) [1, 1, 1, 0] ⟨hok2, by dsimp only; omega, .inr hsh2, hcz2⟩ rfl ?_ | refine jq_cut (⟨lv2, lab2, st2⟩, l2) [1, 2, 1, 0] ⟨hok2, by dsimp only; omega, .inr hsh2, hcz2⟩ rfl ?_ | refine jq_cut (⟨lv2, lab2, st2⟩, l2) [2, 1, 1, 0] ⟨hok2, by dsimp only; omega, .inr hsh2, hcz2⟩ rfl ?_ | refine jq_cut (⟨lv2, lab2, st2⟩, l2) [2, 2, 1, 0] ⟨hok2, by dsimp only; omega, .inr hsh2, hcz2⟩ rfl ?_ | refine jq_cut (⟨lv2, lab2, st2⟩, l2) [3, 1, 1, 0] ⟨hok2, by dsimp only; omega, .inr hsh2, hcz2⟩ rfl ?_ | refine jq_cut (⟨lv2, lab2, st2⟩, l2) [3, 2, 1, 0] ⟨hok2, by dsimp only; omega, .inr hsh2, hcz2⟩ rfl ?_)
            (repeat (first | exact True.intro | refine ⟨rfl, ?_⟩))
          · refine as_ ?_
            (first | refine jq_row 0 _ rfl (sm_le' 3 ⟨#[]⟩ [] [e1.1] 0 (lab0 + 1) l1 [] .nil (ex1_le e1.1) (.refl _) .nil) ?_ | refine jq_row 1 _ rfl (sm_le' 3 ⟨#[]⟩ [] [e1.1] 0 (lab0 + 1) l1 [] .nil (ex1_le e1.1) (.refl _) .nil) ?_ | refine jq_row 2 _ rfl (sm_le' 3 ⟨#[]⟩ [] [e1.1] 0 (lab0 + 1) l1 [] .nil (ex1_le e1.1) (.refl _) .nil) ?_ | refine jq_row 3 _ rfl (sm_le' 3 ⟨#[]⟩ [] [e1.1] 0 (lab0 + 1) l1 [] .nil (ex1_le e1.1) (.refl _) .nil) ?_)
            (first | refine jq_cut (⟨lv1, lab1, st1⟩, []) [1, 1, 1, 0] ⟨hok1, by simp, .inl ⟨rfl, rfl⟩, nil_cz⟩ rfl ?_ | refine jq_cut (⟨lv1, lab1, st1⟩, []) [1, 2, 1, 0] ⟨hok1, by simp, .inl ⟨rfl, rfl⟩, nil_cz⟩ rfl ?_ | refine jq_cut (⟨lv1, lab1, st1⟩, []) [2, 1, 1, 0] ⟨hok1, by simp, .inl ⟨rfl, rfl⟩, nil_cz⟩ rfl ?_ | refine jq_cut (⟨lv1, lab1, st1⟩, []) [2, 2, 1, 0] ⟨hok1, by simp, .inl ⟨rfl, rfl⟩, nil_cz⟩ rfl ?_ | refine jq_cut (⟨lv1, lab1, st1⟩, []) [3, 1, 1, 0] ⟨hok1, by simp, .inl ⟨rfl, rfl⟩, nil_cz⟩ rfl ?_ | refine jq_cut (⟨lv1, lab1, st1⟩, []) [3, 2, 1, 0] ⟨hok1, by simp, .inl ⟨rfl, rfl⟩, nil_cz⟩ rfl ?_)
            (repeat (first | exact True.intro | refine ⟨rfl, ?_⟩))
        · rintro ⟨⟨lv2, lab2, st2⟩, l2⟩ ⟨hok2, hl2, hsh2, hcz2⟩
          dsimp only at hok2 hl2 hsh2 hcz2 ⊢
          exact R_ (A_ 3 r_ (o_ r_ (bq_ r_ r_ b_ r_ r_ b_ (E_ r_ (T_ (ar_ (az_ (aw_ (jq_sle 4 rfl (SLe.cell (CLe.list (.cons (sm_le 3 ⟨#[]⟩ [] [e1.1] 0 (lab0 + 1) l1 l2 (.refl _) (.refl _) (.refl _) (.refl _)) .nil))) (jq_ret1 rfl rfl [0, 0, 0] rfl (fin1 _ ⟨lv2, lab2, st2⟩ hok2 (.inn (.inl ⟨hl12, e1.1, l1, l2, lab1, e1.2, hsh1, hsh2, rfl⟩)) (if_cz e1.2 hcz1 hcz2))))))))))))
      · refine am_ (jc_cut (ι := Bool) [0, 1, 26] (fun b => b = decide (k = 6 ∨ k = 7)) (fun b => [(82, Bl b)]) (fun _ => [Mk bm bd V lv0 A Sh hs0 lab0 st0 il, Dk bd L, .own lv0 9 1 (LS.map Wrow)]) ?_ ?_)
        · refine R_ (o_ r_ (bn_ r_ r_ (E_ r_ (T_ (jc_condd rfl (fun h6 => ?_) (fun h6 => ?_))))))
          · refine as_ (jq_cut (decide (k = 6)) [0, 0, 0] (by rw [decide_eq_decide]; omega) rfl ?_)
            (repeat (first | exact True.intro | refine ⟨rfl, ?_⟩))
          · refine an_ (o_ r_ (bn_ r_ r_ (E_ r_ (ak_ (jq_cut (decide (k = 7)) [0, 0, 0] (by rw [decide_eq_decide]; omega) rfl ?_)))))
            (repeat (first | exact True.intro | refine ⟨rfl, ?_⟩))
        intro b hb
        refine jc_cond rfl (fun hbt => ?_) (fun hbt => ?_)
        · have hk6 : k = 6 ∨ k = 7 := by rw [hb] at hbt; exact of_decide_eq_true hbt
          obtain ⟨hx0, hl12⟩ := hkd (by omega)
          obtain ⟨d', rfl⟩ : ∃ d', d = d' + 1 := ⟨d - 1, by omega⟩
          have hloop := hloop d' rfl
          clear hblk
          refine R_ (M_ r_ (N_ r_ (F_ r_ (L_ 0 r_ (o_ r_ (bw_ r_ r_ (T_ (jc_condd rfl (fun hil1 => ?_) (fun hil1 => ?_)))))))))
          · refine R_ (M_ r_ (M_ r_ (o_ r_ (bt_ [0, 0, 0] rfl rfl (hloop ⟨lv0, lab0, st0⟩ hs0 il LS x ⟨⟨hlab0, hlab1⟩, hst0, hst1⟩ (by dsimp only; omega) hil g_ hLS hx) (fun r hr => ?_)))))
            obtain ⟨m1, l1⟩ := r
            dsimp only at hr ⊢
            exact E_ r_ (T_ (ar_ (az_ (aw_ (jq_ret1 rfl rfl [0, 0, 0] rfl (fun K h => h (m1, l1) ⟨hr.1, hr.2.1, .inn (.inr (.inl hr.2.2.1)), hr.2.2.2⟩))))))
          · refine as_ (ay_ (jq_cut () [0, 0, 0] trivial rfl ?_))
            (repeat (first | exact True.intro | refine ⟨rfl, ?_⟩))
        · refine R_ (o_ r_ (bn_ r_ r_ (E_ r_ (T_ (jc_condd rfl (fun h8 => ?_) (fun h8 => ?_))))))
          · obtain ⟨hx0, hl12⟩ := hkd (by omega)
            obtain ⟨d', rfl⟩ : ∃ d', d = d' + 1 := ⟨d - 1, by omega⟩
            have hblk := hblk d' rfl
            clear hloop
            refine am_ (jc_cut (ι := Bool) [0, 1] (fun b => b = true → hs0 = ⟨#[]⟩ ∧ 0 < Sh.length) (fun b => [(107, Bl b)]) (fun _ => [Mk bm bd V lv0 A Sh hs0 lab0 st0 il, Dk bd L, .own lv0 9 1 (LS.map Wrow)]) ?_ ?_)
            · by_cases hh : hs0 = ⟨#[]⟩
              · refine an_ (M_ r_ (N_ r_ (F_ r_ (L_ 0 r_ (o_ r_ (cs_ r_ r_ (M_ r_ (ah_ r_ u_ b_ (bd_ r_ (ah_ r_ u_ b_ (bh_ r_ (ah_ r_ u_ b_ (bf_ r_ r_ r_ b_ (ah_ r_ u_ b_ (bg_ 0 r_ r_ r_ r_ (ah_ r_ u_ b_ (br_ r_ (fun hlen => ah_ r_ u_ b_ (bz_ r_ r_ (o_ r_ (bp_ r_ u_ r_ (ak_ (jq_cut (decide (0 < ((Sh.map ShRow).length : Int))) [0, 0, 0] (by simp [hh]) rfl ?_)))))))))))))))))))))))
                (repeat (first | exact True.intro | refine ⟨rfl, ?_⟩))
              · refine an_ (M_ r_ (N_ r_ (F_ r_ (L_ 0 r_ (o_ r_ (cs_ r_ r_ (M_ r_ (ai_ r_ w_ b_ (ai_ r_ w_ b_ (ai_ r_ w_ b_ (ai_ r_ w_ b_ (ai_ r_ w_ b_ (ai_ r_ w_ b_ (o_ r_ (bv_ r_ w_ r_ (ak_ (jq_cut false [0, 0, 0] (by simp) rfl ?_)))))))))))))))))
                (repeat (first | exact True.intro | refine ⟨rfl, ?_⟩))
            intro b2 hb2
            refine jc_cond rfl (fun hbt => ?_) (fun hbt => ?_)
            · obtain ⟨rfl, hSh0⟩ := hb2 hbt
              have hShm := gv.hSh
              have eSh : (Sh.map ShRow).length = Sh.length := List.length_map _
              refine am_ (jc_anyB 18 none rfl k_ k_ (yM_ r_ (yM_ r_ (yN_ r_ (yF_ r_ (yL_ 0 r_ (yM_ r_ (yN_ r_ (yF_ r_ (yL_ 0 r_ (yM_ r_ (yN_ r_ (yF_ r_ (yL_ 0 r_ (aa_ (fun c => br_ r_ (fun hlen => p_)) ?_)))))))))))))))
              refine aa_ (fun c => ow_callA [1] r_ r_ (gNext_c L _ _ gv.hL gv.hLn g_)) (aa_ (fun c => ow_exarg 122 rfl (fun i => cv_ rfl rfl (by have := i.2; omega) (by have := i.2; omega) rfl rfl b_ ⟨rfl, .refl _⟩)) (aa_ (fun c => ow_exarg 123 rfl (fun i => cf_ rfl rfl rfl b_ rfl b_ ⟨rfl, .refl _⟩)) (aa_ (fun c => ow_exarg 124 rfl (fun i => cb_ rfl rfl ⟨rfl, .refl _⟩)) (ae_ (afin_none (jl_slot 125 rfl (fun i => N_ r_ (F_ r_ ?_))))))))
              refine W_ 0 r_ (T_ (R_ (M_ r_ (N_ r_ (F_ r_ (L_ 0 r_ (E_ r_ (T_ (R_ (M_ r_ (M_ r_ (M_ r_ (o_ r_ (cg_ r_ r_ g_ (o_ r_ (ow_callNP [0, 0, 0] rfl rfl (hblk ⟨lv0, lab0, st0⟩ Sh[i.1.toNat].2.2 il LS (x - 1) 2 ⟨⟨hlab0, hlab1⟩, hst0, hst1⟩ hil hil2 hLS g_ g_ g_) (fun r n hn hr => ?_)))))))))))))))))
              obtain ⟨⟨lv1, lab1, st1⟩, v1, l1⟩ := r
              obtain ⟨hok1, hf1, hl1, hsh1, hcz1⟩ := hr
              dsimp only at hok1 hl1 hsh1 hf1 hcz1 ⊢
              refine jl_freezeF 136 0 rfl rfl (hf1.mono hn) (o_ r_ (bu_ r_ r_ r_ r_ r_ (o_ r_ (bl_ r_ r_ (fun bl => S_ 0 r_ (T_ (R_ (M_ r_ (N_ r_ (F_ r_ (W_ 1 r_ (T_ (R_ (A_ 1 r_ (o_ r_ (bq_ r_ r_ b_ r_ r_ b_ (E_ r_ (T_ ?_))))))))))))))))))
              refine ar_ (az_ (aw_ (jq_sle 4 rfl (SLe.cell (CLe.list (.cons (sm_le 5 Sh[i.1.toNat].2.2 [] [] 0 0 l1 [] .nil .nil (.refl _) .nil) .nil))) ?_)))
              first | exact jq_ret1 rfl rfl [0, 1, 1] rfl (fin1 _ ⟨lv1, lab1, st1⟩ hok1 (.inn (.inr (.inr ⟨rfl, _, List.getElem_mem (h := by have := i.2; omega), l1, hsh1, rfl⟩))) (lock_cz hcz1)) | exact jq_ret1 rfl rfl [0, 2, 1] rfl (fin1 _ ⟨lv1, lab1, st1⟩ hok1 (.inn (.inr (.inr ⟨rfl, _, List.getElem_mem (h := by have := i.2; omega), l1, hsh1, rfl⟩))) (lock_cz hcz1)) | exact jq_ret1 rfl rfl [0, 0, 0] rfl (fin1 _ ⟨lv1, lab1, st1⟩ hok1 (.inn (.inr (.inr ⟨rfl, _, List.getElem_mem (h := by have := i.2; omega), l1, hsh1, rfl⟩))) (lock_cz hcz1)) | exact jq_ret1 rfl rfl [0, 0, 1] rfl (fin1 _ ⟨lv1, lab1, st1⟩ hok1 (.inn (.inr (.inr ⟨rfl, _, List.getElem_mem (h := by have := i.2; omega), l1, hsh1, rfl⟩))) (lock_cz hcz1)) | exact jq_ret1 rfl rfl [0, 1, 0] rfl (fin1 _ ⟨lv1, lab1, st1⟩ hok1 (.inn (.inr (.inr ⟨rfl, _, List.getElem_mem (h := by have := i.2; omega), l1, hsh1, rfl⟩))) (lock_cz hcz1)) | exact jq_ret1 rfl rfl [1, 0, 0] rfl (fin1 _ ⟨lv1, lab1, st1⟩ hok1 (.inn (.inr (.inr ⟨rfl, _, List.getElem_mem (h := by have := i.2; omega), l1, hsh1, rfl⟩))) (lock_cz hcz1)) | exact jq_ret1 rfl rfl [1, 1, 0] rfl (fin1 _ ⟨lv1, lab1, st1⟩ hok1 (.inn (.inr (.inr ⟨rfl, _, List.getElem_mem (h := by have := i.2; omega), l1, hsh1, rfl⟩))) (lock_cz hcz1))
            · refine as_ (ay_ (jq_cut () [0, 0, 0] trivial rfl ?_))
              (repeat (first | exact True.intro | refine ⟨rfl, ?_⟩))
          · refine as_ (ay_ (jq_cut () [0, 0, 0] trivial rfl ?_))
            (repeat (first | exact True.intro | refine ⟨rfl, ?_⟩))
  · intro _ _
    refine R_ (M_ r_ (o_ r_ (bt_ [0, 0, 0] rfl rfl (gtarget_c gv.hL gv.hLn gv.hV0 gv.hV g_) (fun s1 hs1 => M_ r_ (o_ r_ (bt_ [0, 0] rfl rfl (gexpr_c gv.hL gv.hLn gv.hV0 gv.hV gv.hA gv.hSh 2 2 g_ g_ g_) (fun e1 he1 => o_ r_ (bq_ r_ r_ b_ r_ r_ b_ (o_ r_ (bu_ r_ r_ r_ r_ r_ (o_ r_ (bq_ r_ r_ b_ r_ r_ b_ (E_ r_ (T_ (ar_ ?_)))))))))))))))
    exact jq_sle 4 rfl (SLe.cell (CLe.list (.cons (sm_le 1 s1 [] [e1] 0 0 [] [] .nil (ex1_le e1) .nil .nil) .nil))) (jq_ret1 rfl rfl [0, 0, 0] rfl (fin0 _ ⟨rfl, .inl ⟨s1, e1, hs1, he1, rfl⟩⟩))
end
end Go.Proofs.YtlniadfidfmckaaGreatDoor
end

section
namespace Go.Proofs.YtlniadfidfmckaaGreatDoor
open Go.Vc
set_option maxHeartbeats 4000000
attribute [local irreducible] JL JC JQ OpWp Con ConN

def lim (n : Int) : Int := min n 1099511627776
def wP : Nat → T → Int
  | 0, _ => 1099511627776
  | f + 1, e => e.args.foldl (fun n x => lim (n + wP f x)) 1
def wParts (e : T) (f : Nat) : Int := wP f e
def wPartsL (l : List T) (f : Nat) (n : Int) : Int := l.foldl (fun n e => lim (n + wParts e f)) n
theorem wParts_zero (e : T) : wParts e 0 = 1099511627776 := rfl
theorem wParts_succ (e : T) (f : Nat) : wParts e (f + 1) = wPartsL e.args f 1 := rfl
theorem lim_bd (n : Int) (h : 0 ≤ n) : 0 ≤ lim n ∧ lim n ≤ 1099511627776 := by unfold lim; omega
theorem wPartsL_bd (f : Nat) (hf : ∀ e, 0 ≤ wParts e f ∧ wParts e f ≤ 1099511627776) : ∀ (l : List T) (n : Int), 0 ≤ n ∧ n ≤ 1099511627776 → 0 ≤ wPartsL l f n ∧ wPartsL l f n ≤ 1099511627776
  | [], n, h => by simpa [wPartsL] using h
  | e :: r, n, h => wPartsL_bd f hf r _ (lim_bd _ (by have := hf e; omega))
theorem wParts_bd : ∀ (f : Nat) (e : T), 0 ≤ wParts e f ∧ wParts e f ≤ 1099511627776
  | 0, e => by rw [wParts_zero]; omega
  | f + 1, e => by rw [wParts_succ]; exact wPartsL_bd f (wParts_bd f) _ _ (by omega)
theorem wPartsL_snoc (f : Nat) (e : T) (l : List T) (n : Int) : wPartsL (l ++ [e]) f n = lim (wPartsL l f n + wParts e f) := by simp [wPartsL]
theorem wPartsL_take (f : Nat) (l : List T) (n : Int) (k : Nat) (h : k < l.length) : wPartsL (l.take (k + 1)) f n = lim (wPartsL (l.take k) f n + wParts l[k] f) := by
  rw [List.take_succ_eq_append_getElem h, wPartsL_snoc]
mutual
/-- The weight of a statement; of the depths, 'fuel' are left. -/
def wOne : Nat → Sm → Int
  | 0, _ => 1099511627776
  | f + 1, s =>
    if s.kind = 1 ∨ s.kind = 2 then lim (1 + wPartsL s.index 20 0 + wPartsL s.value 20 0)
    else if s.kind = 3 then lim (2 + wPartsL s.value 20 0 + wAll f s.thn 0 + wAll f s.els 0)
    else if s.kind = 4 then lim (2 + (Max.max 0 (min s.max 33) + 1) * lim (2 + wPartsL s.value 20 0 + wAll f s.thn 0))
    else if s.kind = 5 then lim (2 + wAll f s.thn 0)
    else 0
def wAll : Nat → List Sm → Int → Int
  | _, [], n => n
  | f, s :: r, n => wAll f r (lim (n + wOne f s))
end
theorem prod_bd (a b : Int) (h1 : 0 ≤ a) (h2 : a ≤ 34) (h3 : 0 ≤ b) (h4 : b ≤ 1099511627776) : 0 ≤ a * b ∧ a * b ≤ 37383395344384 := by
  refine ⟨Int.mul_nonneg h1 h3, ?_⟩
  have := Int.mul_le_mul h2 h4 h3 (by omega)
  omega

mutual
theorem wOne_bd : ∀ (f : Nat) (s : Sm), 0 ≤ wOne f s ∧ wOne f s ≤ 1099511627776
  | 0, s => by rw [wOne]; omega
  | f + 1, s => by
    have b1 := wPartsL_bd 20 (wParts_bd 20) s.index 0 (by omega)
    have b2 := wPartsL_bd 20 (wParts_bd 20) s.value 0 (by omega)
    have b3 := wAll_bd f s.thn 0 (by omega)
    have b4 := wAll_bd f s.els 0 (by omega)
    rw [wOne]
    split
    · exact lim_bd _ g_
    split
    · exact lim_bd _ g_
    split
    · have b5 := lim_bd (2 + wPartsL s.value 20 0 + wAll f s.thn 0) (by omega)
      have b7 := prod_bd (Max.max 0 (min s.max 33) + 1) _ (by omega) (by omega) b5.1 b5.2
      exact lim_bd _ g_
    split
    · exact lim_bd _ g_
    · omega
theorem wAll_bd : ∀ (f : Nat) (l : List Sm) (n : Int), 0 ≤ n ∧ n ≤ 1099511627776 → 0 ≤ wAll f l n ∧ wAll f l n ≤ 1099511627776
  | f, [], n, h => by simpa [wAll] using h
  | f, s :: r, n, h => by
    rw [wAll]
    exact wAll_bd f r _ (lim_bd _ (by have := wOne_bd f s; omega))
end

theorem wAll_snoc (f : Nat) (e : Sm) : ∀ (l : List Sm) (n : Int), wAll f (l ++ [e]) n = lim (wAll f l n + wOne f e)
  | [], n => by simp [wAll]
  | a :: l, n => by simp only [List.cons_append, wAll]; exact wAll_snoc f e l _
theorem wAll_take (f : Nat) (l : List Sm) (n : Int) (k : Nat) (h : k < l.length) : wAll f (l.take (k + 1)) n = lim (wAll f (l.take k) n + wOne f l[k]) := by
  rw [List.take_succ_eq_append_getElem h, wAll_snoc]


theorem wexpr_c : ∀ (fuel : Nat) (e : T) (depth : Int), 0 ≤ depth → depth + fuel = 21 → Con Tryz.prog 140 [.row e.row', In .i64 depth] [] (fun K => K (In .i64 (wParts e fuel)) []) := by
  intro fuel
  induction fuel with
  | zero =>
    intro e depth h0 h1
    refine con_intro Tryz.func140 rfl rfl (Nat.le_of_ble_eq_true rfl) (fun c hc => R_ (o_ r_ (ci_ r_ (fun bx => E_ r_ (T_ (am_ (R_ (M_ r_ (o_ r_ (bz_ r_ r_ (T_ (jc_condd rfl (fun h => R_ (E_ r_ (T_ (ar_ (aw_ ?_))))) (fun h => absurd (show 20 < depth by omega) h)))))))))))))
    refine jq_ret1 rfl rfl [] rfl (fun K h => by rw [wParts_zero] at h; exact h)
  | succ f ih =>
    intro e depth h0 h1
    refine con_intro Tryz.func140 rfl rfl (Nat.le_of_ble_eq_true rfl) (fun c hc => R_ (o_ r_ (ci_ r_ (fun bx => E_ r_ (T_ (am_ (R_ (M_ r_ (o_ r_ (bz_ r_ r_ (T_ (jc_condd rfl (fun h => by omega) (fun h => as_ (al_ (R_ (E_ r_ (T_ ?_)))))))))))))))))
    refine am_ (R_ (E_ r_ (T_ (au_ (jc_loop [1, 2] (fun k => k ≤ e.args.length) (fun k => [(5, In .i64 (wPartsL (e.args.take k) f 1)), (6, In .i64 (k : Int))]) (fun _ => [.blk bx 53 e.row']) (fun k => e.args.length - k) 0 [0] (Nat.zero_le _) rfl ?_ ?_)))))
    · (repeat (first | exact True.intro | refine ⟨rfl, ?_⟩))
    · intro k hk
      refine am_ (R_ (M_ r_ (F_ r_ (L_ 0 r_ (o_ r_ (br_ r_ (fun hlen => o_ r_ (bw_ r_ r_ (T_ ?_)))))))))
      have hmax : e.args.length ≤ 9223372036854775807 := by simpa using hlen
      refine jc_condd rfl (fun hlt => ?_) (fun hge => ?_)
      · simp only [List.length_map, Int.ofNat_lt] at hlt
        have b1 := wParts_bd f e.args[k]
        have b2 := wPartsL_bd f (wParts_bd f) (e.args.take k) 1 (by omega)
        refine as_ (al_ (B_ (an_ (M_ r_ (F_ r_ (L_ 0 r_ (M_ r_ (o_ r_ (cc_ r_ r_ g_ (T.row_eq _) r_ b_ (o_ r_ (cr_ r_ r_ r_ (M_ r_ (o_ r_ (bj_ r_ r_ g_ (o_ r_ (bm_ r_ (ih _ _ g_ g_) (o_ r_ (bj_ r_ r_ g_ (o_ r_ (cl_ r_ r_ (E_ r_ ?_)))))))))))))))))))))
        refine ak_ (ay_ (al_ (an_ (M_ r_ (o_ r_ (bj_ r_ r_ g_ (E_ r_ (ak_ (jq_again (k + 1) [0] hlt g_ rfl ?_)))))))))
        · rw [wPartsL_take f e.args 1 k hlt]
          unfold lim
          rw [Int.min_comm]
          (repeat (first | exact True.intro | refine ⟨rfl, ?_⟩))
      · simp only [List.length_map, Int.ofNat_lt] at hge
        refine av_ (ax_ (ax_ (ba_ (al_ (R_ (M_ r_ (E_ r_ (T_ (ar_ (jq_ret1 rfl rfl [] rfl (fun K h => by rw [wParts_succ, ← List.take_of_length_le (Nat.le_of_not_lt hge)] at h; exact h)))))))))))

theorem rexprs_c (l : List T) : Con Tryz.prog 126 [.cell (.list (l.map T.row))] [] (fun K => K (In .i64 (wPartsL l 20 0)) []) := by
  refine con_intro Tryz.func126 rfl rfl (Nat.le_of_ble_eq_true rfl) (fun c hc => R_ (E_ r_ (T_ (R_ (E_ r_ (T_ (am_ (R_ (E_ r_ (T_ (au_ (jc_loop [0] (fun k => k ≤ l.length) (fun k => [(3, In .i64 (wPartsL (l.take k) 20 0)), (4, In .i64 (k : Int))]) (fun _ => []) (fun k => l.length - k) 0 [] (Nat.zero_le _) rfl ?_ ?_))))))))))))
  · (repeat (first | exact True.intro | refine ⟨rfl, ?_⟩))
  · intro k hk
    refine am_ (R_ (M_ r_ (M_ r_ (o_ r_ (br_ r_ (fun hlen => o_ r_ (bw_ r_ r_ (T_ ?_))))))))
    have hmax : l.length ≤ 9223372036854775807 := by simpa using hlen
    refine jc_condd rfl (fun hlt => ?_) (fun hge => ?_)
    · simp only [List.length_map, Int.ofNat_lt] at hlt
      have b1 := wParts_bd 20 l[k]
      have b2 := wPartsL_bd 20 (wParts_bd 20) (l.take k) 0 (by omega)
      refine as_ (al_ (B_ (an_ (M_ r_ (M_ r_ (M_ r_ (o_ r_ (cc_ r_ r_ g_ (T.row_eq _) r_ b_ (o_ r_ (cr_ r_ r_ r_ (o_ r_ (bm_ r_ (wexpr_c 20 _ _ g_ g_) (o_ r_ (bj_ r_ r_ g_ (o_ r_ (cl_ r_ r_ (E_ r_ (ak_ (ay_ (al_ ?_))))))))))))))))))))
      refine an_ (M_ r_ (o_ r_ (bj_ r_ r_ g_ (E_ r_ (ak_ (jq_again (k + 1) [] hlt g_ rfl ?_))))))
      · rw [wPartsL_take 20 l 0 k hlt]
        unfold lim
        rw [Int.min_comm]
        (repeat (first | exact True.intro | refine ⟨rfl, ?_⟩))
    · simp only [List.length_map, Int.ofNat_lt] at hge
      refine av_ (ax_ (ax_ (ba_ (al_ (R_ (M_ r_ (E_ r_ (T_ (ar_ (jq_ret1 rfl rfl [] rfl (fun K h => by rw [← List.take_of_length_le (Nat.le_of_not_lt hge)] at h; exact h)))))))))))

theorem lim_lim (a b : Int) (h : 0 ≤ a) : lim (a + lim b) = lim (a + b) := by unfold lim; omega
theorem wAll_full (l : List Sm) : ∀ n, n = 1099511627776 → wAll 0 l n = 1099511627776 := by
  induction l with
  | nil => intro n h; simpa [wAll] using h
  | cons s l ih => intro n h; rw [wAll]; exact ih _ (by subst h; rw [wOne]; rfl)

theorem rweight_zero (l : List Sm) (depth : Int) (h1 : depth = 21) : Con Tryz.prog 102 [.cell (.list (l.map Sm.row)), In .i64 depth] [] (fun K => K (In .i64 (wAll 0 l 0)) []) := by
  refine con_intro Tryz.func102 rfl rfl (Nat.le_of_ble_eq_true rfl) (fun c hc => R_ (E_ r_ (T_ (R_ (E_ r_ (T_ (am_ (R_ (E_ r_ (T_ (au_ (jc_loop [0, 1] (fun k : Nat => k = 0) (fun k => [(5, In .i64 0), (6, In .i64 (k : Int))]) (fun _ => []) (fun k => l.length - k) 0 [] rfl rfl ?_ ?_))))))))))))
  · (repeat (first | exact True.intro | refine ⟨rfl, ?_⟩))
  · rintro k hk
    refine am_ (R_ (M_ r_ (M_ r_ (o_ r_ (br_ r_ (fun hlen => o_ r_ (bw_ r_ r_ (T_ (jc_condd rfl (fun hlt => ?_) (fun hge => ?_))))))))))
    · refine as_ (al_ (B_ (am_ (R_ (M_ r_ (o_ r_ (bz_ r_ r_ (T_ (jc_condd rfl (fun _ => R_ (E_ r_ (T_ (ar_ (aw_ (az_ (aw_ ?_))))))) (fun h => by omega))))))))))
      refine aw_ (az_ (aw_ (jq_ret1 rfl rfl [] rfl (fun K h => ?_))))
      cases l with
      | nil => simp at hlt; omega
      | cons s l => rw [wAll, wAll_full l _ (by simp [wOne, lim])] at h; exact h
    · refine av_ (ax_ (ax_ (ba_ (al_ (R_ (M_ r_ (E_ r_ (T_ (ar_ ?_)))))))))
      have : l = [] := by cases l with
        | nil => rfl
        | cons s l => simp at hge; omega
      subst this
      refine jq_ret1 rfl rfl [] rfl (fun K h => by simpa [wAll] using h)

theorem rweight_succ (f : Nat) (ih : ∀ (l : List Sm) (depth : Int), 0 ≤ depth → depth + f = 21 → Con Tryz.prog 102 [.cell (.list (l.map Sm.row)), In .i64 depth] [] (fun K => K (In .i64 (wAll f l 0)) []))
    (l : List Sm) (depth : Int) (h0 : 0 ≤ depth) (h1 : depth + (f + 1 : Nat) = 21) : Con Tryz.prog 102 [.cell (.list (l.map Sm.row)), In .i64 depth] [] (fun K => K (In .i64 (wAll (f + 1) l 0)) []) := by
  refine con_intro Tryz.func102 rfl rfl (Nat.le_of_ble_eq_true rfl) (fun c hc => R_ (E_ r_ (T_ (R_ (E_ r_ (T_ (am_ (R_ (E_ r_ (T_ (au_ (jc_loop [0, 1] (fun k => k ≤ l.length) (fun k => [(5, In .i64 (wAll (f + 1) (l.take k) 0)), (6, In .i64 (k : Int))]) (fun _ => []) (fun k => l.length - k) 0 [] (Nat.zero_le _) rfl ?_ ?_))))))))))))
  · rw [List.take_zero, wAll]
    (repeat (first | exact True.intro | refine ⟨rfl, ?_⟩))
  · intro k hk
    refine am_ (R_ (M_ r_ (M_ r_ (o_ r_ (br_ r_ (fun hlen => o_ r_ (bw_ r_ r_ (T_ ?_))))))))
    have hmax : l.length ≤ 9223372036854775807 := by simpa using hlen
    refine jc_condd rfl (fun hlt => ?_) (fun hge => ?_)
    · simp only [List.length_map, Int.ofNat_lt] at hlt
      have b1 := wPartsL_bd 20 (wParts_bd 20) l[k].index 0 (by omega)
      have b2 := wPartsL_bd 20 (wParts_bd 20) l[k].value 0 (by omega)
      have b3 := wAll_bd f l[k].thn 0 (by omega)
      have b4 := wAll_bd f l[k].els 0 (by omega)
      have b8 := wAll_bd (f + 1) (l.take k) 0 (by omega)
      refine as_ (al_ (B_ (am_ (R_ (M_ r_ (o_ r_ (bz_ r_ r_ (T_ (jc_condd rfl (fun h => by omega) (fun h => as_ (al_ (R_ (M_ r_ (M_ r_ (o_ r_ (cc_ r_ r_ g_ (Sm.row_eq _) r_ b_ (o_ r_ (cr_ r_ r_ r_ ?_))))))))))))))))))
      refine o_ r_ (bl_ r_ r_ (fun bl => S_ 0 r_ (T_ (R_ (E_ r_ (T_ (am_ (R_ (F_ r_ (L_ 0 r_ (T_ (jc_cut (ι := Int) [0, 1, 5, 6] (fun n => 0 ≤ n ∧ n ≤ 1099511627776000000 ∧ lim n = wOne (f + 1) l[k]) (fun n => [(8, In .i64 n)]) (fun _ => []) ?_ ?_))))))))))))
      · refine au_ (am_ (R_ (o_ r_ (bn_ r_ r_ (E_ r_ (T_ (jc_condd rfl (fun hk1 => ?_) (fun hk1 => ?_))))))))
        · refine as_ (al_ (jc_condd rfl (fun _ => ao_ r_ r_ k_ k_ (yF_ r_ (yL_ 0 r_ (aa_ (fun c => bm_ r_ (rexprs_c _) p_) (aa_ (fun c => bj_ r_ r_ g_ p_) (yF_ r_ (yL_ 0 r_ (aa_ (fun c => bm_ r_ (rexprs_c _) p_) (aa_ (fun c => bj_ r_ r_ g_ p_) (yE_ r_ (ae_ (ay_ (jq_cut (1 + wPartsL l[k].index 20 0 + wPartsL l[k].value 20 0) [] ⟨by omega, by omega, by rw [wOne, if_pos (.inl hk1)]⟩ rfl ?_))))))))))))) (fun h => absurd hk1 h)))
          (repeat (first | exact True.intro | refine ⟨rfl, ?_⟩))
        · refine an_ (o_ r_ (bn_ r_ r_ (E_ r_ (T_ (jc_condd rfl (fun hk2 => ?_) (fun hk2 => ?_))))))
          · refine ao_ r_ r_ k_ k_ (yF_ r_ (yL_ 0 r_ (aa_ (fun c => bm_ r_ (rexprs_c _) p_) (aa_ (fun c => bj_ r_ r_ g_ p_) (yF_ r_ (yL_ 0 r_ (aa_ (fun c => bm_ r_ (rexprs_c _) p_) (aa_ (fun c => bj_ r_ r_ g_ p_) (yE_ r_ (ae_ (ay_ (jq_cut (1 + wPartsL l[k].index 20 0 + wPartsL l[k].value 20 0) [] ⟨by omega, by omega, by rw [wOne, if_pos (.inr hk2)]⟩ rfl ?_))))))))))))
            (repeat (first | exact True.intro | refine ⟨rfl, ?_⟩))
          · have h12 : ¬ (l[k].kind = 1 ∨ l[k].kind = 2) := by omega
            refine R_ (o_ r_ (bn_ r_ r_ (E_ r_ (T_ (jc_condd rfl (fun hk3 => ?_) (fun hk3 => ?_))))))
            · refine ao_ r_ r_ k_ k_ (yF_ r_ (yL_ 0 r_ (aa_ (fun c => bm_ r_ (rexprs_c _) p_) (aa_ (fun c => bj_ r_ r_ g_ p_) (yF_ r_ (yL_ 0 r_ (yM_ r_ (aa_ (fun c => bj_ r_ r_ g_ p_) (aa_ (fun c => bm_ r_ (ih _ _ g_ g_) p_) (aa_ (fun c => bj_ r_ r_ g_ p_) (yF_ r_ (yL_ 0 r_ (yM_ r_ (aa_ (fun c => bj_ r_ r_ g_ p_) (aa_ (fun c => bm_ r_ (ih _ _ g_ g_) p_) ?_)))))))))))))))
              refine aa_ (fun c => bj_ r_ r_ g_ p_) (yE_ r_ (ae_ (ay_ (jq_cut (2 + wPartsL l[k].value 20 0 + wAll f l[k].thn 0 + wAll f l[k].els 0) [] ⟨by omega, by omega, by rw [wOne, if_neg h12, if_pos hk3]⟩ rfl ?_))))
              (repeat (first | exact True.intro | refine ⟨rfl, ?_⟩))
            · refine R_ (o_ r_ (bn_ r_ r_ (E_ r_ (T_ (jc_condd rfl (fun hk4 => ?_) (fun hk4 => ?_))))))
              · have b5 := lim_bd (2 + wPartsL l[k].value 20 0 + wAll f l[k].thn 0) (by omega)
                unfold lim at b5
                rw [Int.min_comm] at b5
                have b6 : 0 ≤ Max.max 0 (min l[k].max 33) + 1 ∧ Max.max 0 (min l[k].max 33) + 1 ≤ 34 := by omega
                have b7 := prod_bd _ _ b6.1 b6.2 b5.1 b5.2
                refine R_ (F_ r_ (L_ 0 r_ (o_ r_ (cl_ r_ r_ (o_ r_ (ck_ r_ r_ (E_ r_ (T_ (ao_ r_ r_ k_ k_ (yM_ r_ (aa_ (fun c => bj_ r_ r_ g_ p_) (yF_ r_ (yL_ 0 r_ (aa_ (fun c => bm_ r_ (rexprs_c _) p_) (aa_ (fun c => bj_ r_ r_ g_ p_) (yF_ r_ (yL_ 0 r_ ?_)))))))))))))))))
                refine yM_ r_ (aa_ (fun c => bj_ r_ r_ g_ p_) (aa_ (fun c => bm_ r_ (ih _ _ g_ g_) p_) (aa_ (fun c => bj_ r_ r_ g_ p_) (aa_ (fun c => cl_ r_ r_ p_) (aa_ (fun c => cz_ r_ r_ g_ p_) (aa_ (fun c => bj_ r_ r_ g_ p_) (yE_ r_ (ae_ (ay_ ?_)))))))))
                refine jq_cut (2 + (Max.max 0 (min l[k].max 33) + 1) * min 1099511627776 (2 + wPartsL l[k].value 20 0 + wAll f l[k].thn 0)) [] ⟨by omega, by omega, by rw [wOne, if_neg h12, if_neg hk3, if_pos hk4, Int.min_comm 1099511627776]; rfl⟩ rfl ?_
                (repeat (first | exact True.intro | refine ⟨rfl, ?_⟩))
              · refine R_ (o_ r_ (bn_ r_ r_ (E_ r_ (T_ (jc_condd rfl (fun hk5 => ?_) (fun hk5 => ?_))))))
                · refine an_ (F_ r_ (L_ 0 r_ (M_ r_ (o_ r_ (bj_ r_ r_ g_ (o_ r_ (bm_ r_ (ih _ _ g_ g_) (o_ r_ (bj_ r_ r_ g_ (E_ r_ (ak_ (ay_ (jq_cut (2 + wAll f l[k].thn 0) [] ⟨by omega, by omega, by rw [wOne, if_neg h12, if_neg hk3, if_neg hk4, if_pos hk5]⟩ rfl ?_)))))))))))))
                  (repeat (first | exact True.intro | refine ⟨rfl, ?_⟩))
                · refine as_ (ay_ (jq_cut 0 [] ⟨by omega, by omega, by rw [wOne, if_neg h12, if_neg hk3, if_neg hk4, if_neg hk5]; rfl⟩ rfl ?_))
                  (repeat (first | exact True.intro | refine ⟨rfl, ?_⟩))
      · rintro n ⟨hn0, hn1, hn⟩
        refine an_ (M_ r_ (M_ r_ (o_ r_ (bj_ r_ r_ g_ (o_ r_ (cl_ r_ r_ (E_ r_ (ak_ (ay_ (al_ (an_ (M_ r_ (o_ r_ (bj_ r_ r_ g_ (E_ r_ (ak_ (jq_again (k + 1) [] hlt g_ rfl ?_)))))))))))))))))
        · rw [wAll_take (f + 1) l 0 k hlt, ← hn, lim_lim _ _ b8.1]
          unfold lim
          rw [Int.min_comm]
          (repeat (first | exact True.intro | refine ⟨rfl, ?_⟩))
    · simp only [List.length_map, Int.ofNat_lt] at hge
      refine av_ (ax_ (ax_ (ba_ (al_ (R_ (M_ r_ (E_ r_ (T_ (ar_ (jq_ret1 rfl rfl [] rfl (fun K h => by rw [← List.take_of_length_le (Nat.le_of_not_lt hge)] at h; exact h)))))))))))

theorem rweight_c : ∀ (f : Nat) (l : List Sm) (depth : Int), 0 ≤ depth → depth + f = 21 → Con Tryz.prog 102 [.cell (.list (l.map Sm.row)), In .i64 depth] [] (fun K => K (In .i64 (wAll f l 0)) [])
  | 0, l, depth, _, h1 => rweight_zero l depth (by omega)
  | f + 1, l, depth, h0, h1 => rweight_succ f (rweight_c f) l depth h0 h1
theorem rWeight_c (l : List Sm) : Con Tryz.prog 72 [.cell (.list (l.map Sm.row))] [] (fun K => K (In .i64 (wAll 20 l 0)) []) := by
  refine con_intro Tryz.func72 rfl rfl (Nat.le_of_ble_eq_true rfl) (fun c hc => R_ (E_ r_ (T_ (R_ (M_ r_ (o_ r_ (bm_ r_ (rweight_c 20 _ _ g_ g_) (E_ r_ (T_ (ar_ (jq_ret1 rfl rfl [] rfl (fun K h => h))))))))))))

end Go.Proofs.YtlniadfidfmckaaGreatDoor
end

section
namespace Go.Proofs.YtlniadfidfmckaaGreatDoor
open Go.Vc
set_option maxHeartbeats 4000000
attribute [local irreducible] JL JC JQ OpWp Con ConN

theorem flat_take {f : Sm → List Int} {l : List Sm} {k : Nat} (h : k < l.length) : (l.take (k + 1)).flatMap f = (l.take k).flatMap f ++ f l[k] := by
  rw [List.take_succ_eq_append_getElem h, List.flatMap_append]; simp
theorem flat_le {f : Sm → List Int} {l : List Sm} {k : Nat} (h : k < l.length) : ((l.take k).flatMap f).length + (f l[k]).length ≤ (l.flatMap f).length := by
  have h1 : l = l.take k ++ l[k] :: l.drop (k + 1) := by rw [List.getElem_cons_drop, List.take_append_drop]
  have h2 : (l.flatMap f).length = ((l.take k ++ l[k] :: l.drop (k + 1)).flatMap f).length := by rw [← h1]
  rw [h2]
  simp only [List.flatMap_append, List.flatMap_cons, List.length_append]
  omega

def rlSelf (s : Sm) : List Int := if s.kind = 3 then [s.label] else []
def rlOne : Nat → Sm → List Int
  | 0, _ => []
  | f + 1, s => rlSelf s ++ s.thn.flatMap (rlOne f) ++ s.els.flatMap (rlOne f)
theorem rl_zero (l : List Sm) : l.flatMap (rlOne 0) = [] := by
  induction l with
  | nil => rfl
  | cons s l ih => simp [rlOne]

theorem rlabels_c : ∀ (f : Nat) (l : List Sm) (depth : Int), 0 ≤ depth → depth + f = 21 → (l.flatMap (rlOne f)).length ≤ 1000000 →
    Con Tryz.prog 101 [.cell (.list (l.map Sm.row)), In .i64 depth, In .i64 3] [] (fun K => K (.cell (.list ((l.flatMap (rlOne f)).map Irow))) []) := by
  intro f
  induction f with
  | zero =>
    intro l depth h0 h1 hlim
    refine con_intro Tryz.func101 rfl rfl (Nat.le_of_ble_eq_true rfl) (fun c hc => R_ (E_ r_ (T_ (R_ (E_ r_ (T_ (am_ (R_ (E_ r_ (T_ (au_ (jc_loop [0, 1, 2, 6, 7] (fun _ : Nat => True) (fun _ => [(8, In .i64 0)]) (fun _ => []) (fun _ => 0) 0 [] trivial rfl ?_ ?_))))))))))))
    · (repeat (first | exact True.intro | refine ⟨rfl, ?_⟩))
    · intro k _
      refine am_ (am_ (jc_cut (ι := Unit) [6, 7] (fun _ => True) (fun _ => [(17, Bl false)]) (fun _ => []) ?_ ?_))
      · by_cases hl : (0 : Int) < ((l.map Sm.row).length : Int)
        · refine an_ (M_ r_ (M_ r_ (o_ r_ (br_ r_ (fun hlen => o_ r_ (bw_ r_ r_ (M_ r_ (ah_ r_ u_ b_ (bd_ r_ (ah_ r_ u_ b_ (cu_ r_ r_ (o_ r_ (bp_ r_ u_ r_ (ak_ (jq_cut () [] trivial rfl ?_)))))))))))))))
          rw [show decide (depth ≤ 20) = false from decide_eq_false (by omega)]
          (repeat (first | exact True.intro | refine ⟨rfl, ?_⟩))
        · refine an_ (M_ r_ (M_ r_ (o_ r_ (br_ r_ (fun hlen => o_ r_ (bw_ r_ r_ (M_ r_ (ai_ r_ w_ b_ (ai_ r_ w_ b_ (o_ r_ (bv_ r_ w_ r_ (ak_ (jq_cut () [] trivial rfl ?_)))))))))))))
          (repeat (first | exact True.intro | refine ⟨rfl, ?_⟩))
      · intro _ _
        skip
        refine jc_cond rfl (fun h => by cases h) (fun _ => av_ (ax_ (ax_ (ba_ (al_ (R_ (M_ r_ (E_ r_ (T_ (ar_ ?_))))))))))
        rw [rl_zero]
        refine jq_sle 6 rfl (SLe.cell CLe.nil) (jq_ret1 rfl rfl [] rfl (fun K h => h))
  | succ f ih =>
    intro l depth h0 h1 hlim
    refine con_intro Tryz.func101 rfl rfl (Nat.le_of_ble_eq_true rfl) (fun c hc => R_ (E_ r_ (T_ (R_ (E_ r_ (T_ (am_ (R_ (E_ r_ (T_ (au_ (jc_ownNil 3 1 g_ ?_))))))))))))
    refine jc_loop (ι := Nat × Value) [0, 1, 2] (fun i => i.1 ≤ l.length) (fun i => [(7, .cell (.val i.2)), (8, In .i64 (i.1 : Int))]) (fun i => [.own i.2 3 1 (((l.take i.1).flatMap (rlOne (f + 1))).map Irow)]) (fun i => l.length - i.1) (0, .slice none 0 0) [0] (Nat.zero_le _) rfl ?_ ?_
    · (repeat (first | exact True.intro | refine ⟨rfl, ?_⟩))
    · rintro ⟨k, v⟩ hk
      dsimp only at hk ⊢
      by_cases hlt : (k : Int) < ((l.map Sm.row).length : Int)
      · refine am_ (R_ (M_ r_ (M_ r_ (o_ r_ (br_ r_ (fun hlen => o_ r_ (bw_ r_ r_ (M_ r_ (ah_ r_ u_ b_ (bd_ r_ (ah_ r_ u_ b_ (cu_ r_ r_ (o_ r_ (bp_ r_ u_ r_ (T_ (jc_condd rfl (fun _ => ?_) (fun h => absurd (show depth ≤ 20 by omega) h)))))))))))))))))
        have hmax : l.length ≤ 9223372036854775807 := by simpa using hlen
        simp only [List.length_map, Int.ofNat_lt] at hlt
        have hle := flat_le (f := rlOne (f + 1)) hlt
        have e2 : rlOne (f + 1) l[k] = rlSelf l[k] ++ l[k].thn.flatMap (rlOne f) ++ l[k].els.flatMap (rlOne f) := rfl
        have hl2 := congrArg List.length e2
        simp only [List.length_append] at hl2
        refine as_ (al_ (B_ (R_ (M_ r_ (M_ r_ (o_ r_ (cc_ r_ r_ g_ (Sm.row_eq _) r_ b_ (o_ r_ (cr_ r_ r_ r_ (o_ r_ (bl_ r_ r_ (fun bl => S_ 0 r_ (T_ (am_ (am_ (jc_cut (ι := Unit) [0, 1, 2, 7, 8, 9] (fun _ => True) (fun _ => [(41, Bl (decide (l[k].kind = 3)))]) (fun _ => [.own v 3 1 (((l.take k).flatMap (rlOne (f + 1))).map Irow), .blk bl 51 l[k].row']) ?_ ?_))))))))))))))))
        · by_cases h3 : l[k].kind = 3
          · refine an_ (F_ r_ (L_ 0 r_ (o_ r_ (bn_ r_ r_ (M_ r_ (ai_ r_ u_ b_ (ai_ r_ u_ b_ (ai_ r_ u_ b_ (o_ r_ (bp_ r_ u_ r_ (M_ r_ (ah_ r_ r_ b_ (bd_ r_ (ah_ r_ r_ b_ (bn_ r_ r_ (ah_ r_ r_ b_ (bd_ r_ (ah_ r_ r_ b_ (bf_ r_ r_ r_ b_ (ah_ r_ r_ b_ (bg_ 0 r_ r_ r_ r_ (ah_ r_ r_ b_ (bd_ r_ ?_)))))))))))))))))))))))
            refine ah_ r_ r_ b_ (bn_ r_ r_ (ah_ r_ r_ b_ (bv_ r_ r_ r_ (o_ r_ (bp_ r_ r_ r_ (ak_ (jq_cut () [1, 0] trivial rfl ?_)))))))
            (repeat (first | exact True.intro | refine ⟨rfl, ?_⟩))
          · by_cases h4 : l[k].kind = 4
            · refine an_ (F_ r_ (L_ 0 r_ (o_ r_ (bn_ r_ r_ (M_ r_ (ah_ r_ w_ b_ (bf_ r_ r_ r_ b_ (ah_ r_ w_ b_ (bg_ 0 r_ r_ r_ r_ (ah_ r_ w_ b_ (bn_ r_ r_ (o_ r_ (bv_ r_ w_ r_ (M_ r_ (ah_ r_ u_ b_ (bd_ r_ (ah_ r_ u_ b_ (bn_ r_ r_ (ah_ r_ u_ b_ (bd_ r_ (ah_ r_ r_ b_ (bf_ r_ r_ r_ b_ (ah_ r_ r_ b_ (bg_ 0 r_ r_ r_ r_ (ah_ r_ r_ b_ (bd_ r_ ?_))))))))))))))))))))))))))
              refine ah_ r_ r_ b_ (bn_ r_ r_ (ah_ r_ u_ b_ (bv_ r_ r_ r_ (o_ r_ (bp_ r_ u_ r_ (ak_ (jq_cut () [1, 0] trivial rfl ?_)))))))
              (repeat (first | exact True.intro | refine ⟨rfl, ?_⟩))
            · refine an_ (F_ r_ (L_ 0 r_ (o_ r_ (bn_ r_ r_ (M_ r_ (ah_ r_ w_ b_ (bf_ r_ r_ r_ b_ (ah_ r_ w_ b_ (bg_ 0 r_ r_ r_ r_ (ah_ r_ w_ b_ (bn_ r_ r_ (o_ r_ (bv_ r_ w_ r_ (M_ r_ (ai_ r_ w_ b_ (ai_ r_ w_ b_ (ai_ r_ w_ b_ (aj_ r_ b_ (aj_ r_ b_ (aj_ r_ b_ ?_))))))))))))))))))))
              refine aj_ r_ b_ (ai_ r_ w_ b_ (o_ r_ (bv_ r_ w_ r_ (ak_ ?_))))
              rw [show decide (l[k].kind = 3) = false from decide_eq_false h3]
              refine jq_cut () [1, 0] trivial rfl ?_
              (repeat (first | exact True.intro | refine ⟨rfl, ?_⟩))
        intro _ _
        refine jc_cut (ι := Value) [0, 1, 2, 8, 9] (fun _ => True) (fun v => [(7, .cell (.val v))]) (fun v => [.own v 3 1 (((l.take k).flatMap (rlOne (f + 1)) ++ rlSelf l[k]).map Irow), .blk bl 51 l[k].row']) ?_ ?_
        · have hself : (rlSelf l[k]).length ≤ (rlOne (f + 1) l[k]).length := by rw [e2]; simp only [List.length_append]; omega
          refine jc_condd rfl (fun hw => ?_) (fun hw => ?_)
          · have e1 : rlSelf l[k] = [l[k].label] := by simp [rlSelf, hw]
            rw [e1] at hself ⊢
            simp only [List.length_cons, List.length_nil] at hself
            refine an_ (M_ r_ (F_ r_ (L_ 1 r_ (o_ r_ (bq_ r_ r_ b_ r_ r_ b_ (o_ r_ (ow_append1 0 (l[k].label) rfl rfl rfl rfl rfl rfl rfl (fun _ => rfl) (by show (_ + _) * 8 ≤ _; first | omega | (simp only [List.length_append]; omega)) (by first | omega | (simp only [List.length_append]; omega)) (fun v1 hv1 => E_ r_ (ak_ (jq_cut v1 [0, 0] trivial rfl ?_))))))))))
            (repeat (first | exact True.intro | refine ⟨rfl, ?_⟩))
          · have e1 : rlSelf l[k] = [] := by simp [rlSelf, hw]
            rw [e1, List.append_nil]
            refine as_ (jq_cut v [0, 0] trivial rfl ?_)
            (repeat (first | exact True.intro | refine ⟨rfl, ?_⟩))
        · intro v1 _
          refine R_ (M_ r_ (F_ r_ (L_ 1 r_ (M_ r_ (o_ r_ (bj_ r_ r_ g_ (M_ r_ (o_ r_ (bm_ r_ (ih _ _ g_ g_ g_) (o_ r_ (ow_appendM 0 rfl rfl rfl rfl rfl rfl rfl (fun _ => rfl) (by show (_ + _) * 8 ≤ _; first | omega | (simp only [List.length_append]; omega)) (by first | omega | (simp only [List.length_append]; omega)) (fun v2 hv2 => E_ r_ (T_ (an_ (M_ r_ (F_ r_ (L_ 1 r_ (M_ r_ ?_))))))))))))))))))
          refine o_ r_ (bj_ r_ r_ g_ (M_ r_ (o_ r_ (bm_ r_ (ih _ _ g_ g_ g_) (o_ r_ (ow_appendM 0 rfl rfl rfl rfl rfl rfl rfl (fun _ => rfl) (by show (_ + _) * 8 ≤ _; first | omega | (simp only [List.length_append]; omega)) (by first | omega | (simp only [List.length_append]; omega)) (fun v3 hv3 => E_ r_ (ak_ (ay_ (al_ (an_ (M_ r_ (o_ r_ (bj_ r_ r_ g_ (E_ r_ (ak_ ?_))))))))))))))))
          refine jq_again (i := (k, v)) (k + 1, v3) [0] hlt (by dsimp only; omega) (own_eq (congrArg (List.map Irow) ?_)) ?_
          · rw [flat_take hlt, e2]
            simp only [List.append_assoc]
          · (repeat (first | exact True.intro | refine ⟨rfl, ?_⟩))
      · refine am_ (R_ (M_ r_ (M_ r_ (o_ r_ (br_ r_ (fun hlen => o_ r_ (bw_ r_ r_ (M_ r_ (ai_ r_ w_ b_ (ai_ r_ w_ b_ (o_ r_ (bv_ r_ w_ r_ (T_ (jc_cond rfl (fun h => by cases h) (fun _ => av_ (ax_ (ax_ (ba_ ?_))))))))))))))))))
        refine al_ (R_ (M_ r_ (E_ r_ (T_ (ar_ ?_)))))
        simp only [List.length_map, Int.ofNat_lt] at hlt
        rw [List.take_of_length_le (Nat.le_of_not_lt hlt)]
        refine jq_freeze 6 0 rfl rfl (by rw [hc]; simp [hb]) (jq_ret1 rfl rfl [] rfl (fun K h => h))

def ifsOf (l : List Sm) : List Int := l.flatMap (rlOne 20)
theorem Ifs_c (l : List Sm) (h : (ifsOf l).length ≤ 1000000) : Con Tryz.prog 71 [.cell (.list (l.map Sm.row))] [] (fun K => K (.cell (.list ((ifsOf l).map Irow))) []) := by
  refine con_intro Tryz.func71 rfl rfl (Nat.le_of_ble_eq_true rfl) (fun c hc => R_ (E_ r_ (T_ (R_ (M_ r_ (o_ r_ (bm_ r_ (rlabels_c 20 _ _ g_ g_ h) (E_ r_ (T_ (ar_ (jq_ret1 rfl rfl [] rfl (fun K h => h))))))))))))
end Go.Proofs.YtlniadfidfmckaaGreatDoor
end

section
namespace Go.Proofs.YtlniadfidfmckaaGreatDoor
open Go.Vc
attribute [local irreducible] JL JC JQ OpWp Con ConN

section
variable {L : List Int} {bm bd : Nat} {V A : List ByteArray} {Sh : List Shd}
theorem maker_c (gv : Gv L V A Sh) : ∀ d : Nat, d ≤ 10 → StmtP L bm bd V A Sh d ∧ BlockP L bm bd V A Sh d ∧ LoopP L bm bd V A Sh d
  | 0, h => by
    have h1 : StmtP L bm bd V A Sh 0 := stmt_step gv 0 h (fun d' h => by omega) (fun d' h => by omega)
    have h2 := block_step gv 0 h1
    exact ⟨h1, h2, loop_step gv 0 h h2⟩
  | d + 1, h => by
    obtain ⟨_, g2, g3⟩ := maker_c gv d (by omega)
    have e2 : ∀ d', d + 1 = d' + 1 → BlockP L bm bd V A Sh d' := fun d' e => by
      have e : d' = d := by omega
      subst e
      exact g2
    have e3 : ∀ d', d + 1 = d' + 1 → LoopP L bm bd V A Sh d' := fun d' e => by
      have e : d' = d := by omega
      subst e
      exact g3
    have h1 := stmt_step gv (d + 1) h e2 e3
    have h2 := block_step gv (d + 1) h1
    exact ⟨h1, h2, loop_step gv (d + 1) h h2⟩
end

mutual
def Sm.sz : Sm → Nat
  | .mk _ _ _ _ _ _ t e => 1 + Sm.szs t + Sm.szs e
def Sm.szs : List Sm → Nat
  | [] => 0
  | s :: l => s.sz + Sm.szs l
end
theorem Sm.szs_app : ∀ l m : List Sm, Sm.szs (l ++ m) = Sm.szs l + Sm.szs m
  | [], m => by simp [Sm.szs]
  | s :: l, m => by simp only [List.cons_append, Sm.szs, Sm.szs_app l m]; omega
theorem Sm.sz_eq (s : Sm) : s.sz = 1 + Sm.szs s.thn + Sm.szs s.els := by cases s; simp [Sm.sz, Sm.thn, Sm.els]
theorem Sm.szs_take (l : List Sm) (n : Nat) : Sm.szs (l.take n) ≤ Sm.szs l := by
  have := Sm.szs_app (l.take n) (l.drop n)
  rw [List.take_append_drop] at this
  omega
theorem flat_szs {f : Sm → List Int} (h : ∀ s, (f s).length ≤ s.sz) : ∀ l : List Sm, (l.flatMap f).length ≤ Sm.szs l
  | [] => by simp
  | s :: l => by
    have := flat_szs h l
    have := h s
    simp only [List.flatMap_cons, List.length_append, Sm.szs]
    omega
theorem rlOne_le : ∀ (f : Nat) (s : Sm), (rlOne f s).length ≤ s.sz
  | 0, s => by simp [rlOne]
  | f + 1, s => by
    have h1 := flat_szs (rlOne_le f) s.thn
    have h2 := flat_szs (rlOne_le f) s.els
    have h3 : (rlSelf s).length ≤ 1 := by unfold rlSelf; split <;> simp
    simp only [rlOne, List.length_append, Sm.sz_eq s]
    omega
theorem ifs_le (l : List Sm) : (ifsOf l).length ≤ Sm.szs l := flat_szs (rlOne_le 20) l
def cntG : Nat → Nat
  | 0 => 1
  | d + 1 => 3 + 4 * cntG d
theorem cntG_pos (d : Nat) : 1 ≤ cntG d := by cases d <;> simp [cntG]; omega
theorem pc_szs {St : Int → Int → List Sm → Prop} {n : Nat} (h : ∀ a b l, St a b l → Sm.szs l ≤ n) {k : Nat} {a b : Int} {l : List Sm} (hp : PcG St k a b l) : Sm.szs l ≤ k * n := by
  induction hp with
  | nil => simp [Sm.szs]
  | snoc k _ _ _ l l2 _ h2 ih =>
    have := h _ _ _ h2
    rw [Sm.szs_app, Nat.add_mul]
    omega
theorem bl_szs {St : Int → Int → List Sm → Prop} {n : Nat} (h : ∀ a b l, St a b l → Sm.szs l ≤ n) {m : Nat} {a b : Int} {l : List Sm} (hp : BlG St m a b l) : Sm.szs l ≤ m * n := by
  obtain ⟨k, hk, hp⟩ := hp
  exact Nat.le_trans (pc_szs h hp) (Nat.mul_le_mul_right _ (by omega))
theorem StG_szs {V A : List ByteArray} {Sh : List Shd} : ∀ (d : Nat) (il : Int) (hs : ByteArray) (a b : Int) (l : List Sm), StG V A Sh d il hs a b l → Sm.szs l ≤ cntG d := by
  have leaf : ∀ {U : List ByteArray} {a b : Int} {l : List Sm}, LeafG V U a b l → Sm.szs l = 1 := by
    rintro U a b l ⟨_, ⟨s, e, _, _, rfl⟩ | ⟨s, e, e2, _, _, _, rfl⟩⟩ <;> simp [Sm.szs, Sm.sz]
  intro d
  induction d with
  | zero =>
    intro il hs a b l h
    have := leaf h
    simp [cntG, this]
  | succ d ih =>
    intro il hs a b l h
    have b2 : ∀ il hs a b l, BlG (StG V A Sh d il hs) 2 a b l → Sm.szs l ≤ 2 * cntG d := fun il hs a b l h => bl_szs (m := 2) (ih il hs) h
    have hp := cntG_pos d
    rcases h with h | h | h | h
    · have := leaf h
      simp only [cntG]
      omega
    · obtain ⟨_, c, l1, l2, lab1, _, h1, h2, rfl⟩ := h
      have e1 := b2 _ _ _ _ _ h1
      have e2 : Sm.szs l2 ≤ 2 * cntG d := by
        rcases h2 with ⟨rfl, _⟩ | h2
        · simp [Sm.szs]
        · exact b2 _ _ _ _ _ h2
      simp only [Sm.szs, Sm.sz, cntG]
      omega
    · obtain ⟨_, _, h | h⟩ := h
      · obtain ⟨c, mx, l1, _, _, h1, rfl⟩ := h
        have e1 := b2 _ _ _ _ _ h1
        simp only [Sm.szs, Sm.sz, cntG]
        omega
      · obtain ⟨v, n, op, top, mx, l1, st, _, _, _, _, _, _, h1, rfl⟩ := h
        have e1 := b2 _ _ _ _ _ h1
        simp only [Sm.szs, Sm.sz, cntG, Sm.szs_app]
        omega
    · obtain ⟨_, sh, _, l1, h1, rfl⟩ := h
      have e1 := b2 _ _ _ _ _ h1
      simp only [Sm.szs, Sm.sz, cntG]
      omega
theorem body_szs {V A : List ByteArray} {Sh : List Shd} {a b : Int} {l : List Sm} (h : BlG (StG V A Sh 3 0 E0) 5 a b l) : Sm.szs l ≤ 635 := bl_szs (m := 5) (StG_szs 3 0 E0) h
end Go.Proofs.YtlniadfidfmckaaGreatDoor
end

section
namespace Go.Proofs.YtlniadfidfmckaaGreatDoor
open Go.Vc
set_option maxHeartbeats 8000000
attribute [local irreducible] JL JC JQ OpWp Con ConN
attribute [local irreducible] StG BlG

abbrev NilC : C := .val (.slice none 0 0)
abbrev Zt : List C := [.val (.string ⟨#[]⟩), .val (.int .i64 0), .val (.int .i64 0), .val (.int .i64 0), .val (.int .i64 0), NilC, NilC, NilC, NilC, NilC, NilC]
abbrev Rw (nm : ByteArray) (per dln pri jit : Int) (a b c d e f : C) : List C := [.val (.string nm), .val (.int .i64 per), .val (.int .i64 dln), .val (.int .i64 pri), .val (.int .i64 jit), a, b, c, d, e, f]
abbrev M0 (bd : Nat) (v : Value) (Sh : List Shd) (N : Int) : List C := [.val (.pointer (some ⟨bd, 0, none⟩)), .val v, NilC, NilC, .list (Sh.map ShRow), .val (.string ⟨#[]⟩), .val (.int .i64 0), .val (.int .i64 N), .val (.int .i64 0)]
theorem pow_bd (i : Int) (h : i.toNat ≤ 30) : (0 : Int) ≤ 1 * 2 ^ i.toNat ∧ (1 : Int) * 2 ^ i.toNat ≤ 1073741824 := by
  have h6 : (2 : Nat) ^ i.toNat ≤ 2 ^ 30 := Nat.pow_le_pow_right (by omega) h
  have h7 : ((2 ^ i.toNat : Nat) : Int) = (2 : Int) ^ i.toNat := by simp
  have h8 : (0 : Int) ≤ (2 : Int) ^ i.toNat := h7 ▸ Int.natCast_nonneg _
  omega
abbrev XY : List ByteArray := [⟨#[120]⟩, ⟨#[121]⟩]
abbrev VS : List ByteArray := [⟨#[105]⟩, ⟨#[107]⟩, ⟨#[110]⟩]
def InG (k : Nat) (l : List Inp) : Prop := l.map (·.1) = XY.take k ∧ ∀ x ∈ l, (-2 ≤ x.2.1 ∧ x.2.1 ≤ 3) ∧ x.2.1 ≤ x.2.2 ∧ x.2.2 ≤ x.2.1 + 11
def ArG (l : List Arr) : Prop := l = [] ∨ ∃ k : Nat, k ≤ 3 ∧ l = [(⟨#[97]⟩, 2 ^ k)]
def MdG (I : List Inp) (l : List Md) : Prop := l = [] ∨ ∃ x lo hi, I[0]? = some x ∧ (x.2.1 ≤ lo ∧ lo ≤ hi ∧ hi ≤ x.2.2) ∧ l = [(⟨#[102, 101, 119]⟩, x.1, lo, hi)]
def ClG (ifs : List Int) (l : List Clm) : Prop := l = [] ∨ ∃ (a b : Nat) (ha : a < ifs.length) (hb : b < ifs.length), a ≠ b ∧ l = [(ifs[a], ifs[b])]
structure TaskG (Sh : List Shd) (nm : ByteArray) (W : Int) (t : Tk) : Prop where
  name : t.name = nm
  period : 2000 ≤ t.period ∧ t.period ≤ 6000
  deadline : t.period - 400 ≤ t.deadline ∧ t.deadline ≤ t.period
  priority : 1 ≤ t.priority ∧ t.priority ≤ 5
  jitter : 0 ≤ t.jitter ∧ t.jitter ≤ 30
  inputs : t.inputs.length ≤ 2 ∧ InG t.inputs.length t.inputs
  vars : t.vars = VS
  arrays : ArG t.arrays
  modes : MdG t.inputs t.modes
  claims : ClG (ifsOf t.body) t.claims
  body : ∃ lab l n, BlG (StG (t.inputs.map (·.1) ++ VS) (t.arrays.map (·.1)) Sh 3 0 E0) 5 0 lab l ∧ t.body = l.take n
  weight : wAll 20 t.body 0 ≤ W
  size : Sm.czs t.body ≤ 1680
theorem InG.len {k : Nat} {l : List Inp} (h : InG k l) (hk : k ≤ 2) : l.length = k := by
  have := congrArg List.length h.1
  simpa [Nat.min_eq_left hk] using this
theorem InG.snoc {k : Nat} {l : List Inp} (h : InG k l) {s : ByteArray} {lo hi : Int} (hs : XY[k]? = some s) (hb : (-2 ≤ lo ∧ lo ≤ 3) ∧ lo ≤ hi ∧ hi ≤ lo + 11) : InG (k + 1) (l ++ [(s, lo, hi)]) := by
  refine ⟨?_, fun x hx => ?_⟩
  · obtain ⟨hlt, rfl⟩ := List.getElem?_eq_some_iff.1 hs
    rw [List.map_append, h.1, List.take_succ_eq_append_getElem hlt]
    rfl
  · rcases List.mem_append.1 hx with hx | hx
    · exact h.2 x hx
    · rw [List.mem_singleton.1 hx]; exact hb

abbrev Et3 (bd : Nat) (W : Int) (br bt : Nat) : Env := [(0, Ptr bd), (3, In .i64 W), (10, Ptr br), (11, Ptr bt)]
abbrev Et (bd : Nat) (W : Int) (br bt bx : Nat) : Env := [(0, Ptr bd), (3, In .i64 W), (10, Ptr br), (11, Ptr bt), (12, Ptr bx)]

section
variable {L : List Int} {bd : Nat} {Sh : List Shd}

theorem task_c (hL : InR L) (hLn : L.length ≤ 400) (hSh : Sh.length ≤ 100) (nm : ByteArray) (W N : Int) (hW : 0 ≤ W ∧ W ≤ 1000000) (hN : 0 ≤ N ∧ N ≤ 14) :
    Con Tryz.prog 39 [Ptr bd, Str nm, .cell (.list (Sh.map ShRow)), In .i64 W, In .i64 N] [Dk bd L] (fun K => ∀ t : Tk, TaskG Sh nm W t → K (.row t.row) [Dk bd L]) := by
  refine con_intro Tryz.func39 rfl rfl (Nat.le_of_ble_eq_true rfl) (fun c hc => R_ (o_ r_ (bl_ rfl rfl (fun br => T_ (R_ (M_ r_ (M_ r_ (o_ r_ (bt_ [1] rfl rfl (Nx_c _ hL hLn g_) (fun k1 hk1 => o_ r_ (cz_ r_ r_ g_ (o_ r_ (bj_ r_ r_ g_ (M_ r_ (o_ r_ (bt_ [0] rfl rfl (Nx_c _ hL hLn g_) (fun k2 hk2 => o_ r_ (bj_ r_ r_ g_ (M_ r_ (o_ r_ (bt_ [0] rfl rfl (Nx_c _ hL hLn g_) (fun k3 hk3 => ?_))))))))))))))))))))))
  refine o_ r_ (cz_ r_ r_ g_ (o_ r_ (bu_ r_ r_ r_ r_ r_ (o_ r_ (bl_ rfl rfl (fun bt => S_ 0 r_ (T_ (am_ (jc_anyB 6 none rfl k_ k_ (yF_ r_ (yL_ 0 r_ (yM_ r_ (aa_ (fun c => ow_callA [1] r_ r_ (gNext_c L _ _ hL hLn g_)) (aa_ (fun c => ow_exarg 35 rfl (fun i => cz_ rfl rfl (by have := i.2; omega) ⟨rfl, .refl _⟩)) (aa_ (fun c => ow_exarg 36 rfl (fun i => cg_ rfl rfl (by have := i.2; omega) ⟨rfl, .refl _⟩)) ?_)))))))))))))))
  refine ae_ (afin_none (jl_slot 37 rfl (fun dl => F_ r_ (W_ 0 r_ (T_ (R_ (M_ r_ (M_ r_ (M_ r_ (o_ r_ (bu_ r_ r_ r_ r_ r_ (o_ r_ (ci_ r_ (fun bx => E_ r_ (T_ (am_ (R_ (E_ r_ ?_))))))))))))))))))
  refine T_ (jc_ownNil 9 1 g_ (jc_ownNil 43 3 g_ ?_))
  have hdl := dl.2
  generalize hper : 2000 + k1 * 500 = per
  generalize hdln : per - dl.1 * 100 = dln
  generalize hpri : 1 + k2 = pri
  generalize hjit : k3 * 10 = jit
  have hper2 : 2000 ≤ per ∧ per ≤ 6000 := by omega
  have hdln2 : per - 400 ≤ dln ∧ dln ≤ per := by omega
  have hpri2 : 1 ≤ pri ∧ pri ≤ 5 := by omega
  have hjit2 : 0 ≤ jit ∧ jit ≤ 30 := by omega
  clear hper hdln hpri hjit hdl hk1 hk2 hk3
  refine jc_cut (ι := (Value × List Inp) × (Value × List ByteArray)) [] (fun i => (c.Fresh i.1.1 ∧ c.Fresh i.2.1) ∧ ∃ n, n ≤ 2 ∧ InG n i.1.2 ∧ i.2.2 = XY.take n) (fun _ => Et bd W br bt bx)
    (fun i => [.blk bt 41 (Rw nm per dln pri jit (.val i.1.1) NilC NilC NilC NilC NilC), .blk bx 134 (M0 bd i.2.1 Sh N), .own i.1.1 43 3 (i.1.2.map InRow), .own i.2.1 9 1 (i.2.2.map Wrow), Dk bd L, .blk br 41 Zt]) ?_ ?_
  · refine au_ ?_
    refine jc_loopS (ι := Nat × (Value × List Inp) × (Value × List ByteArray)) [] (fun i => i.1 ≤ 2 ∧ (c.Fresh i.2.1.1 ∧ c.Fresh i.2.2.1) ∧ InG i.1 i.2.1.2 ∧ i.2.2.2 = XY.take i.1) (fun i => (13, In .i64 (i.1 : Int)) :: Et bd W br bt bx)
      (fun i => [.blk bt 41 (Rw nm per dln pri jit (.val i.2.1.1) NilC NilC NilC NilC NilC), .blk bx 134 (M0 bd i.2.2.1 Sh N), .own i.2.1.1 43 3 (i.2.1.2.map InRow), .own i.2.2.1 9 1 (i.2.2.2.map Wrow), Dk bd L, .blk br 41 Zt]) (fun i => 3 - i.1) (0, (.slice none 0 0, []), (.slice none 0 0, [])) ⟨by omega, ⟨fresh_nil, fresh_nil⟩, ⟨by simp, by simp⟩, by simp⟩ ?_ ?_ ?_
    · exact bc_ 3 r_ (bc_ 2 r_ (bc_ 0 r_ (bc_ 0 r_ (bc_ 0 r_ (bc_ 0 r_ sub_end)))))
    · (repeat (first | exact True.intro | refine ⟨rfl, ?_⟩))
    · rintro ⟨k, ⟨vI, lI⟩, vV, lV⟩ ⟨hk, ⟨hfI, hfV⟩, hokI, hlV⟩
      dsimp only at hk hfI hfV hokI hlV ⊢
      have hlI := hokI.len hk
      have hlV2 : lV.length ≤ 2 := by rw [hlV]; simp; omega
      refine am_ (R_ (M_ r_ (M_ r_ (o_ r_ (bt_ [4] rfl rfl (Nx_c _ hL hLn g_) (fun k4 hk4 => o_ r_ (bw_ r_ r_ (T_ (jc_condd rfl (fun hlt => ?_) (fun hge => ?_))))))))))
      · refine as_ (al_ (B_ (am_ (jc_cut (ι := ByteArray) [] (fun s => k ≤ 1 → XY[k]? = some s) (fun s => (14, Str s) :: ((13, In .i64 (k : Int)) :: Et bd W br bt bx)) (fun _ => [.blk bt 41 (Rw nm per dln pri jit (.val vI) NilC NilC NilC NilC NilC), .blk bx 134 (M0 bd vV Sh N), .own vI 43 3 (lI.map InRow), .own vV 9 1 (lV.map Wrow), Dk bd L, .blk br 41 Zt]) ?_ ?_))))
        · have hk3 : k = 0 ∨ k = 1 ∨ k = 2 := by omega
          rcases hk3 with rfl | rfl | rfl
          · refine an_ (o_ r_ (bq_ r_ r_ b_ r_ r_ b_ (M_ r_ (o_ r_ (ow_rem64 r_ r_ g_ g_ (o_ r_ (ow_indexAddr r_ r_ g_ r_ r_ b_ (o_ r_ (cb_ r_ r_ (E_ r_ (ak_ (jq_cutS (⟨#[120]⟩ : ByteArray) (fun _ => rfl) ?_ ?_))))))))))))
            · exact bc_ 1 r_ (bc_ 1 r_ (bc_ 1 r_ (bc_ 1 r_ (bc_ 0 r_ (bc_ 0 r_ sub_end)))))
            · (repeat (first | exact True.intro | refine ⟨rfl, ?_⟩))
          · refine an_ (o_ r_ (bq_ r_ r_ b_ r_ r_ b_ (M_ r_ (o_ r_ (ow_rem64 r_ r_ g_ g_ (o_ r_ (ow_indexAddr r_ r_ g_ r_ r_ b_ (o_ r_ (cb_ r_ r_ (E_ r_ (ak_ (jq_cutS (⟨#[121]⟩ : ByteArray) (fun _ => rfl) ?_ ?_))))))))))))
            · exact bc_ 1 r_ (bc_ 1 r_ (bc_ 1 r_ (bc_ 1 r_ (bc_ 0 r_ (bc_ 0 r_ sub_end)))))
            · (repeat (first | exact True.intro | refine ⟨rfl, ?_⟩))
          · refine an_ (o_ r_ (bq_ r_ r_ b_ r_ r_ b_ (M_ r_ (o_ r_ (ow_rem64 r_ r_ g_ g_ (o_ r_ (ow_indexAddr r_ r_ g_ r_ r_ b_ (o_ r_ (cb_ r_ r_ (E_ r_ (ak_ (jq_cutS (⟨#[120]⟩ : ByteArray) (fun h => by omega) ?_ ?_))))))))))))
            · exact bc_ 1 r_ (bc_ 1 r_ (bc_ 1 r_ (bc_ 1 r_ (bc_ 0 r_ (bc_ 0 r_ sub_end)))))
            · (repeat (first | exact True.intro | refine ⟨rfl, ?_⟩))
        intro s hsXY
        refine am_ (R_ (M_ r_ (o_ r_ (bz_ r_ r_ (T_ (jc_condd rfl (fun h1 => ?_) (fun h1 => ?_)))))))
        · refine av_ (ax_ (bb_ r_ (ax_ (ax_ (ba_ (jq_cutS ((vI, lI), (vV, lV)) ⟨⟨hfI, hfV⟩, k, hk, hokI, hlV⟩ ?_ ?_))))))
          · exact bc_ 0 r_ (bc_ 0 r_ (bc_ 0 r_ (bc_ 0 r_ (bc_ 0 r_ (bc_ 0 r_ sub_end)))))
          · (repeat (first | exact True.intro | refine ⟨rfl, ?_⟩))
        · refine as_ (al_ (R_ (M_ r_ (o_ r_ (bt_ [4] rfl rfl (Nx_c _ hL hLn g_) (fun k5 hk5 => o_ r_ (cg_ r_ r_ g_ (E_ r_ (T_ (am_ (jc_anyB 10 none rfl k_ k_ (yF_ r_ (yL_ 1 r_ (yM_ r_ (yM_ r_ (yM_ r_ (yM_ r_ ?_)))))))))))))))))
          refine aa_ (fun c => ow_callA [0] r_ r_ (gNext_c L _ _ hL hLn g_)) (aa_ (fun c => ow_exarg 66 rfl (fun i => bj_ rfl rfl (by have := i.2; omega) ⟨rfl, .refl _⟩)) (aa_ (fun c => ow_exarg 67 rfl (fun i => bu_ rfl rfl rfl rfl rfl ⟨rfl, .refl _⟩)) (aa_ (fun c => ow_exarg 68 rfl (fun i => bq_ rfl rfl b_ rfl rfl b_ ⟨rfl, .refl _⟩)) (ae_ (afin_none (jl_slot 69 rfl (fun n => ?_)))))))
          (first | refine jl_op (ow_append1F 3 ((s, k5 - 2, k5 - 2 + n.1)) rfl rfl rfl rfl rfl rfl rfl (fun _ => rfl) (by show (_ + _) * 32 ≤ _; first | omega | (simp only [List.length_append]; omega)) (by first | omega | (simp only [List.length_append]; omega)) (fun vI1 hvI1 fvI1 => ?_)) (nb rfl) | refine jl_op (ow_append1F 2 ((s, k5 - 2, k5 - 2 + n.1)) rfl rfl rfl rfl rfl rfl rfl (fun _ => rfl) (by show (_ + _) * 32 ≤ _; first | omega | (simp only [List.length_append]; omega)) (by first | omega | (simp only [List.length_append]; omega)) (fun vI1 hvI1 fvI1 => ?_)) (nb rfl) | refine jl_op (ow_append1F 4 ((s, k5 - 2, k5 - 2 + n.1)) rfl rfl rfl rfl rfl rfl rfl (fun _ => rfl) (by show (_ + _) * 32 ≤ _; first | omega | (simp only [List.length_append]; omega)) (by first | omega | (simp only [List.length_append]; omega)) (fun vI1 hvI1 fvI1 => ?_)) (nb rfl))
          refine F_ r_ (W_ 2 r_ (T_ (an_ (M_ r_ (M_ r_ (N_ r_ (F_ r_ (L_ 3 r_ (M_ r_ (o_ r_ (bq_ r_ r_ b_ r_ r_ b_ ?_)))))))))))
          (first | refine jl_op (ow_append1F 3 (s) rfl rfl rfl rfl rfl rfl rfl (fun _ => rfl) (by show (_ + _) * 16 ≤ _; first | omega | (simp only [List.length_append]; omega)) (by first | omega | (simp only [List.length_append]; omega)) (fun vV1 hvV1 fvV1 => ?_)) (nb rfl) | refine jl_op (ow_append1F 2 (s) rfl rfl rfl rfl rfl rfl rfl (fun _ => rfl) (by show (_ + _) * 16 ≤ _; first | omega | (simp only [List.length_append]; omega)) (by first | omega | (simp only [List.length_append]; omega)) (fun vV1 hvV1 fvV1 => ?_)) (nb rfl) | refine jl_op (ow_append1F 4 (s) rfl rfl rfl rfl rfl rfl rfl (fun _ => rfl) (by show (_ + _) * 16 ≤ _; first | omega | (simp only [List.length_append]; omega)) (by first | omega | (simp only [List.length_append]; omega)) (fun vV1 hvV1 fvV1 => ?_)) (nb rfl))
          refine N_ r_ (F_ r_ (W_ 4 r_ (ak_ (ay_ (al_ (an_ (M_ r_ (o_ r_ (bj_ r_ r_ g_ (E_ r_ (ak_ ?_)))))))))))
          have hk1 : k ≤ 1 := by omega
          refine jq_againS (i := (k, (vI, lI), (vV, lV))) (k + 1, (vI1, lI ++ [(s, k5 - 2, k5 - 2 + n.1)]), (vV1, lV ++ [s])) ⟨by dsimp only; omega, ⟨fvI1 hfI, fvV1 hfV⟩, hokI.snoc (hsXY hk1) (by have := n.2; omega), by
            obtain ⟨hlt, rfl⟩ := List.getElem?_eq_some_iff.1 (hsXY hk1)
            dsimp only
            rw [hlV, List.take_succ_eq_append_getElem hlt]⟩ (by dsimp only; omega) ?_ ?_
          · exact bc_ 2 r_ (bc_ 0 r_ (bc_ 1 r_ (bc_ 0 r_ (bc_ 0 r_ (bc_ 0 r_ sub_end)))))
          · (repeat (first | exact True.intro | refine ⟨rfl, ?_⟩))
      · refine av_ (ax_ (ax_ (ba_ (jq_cutS ((vI, lI), (vV, lV)) ⟨⟨hfI, hfV⟩, k, hk, hokI, hlV⟩ ?_ ?_))))
        · exact bc_ 1 r_ (bc_ 1 r_ (bc_ 1 r_ (bc_ 1 r_ (bc_ 0 r_ (bc_ 0 r_ sub_end)))))
        · (repeat (first | exact True.intro | refine ⟨rfl, ?_⟩))
  rintro ⟨⟨vI, lI⟩, vV, lV⟩ ⟨⟨hfI, hfV⟩, nI, hnI, hokI, hlV⟩
  dsimp only at hfI hfV hokI hlV ⊢
  have hlI := hokI.len hnI
  have hlV2 : lV.length ≤ 2 := by rw [hlV]; simp; omega
  have hlVI : lV = lI.map (·.1) := by rw [hlV, hokI.1]
  clear hlV
  refine jc_freezeB 2 0 5 rfl rfl hfI (R_ (o_ r_ (bq_ r_ r_ b_ r_ r_ b_ (F_ r_ (W_ 0 r_ (T_ (am_ (jc_anyF 7 none [0] rfl k_ k_ k_ rfl (yM_ r_ (yM_ r_ (yN_ r_ (yF_ r_ (yL_ 1 r_ (yF_ r_ (yL_ 0 r_ (ae_ ?_))))))))))))))))
  refine afin_none ?_
  (first | refine jl_op (ow_appendMF (f := Wrow) (l1 := lV) (l2 := [⟨#[105]⟩, ⟨#[107]⟩, ⟨#[110]⟩]) 2 rfl rfl rfl rfl rfl rfl rfl (fun _ => rfl) (by show (_ + 3) * 16 ≤ _; omega) (by simp; omega) (fun vV1 hvV1 fvV1 => ?_)) (nb rfl) | refine jl_op (ow_appendMF (f := Wrow) (l1 := lV) (l2 := [⟨#[105]⟩, ⟨#[107]⟩, ⟨#[110]⟩]) 3 rfl rfl rfl rfl rfl rfl rfl (fun _ => rfl) (by show (_ + 3) * 16 ≤ _; omega) (by simp; omega) (fun vV1 hvV1 fvV1 => ?_)) (nb rfl))
  refine jl_freezeF 91 0 rfl rfl (fvV1 hfV) ?_
  generalize hVe : lV ++ VS = V
  have hV0 : 0 < V.length := by rw [← hVe]; simp
  have hV : V.length ≤ 100 := by rw [← hVe]; simp; omega
  refine N_ r_ (F_ r_ (W_ 1 r_ (ak_ (jq_np (al_ (am_ ?_))))))
  have hMk : RowLe [.val (.pointer (some ⟨bd, 0, none⟩)), .list (V.map Wrow), NilC, NilC, .list (Sh.map ShRow), .val (.string ⟨#[]⟩), .val (.int .i64 0), .val (.int .i64 N), .val (.int .i64 0)] (MkRow bd V (.slice none 0 0) [] Sh ⟨#[]⟩ 0 N 0) :=
    .cons (.refl _) (.cons (.refl _) (.cons (.refl _) (.cons .nil (.refl _))))
  (first | refine jc_row 0 _ rfl hMk ?_ | refine jc_row 1 _ rfl hMk ?_ | refine jc_row 2 _ rfl hMk ?_)
  refine jc_cut (ι := List Arr) [] ArG (fun _ => Et bd W br bt bx) (fun ar => [.blk bt 41 (Rw nm per dln pri jit (.list (lI.map InRow)) (.list (VS.map Wrow)) (.list (ar.map ArRow)) NilC NilC NilC), Mk bx bd V (.slice none 0 0) (ar.map (·.1)) Sh ⟨#[]⟩ 0 N 0, Dk bd L, .blk br 41 Zt]) ?_ ?_
  · refine R_ (M_ r_ (o_ r_ (bt_ [2] rfl rfl (Nx_c _ hL hLn g_) (fun k6 hk6 => o_ r_ (bn_ r_ r_ (T_ (jc_condd rfl (fun h1 => ?_) (fun h1 => ?_))))))))
    · refine R_ (M_ r_ (o_ r_ (bt_ [0] rfl rfl (Nx_c _ hL hLn g_) (fun k7 hk7 => ?_))))
      have h5 := pow_bd k7 (by omega)
      refine o_ r_ (ow_convU64 r_ r_ r_ g_ (o_ r_ (ow_shl64 r_ r_ g_ g_ (o_ r_ (bu_ r_ r_ r_ r_ r_ (o_ r_ (bq_ r_ r_ b_ r_ r_ b_ (F_ r_ (W_ 2 r_ (T_ (an_ (M_ r_ (o_ r_ (bq_ r_ r_ b_ r_ r_ b_ (N_ r_ (F_ r_ (W_ 2 r_ (ak_ ?_))))))))))))))))))
      (first | refine jq_row 0 (MkRow bd V (.slice none 0 0) [⟨#[97]⟩] Sh ⟨#[]⟩ 0 N 0) rfl (.refl _) ?_ | refine jq_row 1 (MkRow bd V (.slice none 0 0) [⟨#[97]⟩] Sh ⟨#[]⟩ 0 N 0) rfl (.refl _) ?_ | refine jq_row 2 (MkRow bd V (.slice none 0 0) [⟨#[97]⟩] Sh ⟨#[]⟩ 0 N 0) rfl (.refl _) ?_ | refine jq_row 3 (MkRow bd V (.slice none 0 0) [⟨#[97]⟩] Sh ⟨#[]⟩ 0 N 0) rfl (.refl _) ?_)
      refine jq_cutS ([(⟨#[97]⟩, 1 * 2 ^ k7.toNat)] : List Arr) (.inr ⟨k7.toNat, by omega, by rw [Int.one_mul]⟩) ?_ ?_
      · exact bc_ 1 r_ (bc_ 0 r_ (bc_ 0 r_ (bc_ 0 r_ sub_end)))
      · (repeat (first | exact True.intro | refine ⟨rfl, ?_⟩))
    · refine as_ ?_
      (first | refine jq_row 0 (Rw nm per dln pri jit (.list (lI.map InRow)) (.list (VS.map Wrow)) (.list (([] : List Arr).map ArRow)) NilC NilC NilC) rfl (.cons (.refl _) (.cons (.refl _) (.cons (.refl _) (.cons (.refl _) (.cons (.refl _) (.cons (.refl _) (.cons (.refl _) (.cons .nil (.refl _))))))))) ?_ | refine jq_row 1 (Rw nm per dln pri jit (.list (lI.map InRow)) (.list (VS.map Wrow)) (.list (([] : List Arr).map ArRow)) NilC NilC NilC) rfl (.cons (.refl _) (.cons (.refl _) (.cons (.refl _) (.cons (.refl _) (.cons (.refl _) (.cons (.refl _) (.cons (.refl _) (.cons .nil (.refl _))))))))) ?_ | refine jq_row 2 (Rw nm per dln pri jit (.list (lI.map InRow)) (.list (VS.map Wrow)) (.list (([] : List Arr).map ArRow)) NilC NilC NilC) rfl (.cons (.refl _) (.cons (.refl _) (.cons (.refl _) (.cons (.refl _) (.cons (.refl _) (.cons (.refl _) (.cons (.refl _) (.cons .nil (.refl _))))))))) ?_ | refine jq_row 3 (Rw nm per dln pri jit (.list (lI.map InRow)) (.list (VS.map Wrow)) (.list (([] : List Arr).map ArRow)) NilC NilC NilC) rfl (.cons (.refl _) (.cons (.refl _) (.cons (.refl _) (.cons (.refl _) (.cons (.refl _) (.cons (.refl _) (.cons (.refl _) (.cons .nil (.refl _))))))))) ?_)
      refine jq_cutS ([] : List Arr) (.inl rfl) ?_ ?_
      · exact bc_ 0 r_ (bc_ 1 r_ (bc_ 0 r_ (bc_ 0 r_ sub_end)))
      · (repeat (first | exact True.intro | refine ⟨rfl, ?_⟩))
  intro ar har
  refine am_ (jc_cut (ι := List Md) [] (MdG lI) (fun _ => Et bd W br bt bx) (fun md => [.blk bt 41 (Rw nm per dln pri jit (.list (lI.map InRow)) (.list (VS.map Wrow)) (.list (ar.map ArRow)) (.list (md.map MdRow)) NilC NilC), Mk bx bd V (.slice none 0 0) (ar.map (·.1)) Sh ⟨#[]⟩ 0 N 0, Dk bd L, .blk br 41 Zt]) ?_ ?_)
  · refine am_ (jc_cut (ι := Bool) [] (fun b => b = true → 0 < lI.length) (fun b => (116, Bl b) :: Et bd W br bt bx) (fun _ => [.blk bt 41 (Rw nm per dln pri jit (.list (lI.map InRow)) (.list (VS.map Wrow)) (.list (ar.map ArRow)) NilC NilC NilC), Mk bx bd V (.slice none 0 0) (ar.map (·.1)) Sh ⟨#[]⟩ 0 N 0, Dk bd L, .blk br 41 Zt]) ?_ ?_)
    · by_cases hl : (0 : Int) < ((lI.map InRow).length : Int)
      · refine an_ (F_ r_ (L_ 0 r_ (o_ r_ (br_ r_ (fun hlen => o_ r_ (bz_ r_ r_ (M_ r_ (ah_ r_ u_ b_ (bd_ r_ (ah_ rfl (by (first | assumption | exact decide_eq_true rfl | exact decide_eq_true (by first | assumption | omega) | exact decide_eq_false (by first | assumption | omega) | with_reducible rfl | exact (rfl : false = !true) | exact (rfl : true = !false))) b_ (bt_ [2] rfl rfl (Nx_c _ hL hLn g_) (fun k8 hk8 => ?_))))))))))))
        refine ah_ r_ u_ b_ (bn_ r_ r_ (o_ r_ (bp_ r_ u_ r_ (ak_ (jq_cutS (decide (k8 = 1)) (fun _ => by simp at hl; omega) ?_ ?_)))))
        · exact bc_ 1 r_ (bc_ 1 r_ (bc_ 0 r_ (bc_ 0 r_ sub_end)))
        · (repeat (first | exact True.intro | refine ⟨rfl, ?_⟩))
      · refine an_ (F_ r_ (L_ 0 r_ (o_ r_ (br_ r_ (fun hlen => o_ r_ (bz_ r_ r_ (M_ r_ (ai_ r_ w_ b_ (ai_ r_ w_ b_ (ai_ r_ w_ b_ (o_ r_ (bv_ r_ w_ r_ (ak_ (jq_cutS false (by simp) ?_ ?_))))))))))))))
        · exact bc_ 0 r_ (bc_ 0 r_ (bc_ 0 r_ (bc_ 0 r_ sub_end)))
        · (repeat (first | exact True.intro | refine ⟨rfl, ?_⟩))
    intro b hb
    refine jc_cond rfl (fun hbt => ?_) (fun hbt => ?_)
    · have hl0 := hb hbt
      have hx := hokI.2 lI[0] (List.getElem_mem _)
      refine R_ (F_ r_ (L_ 0 r_ (o_ r_ (cc_ (k := 0) r_ r_ hl0 r_ r_ b_ (o_ r_ (cr_ r_ r_ r_ (o_ r_ (bl_ r_ r_ (fun bl => S_ 0 r_ (T_ (am_ (ao_ r_ r_ k_ k_ (yF_ r_ (yL_ 0 r_ (yM_ r_ (yF_ r_ (yL_ 0 r_ (yF_ r_ ?_))))))))))))))))))
      refine yL_ 0 r_ (aa_ (fun c => cg_ r_ r_ g_ p_) (aa_ (fun c => bj_ r_ r_ g_ p_) (aa_ (fun c => ow_callA [3] r_ r_ (gNext_c L _ (lI[0].2.2 - lI[0].2.1 + 1) hL hLn g_)) (aa_ (fun c => ow_exarg 130 rfl (fun i => bj_ rfl rfl (by have := i.2; omega) ⟨rfl, .refl _⟩)) (aa_ (fun c => ow_exarg 131 rfl (fun i => be_ rfl ⟨rfl, .refl _⟩)) (ae_ (jq_slot 17 rfl (fun lo => ?_))))))))
      have hlo := lo.2
      refine al_ (jc_anyB 14 none rfl k_ k_ (yF_ r_ (yL_ 0 r_ (yM_ r_ (yM_ r_ (yM_ r_ (yF_ r_ (yL_ 0 r_ (yM_ r_ (aa_ (fun c => cg_ r_ r_ g_ p_) (aa_ (fun c => bj_ r_ r_ g_ p_) (aa_ (fun c => ow_callA [3] r_ r_ (gNext_c L _ (lI[0].2.2 - (lI[0].2.1 + lo.1) + 1) hL hLn g_)) (aa_ (fun c => ow_exarg 142 rfl (fun i => bj_ rfl rfl (by have := i.2; omega) ⟨rfl, .refl _⟩)) ?_)))))))))))))
      refine aa_ (fun c => ow_exarg 143 rfl (fun i => bu_ rfl rfl rfl rfl rfl ⟨rfl, .refl _⟩)) (aa_ (fun c => ow_exarg 144 rfl (fun i => bq_ rfl rfl b_ rfl rfl b_ ⟨rfl, .refl _⟩)) (ae_ (afin_none (jl_slot 145 rfl (fun n => F_ r_ (W_ 1 r_ (ak_ (jq_cutS ([(⟨#[102, 101, 119]⟩, lI[0].1, lI[0].2.1 + lo.1, lI[0].2.1 + lo.1 + n.1)] : List Md) (.inr ⟨lI[0], _, _, by simp, by have := n.2; omega, rfl⟩) ?_ ?_))))))))
      · exact bc_ 0 r_ (bc_ 1 r_ (bc_ 1 r_ (bc_ 1 r_ sub_end)))
      · (repeat (first | exact True.intro | refine ⟨rfl, ?_⟩))
    · refine as_ ?_
      (first | refine jq_row 0 (Rw nm per dln pri jit (.list (lI.map InRow)) (.list (VS.map Wrow)) (.list (ar.map ArRow)) (.list (([] : List Md).map MdRow)) NilC NilC) rfl (.cons (.refl _) (.cons (.refl _) (.cons (.refl _) (.cons (.refl _) (.cons (.refl _) (.cons (.refl _) (.cons (.refl _) (.cons (.refl _) (.cons .nil (.refl _)))))))))) ?_ | refine jq_row 1 (Rw nm per dln pri jit (.list (lI.map InRow)) (.list (VS.map Wrow)) (.list (ar.map ArRow)) (.list (([] : List Md).map MdRow)) NilC NilC) rfl (.cons (.refl _) (.cons (.refl _) (.cons (.refl _) (.cons (.refl _) (.cons (.refl _) (.cons (.refl _) (.cons (.refl _) (.cons (.refl _) (.cons .nil (.refl _)))))))))) ?_ | refine jq_row 2 (Rw nm per dln pri jit (.list (lI.map InRow)) (.list (VS.map Wrow)) (.list (ar.map ArRow)) (.list (([] : List Md).map MdRow)) NilC NilC) rfl (.cons (.refl _) (.cons (.refl _) (.cons (.refl _) (.cons (.refl _) (.cons (.refl _) (.cons (.refl _) (.cons (.refl _) (.cons (.refl _) (.cons .nil (.refl _)))))))))) ?_ | refine jq_row 3 (Rw nm per dln pri jit (.list (lI.map InRow)) (.list (VS.map Wrow)) (.list (ar.map ArRow)) (.list (([] : List Md).map MdRow)) NilC NilC) rfl (.cons (.refl _) (.cons (.refl _) (.cons (.refl _) (.cons (.refl _) (.cons (.refl _) (.cons (.refl _) (.cons (.refl _) (.cons (.refl _) (.cons .nil (.refl _)))))))))) ?_)
      refine jq_cutS ([] : List Md) (.inl rfl) ?_ ?_
      · exact bc_ 0 r_ (bc_ 0 r_ (bc_ 0 r_ (bc_ 0 r_ sub_end)))
      · (repeat (first | exact True.intro | refine ⟨rfl, ?_⟩))
  intro md hmd
  have harl : ar.length ≤ 1 := by rcases har with rfl | ⟨k, _, rfl⟩ <;> simp
  have gv : Gv L V (ar.map (·.1)) Sh := ⟨hL, hLn, hV0, hV, by rw [List.length_map]; omega, hSh⟩
  have hblk := (maker_c (bm := bx) (bd := bd) gv 3 (by omega)).2.1
  refine jc_ownNil 9 1 g_ (R_ (M_ r_ ?_))
  have con := hblk ⟨.slice none 0 0, 0, N⟩ ⟨#[]⟩ 0 [] 3 5 ⟨⟨by dsimp only; omega, by dsimp only; omega⟩, hN.1, hN.2⟩ (by omega) (by omega) (by simp) rfl (by omega) (by omega)
  dsimp only at con
  refine o_ r_ (ow_callNP [2, 2, 0] rfl rfl (con) (fun r n hn hr => ?_))
  obtain ⟨⟨lv2, lab2, st2⟩, v2, l2⟩ := r
  obtain ⟨hok2, hf2, hl2, hsh2, hcz2⟩ := hr
  dsimp only at hl2 hsh2 hf2 ⊢
  refine jl_freezeF 148 0 rfl rfl (hf2.mono hn) ?_
  have hsz := body_szs hsh2
  have hcz3 : Sm.czs l2 ≤ 1680 := by have h0 := hok2.2.1; dsimp only at hcz2 h0; omega
  clear hcz2
  have hifs := ifs_le l2
  refine F_ r_ (W_ 3 r_ (T_ (R_ (F_ r_ (L_ 0 r_ (o_ r_ (bm_ r_ (Ifs_c _ g_) (E_ r_ (T_ (am_ ?_))))))))))
  refine jc_cut (ι := List Clm) [] (ClG (ifsOf l2)) (fun _ => ((18, .cell (.list ((ifsOf l2).map Irow))) :: Et3 bd W br bt)) (fun cl => [.blk bt 41 (Rw nm per dln pri jit (.list (lI.map InRow)) (.list (VS.map Wrow)) (.list (ar.map ArRow)) (.list (md.map MdRow)) (.list (cl.map ClRow)) (.list (l2.map Sm.row))), Dk bd L, .blk br 41 Zt]) ?_ ?_
  · refine am_ (jc_cut (ι := Bool) [] (fun b => b = true → 1 < (ifsOf l2).length) (fun b => (160, Bl b) :: ((18, .cell (.list ((ifsOf l2).map Irow))) :: Et3 bd W br bt)) (fun _ => [.blk bt 41 (Rw nm per dln pri jit (.list (lI.map InRow)) (.list (VS.map Wrow)) (.list (ar.map ArRow)) (.list (md.map MdRow)) NilC (.list (l2.map Sm.row))), Dk bd L, .blk br 41 Zt]) ?_ ?_)
    · by_cases hl : (1 : Int) < (((ifsOf l2).map Irow).length : Int)
      · refine an_ (M_ r_ (o_ r_ (br_ r_ (fun hlen => o_ r_ (bz_ r_ r_ (M_ r_ (ah_ r_ u_ b_ (bd_ r_ (ah_ rfl (by (first | assumption | exact decide_eq_true rfl | exact decide_eq_true (by first | assumption | omega) | exact decide_eq_false (by first | assumption | omega) | with_reducible rfl | exact (rfl : false = !true) | exact (rfl : true = !false))) b_ (bt_ [2] rfl rfl (Nx_c _ hL hLn g_) (fun k9 hk9 => ?_)))))))))))
        refine ah_ r_ u_ b_ (bn_ r_ r_ (o_ r_ (bp_ r_ u_ r_ (ak_ (jq_cutS (decide (k9 = 1)) (fun _ => by simp at hl; omega) ?_ ?_)))))
        · exact bc_ 1 r_ (bc_ 0 r_ (bc_ 2 r_ sub_end))
        · (repeat (first | exact True.intro | refine ⟨rfl, ?_⟩))
      · refine an_ (M_ r_ (o_ r_ (br_ r_ (fun hlen => o_ r_ (bz_ r_ r_ (M_ r_ (ai_ r_ w_ b_ (ai_ r_ w_ b_ (ai_ r_ w_ b_ (o_ r_ (bv_ r_ w_ r_ (ak_ (jq_cutS false (by simp) ?_ ?_)))))))))))))
        · exact bc_ 0 r_ (bc_ 1 r_ (bc_ 2 r_ sub_end))
        · (repeat (first | exact True.intro | refine ⟨rfl, ?_⟩))
    intro b hb
    refine jc_cond rfl (fun hbt => ?_) (fun hbt => ?_)
    · have hl1 := hb hbt
      have eI : ((ifsOf l2).map Irow).length = (ifsOf l2).length := List.length_map _
      refine R_ (M_ r_ (M_ r_ (o_ r_ (br_ r_ (fun hlen => o_ r_ (bt_ [1] rfl rfl (Nx_c _ hL hLn g_) (fun k10 hk10 => E_ r_ (T_ (jc_anyB 20 none rfl k_ k_ (yM_ r_ (yM_ r_ (aa_ (fun c => cv_ r_ r_ g_ g_ r_ r_ b_ p_) (aa_ (fun c => cb_ r_ r_ p_) (yM_ r_ (yM_ r_ (aa_ (fun c => bj_ r_ r_ g_ p_) (yM_ r_ ?_)))))))))))))))))
      refine yM_ r_ (aa_ (fun c => br_ r_ (fun hlen => p_)) (aa_ (fun c => cg_ r_ r_ g_ p_) (aa_ (fun c => ow_callA [0] r_ r_ (gNext_c L _ _ hL hLn g_)) (aa_ (fun c => ow_exarg 176 rfl (fun i => bj_ rfl rfl (by have := i.2; omega) ⟨rfl, .refl _⟩)) (yM_ r_ (aa_ (fun c => br_ r_ (fun hlen => p_)) (aa_ (fun c => ow_exarg 177 rfl (fun i => ow_rem64 rfl rfl (by have := i.2; omega) g_ ⟨rfl, .refl _⟩)) ?_)))))))
      have hrem : ∀ i : {i : Int // 0 ≤ i ∧ (i < (((ifsOf l2).map Irow).length : Int) - 1 ∨ i = 0)}, 0 ≤ (k10 + 1 + i.1) % (((ifsOf l2).map Irow).length : Int) ∧ ((k10 + 1 + i.1) % (((ifsOf l2).map Irow).length : Int)).toNat < (ifsOf l2).length := by
        intro i
        have h1 := Int.emod_nonneg (k10 + 1 + i.1) (show (((ifsOf l2).map Irow).length : Int) ≠ 0 by omega)
        have h2 := Int.emod_lt_of_pos (k10 + 1 + i.1) (show (0 : Int) < (((ifsOf l2).map Irow).length : Int) by omega)
        omega
      have hne : ∀ i : {i : Int // 0 ≤ i ∧ (i < (((ifsOf l2).map Irow).length : Int) - 1 ∨ i = 0)}, k10.toNat ≠ ((k10 + 1 + i.1) % (((ifsOf l2).map Irow).length : Int)).toNat := by
        intro i h
        have hi := i.2
        have h1 := hrem i
        have h2 : (k10 + 1 + i.1) % (((ifsOf l2).map Irow).length : Int) = k10 := by omega
        have h3 := Int.emod_emod_of_dvd (k10 + 1 + i.1) (Int.dvd_refl (((ifsOf l2).map Irow).length : Int))
        have h4 : (1 + i.1) % (((ifsOf l2).map Irow).length : Int) = 0 := by
          have h5 := Int.sub_emod (k10 + 1 + i.1) k10 (((ifsOf l2).map Irow).length : Int)
          rw [h2, show k10 % (((ifsOf l2).map Irow).length : Int) = k10 from Int.emod_eq_of_lt (by omega) (by omega), Int.sub_self, Int.zero_emod, show k10 + 1 + i.1 - k10 = 1 + i.1 by omega] at h5
          exact h5
        rw [Int.emod_eq_of_lt (by omega) (by omega)] at h4
        omega
      refine aa_ (fun c => ow_exarg 180 rfl (fun i => cv_ rfl rfl (hrem i).1 (hrem i).2 rfl rfl b_ ⟨rfl, .refl _⟩)) (aa_ (fun c => ow_exarg 181 rfl (fun i => cb_ rfl rfl ⟨rfl, .refl _⟩)) (aa_ (fun c => ow_exarg 182 rfl (fun i => bu_ rfl rfl rfl rfl rfl ⟨rfl, .refl _⟩)) (aa_ (fun c => ow_exarg 183 rfl (fun i => bq_ rfl rfl b_ rfl rfl b_ ⟨rfl, .refl _⟩)) (ae_ (afin_none (jl_slot 184 rfl (fun i => F_ r_ (W_ 1 r_ (ak_ ?_)))))))))
      refine jq_cutS ([((ifsOf l2)[k10.toNat]'g_, (ifsOf l2)[((k10 + 1 + i.1) % (((ifsOf l2).map Irow).length : Int)).toNat]'(hrem i).2)] : List Clm) (.inr ⟨_, _, by omega, (hrem i).2, hne i, rfl⟩) ?_ ?_
      · exact bc_ 0 r_ (bc_ 0 r_ (bc_ 0 r_ sub_end))
      · (repeat (first | exact True.intro | refine ⟨rfl, ?_⟩))
    · refine as_ ?_
      (first | refine jq_row 0 (Rw nm per dln pri jit (.list (lI.map InRow)) (.list (VS.map Wrow)) (.list (ar.map ArRow)) (.list (md.map MdRow)) (.list (([] : List Clm).map ClRow)) (.list (l2.map Sm.row))) rfl (.cons (.refl _) (.cons (.refl _) (.cons (.refl _) (.cons (.refl _) (.cons (.refl _) (.cons (.refl _) (.cons (.refl _) (.cons (.refl _) (.cons (.refl _) (.cons .nil (.refl _))))))))))) ?_ | refine jq_row 1 (Rw nm per dln pri jit (.list (lI.map InRow)) (.list (VS.map Wrow)) (.list (ar.map ArRow)) (.list (md.map MdRow)) (.list (([] : List Clm).map ClRow)) (.list (l2.map Sm.row))) rfl (.cons (.refl _) (.cons (.refl _) (.cons (.refl _) (.cons (.refl _) (.cons (.refl _) (.cons (.refl _) (.cons (.refl _) (.cons (.refl _) (.cons (.refl _) (.cons .nil (.refl _))))))))))) ?_ | refine jq_row 2 (Rw nm per dln pri jit (.list (lI.map InRow)) (.list (VS.map Wrow)) (.list (ar.map ArRow)) (.list (md.map MdRow)) (.list (([] : List Clm).map ClRow)) (.list (l2.map Sm.row))) rfl (.cons (.refl _) (.cons (.refl _) (.cons (.refl _) (.cons (.refl _) (.cons (.refl _) (.cons (.refl _) (.cons (.refl _) (.cons (.refl _) (.cons (.refl _) (.cons .nil (.refl _))))))))))) ?_ | refine jq_row 3 (Rw nm per dln pri jit (.list (lI.map InRow)) (.list (VS.map Wrow)) (.list (ar.map ArRow)) (.list (md.map MdRow)) (.list (([] : List Clm).map ClRow)) (.list (l2.map Sm.row))) rfl (.cons (.refl _) (.cons (.refl _) (.cons (.refl _) (.cons (.refl _) (.cons (.refl _) (.cons (.refl _) (.cons (.refl _) (.cons (.refl _) (.cons (.refl _) (.cons .nil (.refl _))))))))))) ?_)
      refine jq_cutS ([] : List Clm) (.inl rfl) ?_ ?_
      · exact bc_ 0 r_ (bc_ 0 r_ (bc_ 0 r_ sub_end))
      · (repeat (first | exact True.intro | refine ⟨rfl, ?_⟩))
  intro cl hcl
  refine am_ (jc_cut (ι := List Sm × List Clm) [] (fun i => (∃ n, i.1 = l2.take n) ∧ ClG (ifsOf i.1) i.2 ∧ wAll 20 i.1 0 ≤ W) (fun _ => ((18, .cell (.list ((ifsOf l2).map Irow))) :: Et3 bd W br bt)) (fun i => [.blk bt 41 (Rw nm per dln pri jit (.list (lI.map InRow)) (.list (VS.map Wrow)) (.list (ar.map ArRow)) (.list (md.map MdRow)) (.list (i.2.map ClRow)) (.list (i.1.map Sm.row))), Dk bd L, .blk br 41 Zt]) ?_ ?_)
  · refine au_ ?_
    refine jc_loopS (ι := List Sm × List Clm) [] (fun i => (∃ n, i.1 = l2.take n) ∧ ClG (ifsOf i.1) i.2) (fun _ => ((18, .cell (.list ((ifsOf l2).map Irow))) :: Et3 bd W br bt)) (fun i => [.blk bt 41 (Rw nm per dln pri jit (.list (lI.map InRow)) (.list (VS.map Wrow)) (.list (ar.map ArRow)) (.list (md.map MdRow)) (.list (i.2.map ClRow)) (.list (i.1.map Sm.row))), Dk bd L, .blk br 41 Zt]) (fun i => i.1.length) (l2, cl) ⟨⟨l2.length, by simp⟩, hcl⟩ ?_ ?_ ?_
    · exact bc_ 0 r_ (bc_ 0 r_ (bc_ 0 r_ sub_end))
    · (repeat (first | exact True.intro | refine ⟨rfl, ?_⟩))
    · rintro ⟨l, cl⟩ ⟨⟨nT, hl10⟩, hsh⟩
      dsimp only at hl10 hsh ⊢
      have hll : l.length ≤ l2.length := by rw [hl10, List.length_take]; omega
      have eL : (l.map Sm.row).length = l.length := List.length_map _
      by_cases hl : (0 : Int) < ((l.map Sm.row).length : Int)
      · refine am_ (R_ (F_ r_ (L_ 0 r_ (o_ r_ (br_ r_ (fun hlen => o_ r_ (bz_ r_ r_ (M_ r_ (ah_ r_ u_ b_ (bf_ r_ r_ r_ b_ (ah_ r_ u_ b_ (bg_ 0 r_ r_ r_ r_ (ah_ r_ u_ b_ (bm_ r_ (rWeight_c _) (ah_ r_ u_ b_ (bd_ r_ (ah_ r_ u_ b_ (bz_ r_ r_ (o_ r_ (bp_ r_ u_ r_ (T_ (jc_condd rfl (fun hw => ?_) (fun hw => ?_)))))))))))))))))))))))
        · refine as_ (al_ (au_ (an_ (F_ r_ (L_ 0 r_ (F_ r_ (L_ 0 r_ (o_ r_ (br_ r_ (fun hlen => o_ r_ (cg_ r_ r_ g_ (o_ r_ (ow_prefix r_ r_ g_ g_ (F_ r_ (W_ 0 r_ (F_ r_ (W_ 0 r_ (ak_ ?_))))))))))))))))))
          refine ay_ ?_
          rw [show List.take ((((l.map Sm.row).length : Nat) : Int) - 1).toNat (l.map Sm.row) = (l.take (l.length - 1)).map Sm.row by
            rw [List.map_take, eL]; congr 1; omega]
          skip
          (first | refine jq_row 0 (Rw nm per dln pri jit (.list (lI.map InRow)) (.list (VS.map Wrow)) (.list (ar.map ArRow)) (.list (md.map MdRow)) (.list (([] : List Clm).map ClRow)) (.list ((l.take (l.length - 1)).map Sm.row))) rfl (.cons (.refl _) (.cons (.refl _) (.cons (.refl _) (.cons (.refl _) (.cons (.refl _) (.cons (.refl _) (.cons (.refl _) (.cons (.refl _) (.cons (.refl _) (.cons .nil (.refl _))))))))))) ?_ | refine jq_row 1 (Rw nm per dln pri jit (.list (lI.map InRow)) (.list (VS.map Wrow)) (.list (ar.map ArRow)) (.list (md.map MdRow)) (.list (([] : List Clm).map ClRow)) (.list ((l.take (l.length - 1)).map Sm.row))) rfl (.cons (.refl _) (.cons (.refl _) (.cons (.refl _) (.cons (.refl _) (.cons (.refl _) (.cons (.refl _) (.cons (.refl _) (.cons (.refl _) (.cons (.refl _) (.cons .nil (.refl _))))))))))) ?_ | refine jq_row 2 (Rw nm per dln pri jit (.list (lI.map InRow)) (.list (VS.map Wrow)) (.list (ar.map ArRow)) (.list (md.map MdRow)) (.list (([] : List Clm).map ClRow)) (.list ((l.take (l.length - 1)).map Sm.row))) rfl (.cons (.refl _) (.cons (.refl _) (.cons (.refl _) (.cons (.refl _) (.cons (.refl _) (.cons (.refl _) (.cons (.refl _) (.cons (.refl _) (.cons (.refl _) (.cons .nil (.refl _))))))))))) ?_ | refine jq_row 3 (Rw nm per dln pri jit (.list (lI.map InRow)) (.list (VS.map Wrow)) (.list (ar.map ArRow)) (.list (md.map MdRow)) (.list (([] : List Clm).map ClRow)) (.list ((l.take (l.length - 1)).map Sm.row))) rfl (.cons (.refl _) (.cons (.refl _) (.cons (.refl _) (.cons (.refl _) (.cons (.refl _) (.cons (.refl _) (.cons (.refl _) (.cons (.refl _) (.cons (.refl _) (.cons .nil (.refl _))))))))))) ?_)
          refine jq_againS (i := (l, cl)) (l.take (l.length - 1), []) ⟨⟨min (l.length - 1) nT, by dsimp only; rw [hl10, List.take_take]⟩, .inl rfl⟩ (by simp; omega) ?_ ?_
          · exact bc_ 0 r_ (bc_ 0 r_ (bc_ 0 r_ sub_end))
          · (repeat (first | exact True.intro | refine ⟨rfl, ?_⟩))
        · refine av_ (ax_ (ax_ (ba_ (jq_cutS (l, cl) ⟨⟨nT, hl10⟩, hsh, by dsimp only; omega⟩ ?_ ?_))))
          · exact bc_ 0 r_ (bc_ 0 r_ (bc_ 0 r_ sub_end))
          · (repeat (first | exact True.intro | refine ⟨rfl, ?_⟩))
      · have hl0 : l = [] := List.eq_nil_of_length_eq_zero (by omega)
        subst hl0
        refine am_ (R_ (F_ r_ (L_ 0 r_ (o_ r_ (br_ r_ (fun hlen => o_ r_ (bz_ r_ r_ (M_ r_ (ai_ r_ r_ b_ (ai_ r_ r_ b_ (ai_ r_ r_ b_ (ai_ r_ r_ b_ (ai_ r_ r_ b_ (o_ r_ (bv_ r_ r_ r_ (T_ (jc_cond rfl (fun h => by cases h) (fun _ => av_ ?_))))))))))))))))))
        refine ax_ (ax_ (ba_ (jq_cutS ([], cl) ⟨⟨nT, hl10⟩, hsh, by simp only [wAll]; omega⟩ ?_ ?_)))
        · exact bc_ 0 r_ (bc_ 0 r_ (bc_ 0 r_ sub_end))
        · (repeat (first | exact True.intro | refine ⟨rfl, ?_⟩))
  rintro ⟨l, cl⟩ ⟨⟨nT, hl10⟩, hsh, hwt⟩
  dsimp only at hl10 hsh hwt ⊢
  have hsz2 : Sm.szs l ≤ 635 := by rw [hl10]; exact Nat.le_trans (Sm.szs_take _ _) hsz
  have hifs2 := ifs_le l
  refine am_ (jc_cut (ι := List Clm) [] (ClG (ifsOf l)) (fun _ => Et3 bd W br bt) (fun cl => [.blk bt 41 (Rw nm per dln pri jit (.list (lI.map InRow)) (.list (VS.map Wrow)) (.list (ar.map ArRow)) (.list (md.map MdRow)) (.list (cl.map ClRow)) (.list (l.map Sm.row))), Dk bd L, .blk br 41 Zt]) ?_ ?_)
  · by_cases hl : (0 : Int) < ((cl.map ClRow).length : Int)
    · refine R_ (F_ r_ (L_ 0 r_ (o_ r_ (br_ r_ (fun hlen => o_ r_ (bz_ r_ r_ (M_ r_ (ah_ r_ u_ b_ (bf_ r_ r_ r_ b_ (ah_ r_ u_ b_ (bg_ 0 r_ r_ r_ r_ (ah_ r_ u_ b_ (bm_ r_ (Ifs_c _ g_) (ah_ r_ u_ b_ (br_ r_ (fun hlen => ah_ r_ u_ b_ (bd_ r_ (ah_ r_ u_ b_ (br_ r_ (fun hlen => ah_ r_ u_ b_ (bx_ r_ r_ (o_ r_ (bp_ r_ u_ r_ (T_ (jc_cond rfl (fun _ => ?_) (fun _ => ?_))))))))))))))))))))))))))
      · refine an_ (F_ r_ (W_ 0 r_ (ak_ ?_)))
        (first | refine jq_row 0 (Rw nm per dln pri jit (.list (lI.map InRow)) (.list (VS.map Wrow)) (.list (ar.map ArRow)) (.list (md.map MdRow)) (.list (([] : List Clm).map ClRow)) (.list (l.map Sm.row))) rfl (.cons (.refl _) (.cons (.refl _) (.cons (.refl _) (.cons (.refl _) (.cons (.refl _) (.cons (.refl _) (.cons (.refl _) (.cons (.refl _) (.cons (.refl _) (.cons .nil (.refl _))))))))))) ?_ | refine jq_row 1 (Rw nm per dln pri jit (.list (lI.map InRow)) (.list (VS.map Wrow)) (.list (ar.map ArRow)) (.list (md.map MdRow)) (.list (([] : List Clm).map ClRow)) (.list (l.map Sm.row))) rfl (.cons (.refl _) (.cons (.refl _) (.cons (.refl _) (.cons (.refl _) (.cons (.refl _) (.cons (.refl _) (.cons (.refl _) (.cons (.refl _) (.cons (.refl _) (.cons .nil (.refl _))))))))))) ?_ | refine jq_row 2 (Rw nm per dln pri jit (.list (lI.map InRow)) (.list (VS.map Wrow)) (.list (ar.map ArRow)) (.list (md.map MdRow)) (.list (([] : List Clm).map ClRow)) (.list (l.map Sm.row))) rfl (.cons (.refl _) (.cons (.refl _) (.cons (.refl _) (.cons (.refl _) (.cons (.refl _) (.cons (.refl _) (.cons (.refl _) (.cons (.refl _) (.cons (.refl _) (.cons .nil (.refl _))))))))))) ?_ | refine jq_row 3 (Rw nm per dln pri jit (.list (lI.map InRow)) (.list (VS.map Wrow)) (.list (ar.map ArRow)) (.list (md.map MdRow)) (.list (([] : List Clm).map ClRow)) (.list (l.map Sm.row))) rfl (.cons (.refl _) (.cons (.refl _) (.cons (.refl _) (.cons (.refl _) (.cons (.refl _) (.cons (.refl _) (.cons (.refl _) (.cons (.refl _) (.cons (.refl _) (.cons .nil (.refl _))))))))))) ?_)
        refine jq_cutS ([] : List Clm) (.inl rfl) ?_ ?_
        · exact bc_ 0 r_ (bc_ 0 r_ (bc_ 0 r_ sub_end))
        · (repeat (first | exact True.intro | refine ⟨rfl, ?_⟩))
      · refine as_ (jq_cutS cl hsh ?_ ?_)
        · exact bc_ 0 r_ (bc_ 0 r_ (bc_ 0 r_ sub_end))
        · (repeat (first | exact True.intro | refine ⟨rfl, ?_⟩))
    · refine R_ (F_ r_ (L_ 0 r_ (o_ r_ (br_ r_ (fun hlen => o_ r_ (bz_ r_ r_ (M_ r_ (ai_ r_ w_ b_ (ai_ r_ w_ b_ (ai_ r_ w_ b_ (ai_ r_ w_ b_ (ai_ r_ w_ b_ (ai_ r_ w_ b_ (ai_ r_ w_ b_ (o_ r_ (bv_ r_ w_ r_ (T_ (jc_cond rfl (fun h => by cases h) (fun _ => ?_)))))))))))))))))))
      refine as_ (jq_cutS cl hsh ?_ ?_)
      · exact bc_ 0 r_ (bc_ 0 r_ (bc_ 0 r_ sub_end))
      · (repeat (first | exact True.intro | refine ⟨rfl, ?_⟩))
  clear hsh
  intro cl hcl2
  refine R_ (A_ 0 r_ (S_ 2 r_ (T_ (ar_ ?_))))
  have fin : TaskG Sh nm W ⟨nm, per, dln, pri, jit, lI, VS, ar, md, cl, l⟩ := ⟨rfl, hper2, hdln2, hpri2, hjit2, ⟨by dsimp only; omega, by dsimp only; rw [hlI]; exact hokI⟩, rfl, har, hmd, hcl2, ⟨lab2, l2, nT, by dsimp only; rw [← hlVI, hVe]; exact hsh2, hl10⟩, hwt, by dsimp only; rw [hl10]; exact Int.le_trans (Sm.czs_take _ _) hcz3⟩
  (first | refine jq_retRowS rfl rfl rfl rfl 0 rfl (fun K h => h _ fin) ?_ | refine jq_retRowS rfl rfl rfl rfl 1 rfl (fun K h => h _ fin) ?_ | refine jq_retRowS rfl rfl rfl rfl 2 rfl (fun K h => h _ fin) ?_)
  exact bc_ 2 r_ sub_end
end
end Go.Proofs.YtlniadfidfmckaaGreatDoor
end

section
namespace Go.Proofs.YtlniadfidfmckaaGreatDoor
open Go.Vc
set_option maxHeartbeats 8000000
attribute [local irreducible] JL JC JQ OpWp Con ConN

abbrev Nr : ByteArray := ⟨#[114]⟩
abbrev Ns : ByteArray := ⟨#[115]⟩
def RSl : Nat → List ByteArray
  | 0 => []
  | 1 => [Ns]
  | _ => [Nr, Ns]
def ShG (R : List ByteArray) (l : List Shd) : Prop := l = [] ∨ ∃ (r : ByteArray) (k : Nat), R[0]? = some r ∧ k ≤ 3 ∧ l = [(⟨#[98, 117, 102]⟩, 2 ^ k, r)]
def nmT (i : Nat) : ByteArray := ⟨#[116]⟩ ++ bytesOf [97 + (i : Int)]
structure PgG (T : Nat) (W : Int) (p : Pg) : Prop where
  res : ∃ n, n ≤ 2 ∧ p.res = RSl n
  shared : ShG p.res p.shared
  len : p.tasks.length = T
  tasks : ∀ (i : Nat) (h : i < p.tasks.length), TaskG p.shared (nmT i) W p.tasks[i]
section
variable {L : List Int} {bd : Nat}

theorem programs_c (hL : InR L) (hLn : L.length ≤ 400) (T W N : Int) (hT : 0 ≤ T ∧ T ≤ 6) (hW : 0 ≤ W ∧ W ≤ 1000000) (hN : 0 ≤ N ∧ N ≤ 14) :
    Con Tryz.prog 18 [Ptr bd, In .i64 T, In .i64 W, In .i64 N] [Dk bd L] (fun K => ∀ p : Pg, PgG T.toNat W p → K (.row p.row) [Dk bd L]) := by
  refine con_intro Tryz.func18 rfl rfl (Nat.le_of_ble_eq_true rfl) (fun c hc => R_ (o_ r_ (bl_ rfl rfl (fun b8 => T_ (R_ (o_ r_ (bl_ rfl rfl (fun b9 => T_ (am_ (R_ (M_ r_ (o_ r_ (bt_ [2] rfl rfl (Nx_c _ hL hLn g_) (fun k1 hk1 => E_ r_ (T_ (jc_ownNil 9 1 g_ ?_))))))))))))))))
  obtain ⟨n1, hn1⟩ : ∃ n : Nat, k1 = (n : Int) := ⟨k1.toNat, by omega⟩
  subst hn1
  have hn12 : n1 ≤ 2 := by omega
  refine jc_cut (ι := Value × List ByteArray) [] (fun i => c.Fresh i.1 ∧ i.2 = RSl n1) (fun _ => [(0, Ptr bd), (1, In .i64 T), (2, In .i64 W), (3, In .i64 N), (8, Ptr b8), (9, Ptr b9)])
    (fun i => [.blk b9 31 [.val i.1, NilC, NilC], .own i.1 9 1 (i.2.map Wrow), Dk bd L, .blk b8 31 [NilC, NilC, NilC]]) ?_ ?_
  · refine au_ ?_
    refine jc_loopS (ι := Nat × Value × List ByteArray) [] (fun i => i.1 ≤ n1 ∧ c.Fresh i.2.1 ∧ i.2.2 = (RSl n1).take (n1 - i.1)) (fun i => (10, In .i64 (i.1 : Int)) :: [(0, Ptr bd), (1, In .i64 T), (2, In .i64 W), (3, In .i64 N), (8, Ptr b8), (9, Ptr b9)])
      (fun i => [.blk b9 31 [.val i.2.1, NilC, NilC], .own i.2.1 9 1 (i.2.2.map Wrow), Dk bd L, .blk b8 31 [NilC, NilC, NilC]]) (fun i => i.1) (n1, .slice none 0 0, []) ⟨Nat.le_refl _, fresh_nil, by simp⟩ ?_ ?_ ?_
    · exact bc_ 2 r_ (bc_ 0 r_ (bc_ 0 r_ (bc_ 0 r_ sub_end)))
    · (repeat (first | exact True.intro | refine ⟨rfl, ?_⟩))
    · rintro ⟨k, vR, lR⟩ ⟨hk, hfR, hlR⟩
      dsimp only at hk hfR hlR ⊢
      by_cases hk0 : k = 0
      · subst hk0
        refine am_ (R_ (M_ r_ (o_ r_ (bz_ r_ r_ (T_ (jc_cond rfl (fun h => by cases h) (fun _ => av_ (ax_ (ax_ (ba_ (jq_cutS (vR, lR) ⟨hfR, by dsimp only; rw [hlR, List.take_of_length_le]; rcases n1 with _ | _ | _ | n <;> simp [RSl]⟩ ?_ ?_)))))))))))
        · exact bc_ 0 r_ (bc_ 0 r_ (bc_ 0 r_ (bc_ 0 r_ sub_end)))
        · (repeat (first | exact True.intro | refine ⟨rfl, ?_⟩))
      have hlR2 : lR.length ≤ 2 := by rw [hlR, List.length_take]; omega
      have hcase : (n1 = 1 ∧ k = 1) ∨ (n1 = 2 ∧ k = 1) ∨ (n1 = 2 ∧ k = 2) := by omega
      rcases hcase with ⟨rfl, rfl⟩ | ⟨rfl, rfl⟩ | ⟨rfl, rfl⟩
      · refine am_ (R_ (M_ r_ (o_ r_ (bz_ r_ r_ (T_ (jc_condd rfl (fun _ => as_ (al_ (B_ (jc_anyB 8 none rfl k_ k_ (yF_ r_ (yL_ 0 r_ (aa_ (fun c => bq_ r_ r_ b_ r_ r_ b_ p_) (yM_ r_ (aa_ (fun c => ow_rem64 r_ r_ g_ g_ p_) (aa_ (fun c => ow_indexAddr r_ r_ g_ r_ r_ b_ p_) ?_)))))))))) (fun h => by omega)))))))
        refine aa_ (fun c => cb_ r_ r_ p_) (aa_ (fun c => bq_ r_ r_ b_ r_ r_ b_ p_) (ae_ (afin_none ?_)))
        (first | refine jl_op (ow_append1F 1 (⟨#[115]⟩) rfl rfl rfl rfl rfl rfl rfl (fun _ => rfl) (by show (_ + _) * 16 ≤ _; first | omega | (simp only [List.length_append]; omega)) (by first | omega | (simp only [List.length_append]; omega)) (fun vR1 hvR1 fvR1 => ?_)) (nb rfl) | refine jl_op (ow_append1F 2 (⟨#[115]⟩) rfl rfl rfl rfl rfl rfl rfl (fun _ => rfl) (by show (_ + _) * 16 ≤ _; first | omega | (simp only [List.length_append]; omega)) (by first | omega | (simp only [List.length_append]; omega)) (fun vR1 hvR1 fvR1 => ?_)) (nb rfl) | refine jl_op (ow_append1F 0 (⟨#[115]⟩) rfl rfl rfl rfl rfl rfl rfl (fun _ => rfl) (by show (_ + _) * 16 ≤ _; first | omega | (simp only [List.length_append]; omega)) (by first | omega | (simp only [List.length_append]; omega)) (fun vR1 hvR1 fvR1 => ?_)) (nb rfl))
        refine F_ r_ (W_ 1 r_ (ak_ (ay_ (al_ (an_ (M_ r_ (o_ r_ (cg_ r_ r_ g_ (E_ r_ (ak_ (jq_againS (i := (1, vR, lR)) (0, vR1, lR ++ [⟨#[115]⟩]) ⟨by dsimp only; omega, fvR1 hfR, by dsimp only; rw [hlR]; rfl⟩ (by dsimp only; omega) ?_ ?_)))))))))))
        · exact bc_ 0 r_ (bc_ 0 r_ (bc_ 0 r_ (bc_ 0 r_ sub_end)))
        · (repeat (first | exact True.intro | refine ⟨rfl, ?_⟩))
      · refine am_ (R_ (M_ r_ (o_ r_ (bz_ r_ r_ (T_ (jc_condd rfl (fun _ => as_ (al_ (B_ (jc_anyB 8 none rfl k_ k_ (yF_ r_ (yL_ 0 r_ (aa_ (fun c => bq_ r_ r_ b_ r_ r_ b_ p_) (yM_ r_ (aa_ (fun c => ow_rem64 r_ r_ g_ g_ p_) (aa_ (fun c => ow_indexAddr r_ r_ g_ r_ r_ b_ p_) ?_)))))))))) (fun h => by omega)))))))
        refine aa_ (fun c => cb_ r_ r_ p_) (aa_ (fun c => bq_ r_ r_ b_ r_ r_ b_ p_) (ae_ (afin_none ?_)))
        (first | refine jl_op (ow_append1F 1 (⟨#[115]⟩) rfl rfl rfl rfl rfl rfl rfl (fun _ => rfl) (by show (_ + _) * 16 ≤ _; first | omega | (simp only [List.length_append]; omega)) (by first | omega | (simp only [List.length_append]; omega)) (fun vR1 hvR1 fvR1 => ?_)) (nb rfl) | refine jl_op (ow_append1F 2 (⟨#[115]⟩) rfl rfl rfl rfl rfl rfl rfl (fun _ => rfl) (by show (_ + _) * 16 ≤ _; first | omega | (simp only [List.length_append]; omega)) (by first | omega | (simp only [List.length_append]; omega)) (fun vR1 hvR1 fvR1 => ?_)) (nb rfl) | refine jl_op (ow_append1F 0 (⟨#[115]⟩) rfl rfl rfl rfl rfl rfl rfl (fun _ => rfl) (by show (_ + _) * 16 ≤ _; first | omega | (simp only [List.length_append]; omega)) (by first | omega | (simp only [List.length_append]; omega)) (fun vR1 hvR1 fvR1 => ?_)) (nb rfl))
        refine F_ r_ (W_ 1 r_ (ak_ (ay_ (al_ (an_ (M_ r_ (o_ r_ (cg_ r_ r_ g_ (E_ r_ (ak_ (jq_againS (i := (1, vR, lR)) (0, vR1, lR ++ [⟨#[115]⟩]) ⟨by dsimp only; omega, fvR1 hfR, by dsimp only; rw [hlR]; rfl⟩ (by dsimp only; omega) ?_ ?_)))))))))))
        · exact bc_ 0 r_ (bc_ 0 r_ (bc_ 0 r_ (bc_ 0 r_ sub_end)))
        · (repeat (first | exact True.intro | refine ⟨rfl, ?_⟩))
      · refine am_ (R_ (M_ r_ (o_ r_ (bz_ r_ r_ (T_ (jc_condd rfl (fun _ => as_ (al_ (B_ (jc_anyB 8 none rfl k_ k_ (yF_ r_ (yL_ 0 r_ (aa_ (fun c => bq_ r_ r_ b_ r_ r_ b_ p_) (yM_ r_ (aa_ (fun c => ow_rem64 r_ r_ g_ g_ p_) (aa_ (fun c => ow_indexAddr r_ r_ g_ r_ r_ b_ p_) ?_)))))))))) (fun h => by omega)))))))
        refine aa_ (fun c => cb_ r_ r_ p_) (aa_ (fun c => bq_ r_ r_ b_ r_ r_ b_ p_) (ae_ (afin_none ?_)))
        (first | refine jl_op (ow_append1F 1 (⟨#[114]⟩) rfl rfl rfl rfl rfl rfl rfl (fun _ => rfl) (by show (_ + _) * 16 ≤ _; first | omega | (simp only [List.length_append]; omega)) (by first | omega | (simp only [List.length_append]; omega)) (fun vR1 hvR1 fvR1 => ?_)) (nb rfl) | refine jl_op (ow_append1F 2 (⟨#[114]⟩) rfl rfl rfl rfl rfl rfl rfl (fun _ => rfl) (by show (_ + _) * 16 ≤ _; first | omega | (simp only [List.length_append]; omega)) (by first | omega | (simp only [List.length_append]; omega)) (fun vR1 hvR1 fvR1 => ?_)) (nb rfl) | refine jl_op (ow_append1F 0 (⟨#[114]⟩) rfl rfl rfl rfl rfl rfl rfl (fun _ => rfl) (by show (_ + _) * 16 ≤ _; first | omega | (simp only [List.length_append]; omega)) (by first | omega | (simp only [List.length_append]; omega)) (fun vR1 hvR1 fvR1 => ?_)) (nb rfl))
        refine F_ r_ (W_ 1 r_ (ak_ (ay_ (al_ (an_ (M_ r_ (o_ r_ (cg_ r_ r_ g_ (E_ r_ (ak_ (jq_againS (i := (2, vR, lR)) (1, vR1, lR ++ [⟨#[114]⟩]) ⟨by dsimp only; omega, fvR1 hfR, by dsimp only; rw [hlR]; rfl⟩ (by dsimp only; omega) ?_ ?_)))))))))))
        · exact bc_ 0 r_ (bc_ 0 r_ (bc_ 0 r_ (bc_ 0 r_ sub_end)))
        · (repeat (first | exact True.intro | refine ⟨rfl, ?_⟩))
  rintro ⟨vR, lR⟩ ⟨hfR, hlR⟩
  dsimp only at hfR hlR ⊢
  have hlR2 : lR.length ≤ 2 := by rw [hlR]; rcases n1 with _ | _ | _ | n <;> simp [RSl]
  refine jc_freezeB 1 0 0 rfl rfl hfR (am_ (jc_cut (ι := List Shd) [] (ShG lR) (fun _ => [(0, Ptr bd), (1, In .i64 T), (2, In .i64 W), (3, In .i64 N), (8, Ptr b8), (9, Ptr b9)]) (fun Sh => [.blk b9 31 [.list (lR.map Wrow), .list (Sh.map ShRow), NilC], Dk bd L, .blk b8 31 [NilC, NilC, NilC]]) ?_ ?_))
  · refine am_ (jc_cut (ι := Bool) [] (fun b => b = true → 0 < lR.length) (fun b => (36, Bl b) :: [(0, Ptr bd), (1, In .i64 T), (2, In .i64 W), (3, In .i64 N), (8, Ptr b8), (9, Ptr b9)]) (fun _ => [.blk b9 31 [.list (lR.map Wrow), NilC, NilC], Dk bd L, .blk b8 31 [NilC, NilC, NilC]]) ?_ ?_)
    · by_cases hl : (0 : Int) < ((lR.map Wrow).length : Int)
      · refine an_ (F_ r_ (L_ 0 r_ (o_ r_ (br_ r_ (fun hlen => o_ r_ (bz_ r_ r_ (M_ r_ (ah_ r_ u_ b_ (bd_ r_ (ah_ rfl (by (first | assumption | exact decide_eq_true rfl | exact decide_eq_true (by first | assumption | omega) | exact decide_eq_false (by first | assumption | omega) | with_reducible rfl | exact (rfl : false = !true) | exact (rfl : true = !false))) b_ (bt_ [1] rfl rfl (Nx_c _ hL hLn g_) (fun k9 hk9 => ?_))))))))))))
        refine ah_ r_ u_ b_ (bn_ r_ r_ (o_ r_ (bp_ r_ u_ r_ (ak_ (jq_cutS (decide (k9 = 1)) (fun _ => by simp at hl; omega) ?_ ?_)))))
        · exact bc_ 1 r_ (bc_ 0 r_ (bc_ 0 r_ sub_end))
        · (repeat (first | exact True.intro | refine ⟨rfl, ?_⟩))
      · refine an_ (F_ r_ (L_ 0 r_ (o_ r_ (br_ r_ (fun hlen => o_ r_ (bz_ r_ r_ (M_ r_ (ai_ r_ w_ b_ (ai_ r_ w_ b_ (ai_ r_ w_ b_ (o_ r_ (bv_ r_ w_ r_ (ak_ (jq_cutS false (by simp) ?_ ?_))))))))))))))
        · exact bc_ 0 r_ (bc_ 0 r_ (bc_ 0 r_ sub_end))
        · (repeat (first | exact True.intro | refine ⟨rfl, ?_⟩))
    intro b hb
    refine jc_cond rfl (fun hbt => ?_) (fun hbt => ?_)
    · have hl0 := hb hbt
      refine jc_ownNil 80 3 g_ ?_
      skip
      refine jc_anyB 13 none rfl k_ k_ (yF_ r_ (yL_ 1 r_ (yM_ r_ (aa_ (fun c => ow_callA [2] r_ r_ (gNext_c L _ _ hL hLn g_)) (aa_ (fun c => ow_exarg 40 rfl (fun i => ow_convU64 rfl rfl rfl (by have := i.2; omega) ⟨rfl, .refl _⟩)) ?_)))))
      refine aa_ (fun c => ow_exarg 41 rfl (fun i : {i : Int // 0 ≤ i ∧ (i < 4 ∨ i = 0)} => ow_shl64 (n := i.1) rfl rfl (by have := i.2; omega) (by have := i.2; have := pow_bd i.1 g_; omega) ⟨rfl, .refl _⟩)) (aa_ (fun c => ow_exarg 42 rfl (fun i => bu_ rfl rfl rfl rfl rfl ⟨rfl, .refl _⟩)) (yF_ r_ (yL_ 1 r_ (aa_ (fun c => cc_ (k := 0) r_ r_ hl0 r_ r_ b_ ⟨rfl, .refl _⟩) (aa_ (fun c => cb_ r_ r_ p_) ?_)))))
      refine aa_ (fun c => ow_exarg 43 rfl (fun i => bu_ rfl rfl rfl rfl rfl ⟨rfl, .refl _⟩)) (aa_ (fun c => ow_exarg 48 rfl (fun i => bq_ rfl rfl b_ rfl rfl b_ ⟨rfl, .refl _⟩)) (ae_ (afin_none (jl_slot 49 rfl (fun n => o_ r_ (ow_append1F (f := ShRow) (l1 := []) 0 (⟨#[98, 117, 102]⟩, 1 * 2 ^ n.1.toNat, lR[0]) rfl rfl rfl rfl rfl rfl rfl (fun _ => rfl) (by show (0 + 1) * 40 ≤ _; omega) (by simp) (fun vS hvS fvS => ?_)))))))
      refine jl_freezeF 50 0 rfl rfl (fvS fresh_nil) (F_ r_ (W_ 0 r_ (ak_ ?_)))
      (first | refine jq_row 0 [.list (lR.map Wrow), .list ([((⟨#[98, 117, 102]⟩ : ByteArray), (1 : Int) * 2 ^ n.1.toNat, lR[0])].map ShRow), NilC] rfl (.cons (.refl _) (.refl _)) ?_ | refine jq_row 1 [.list (lR.map Wrow), .list ([((⟨#[98, 117, 102]⟩ : ByteArray), (1 : Int) * 2 ^ n.1.toNat, lR[0])].map ShRow), NilC] rfl (.cons (.refl _) (.refl _)) ?_)
      refine jq_cutS [((⟨#[98, 117, 102]⟩ : ByteArray), (1 : Int) * 2 ^ n.1.toNat, lR[0])] (.inr ⟨lR[0], n.1.toNat, by simp, by have := n.2; omega, by rw [Int.one_mul]⟩) ?_ ?_
      · exact bc_ 0 r_ (bc_ 0 r_ (bc_ 0 r_ sub_end))
      · (repeat (first | exact True.intro | refine ⟨rfl, ?_⟩))
    · refine as_ ?_
      (first | refine jq_row 0 [.list (lR.map Wrow), .list (([] : List Shd).map ShRow), NilC] rfl (.cons (.refl _) (.cons .nil (.refl _))) ?_ | refine jq_row 1 [.list (lR.map Wrow), .list (([] : List Shd).map ShRow), NilC] rfl (.cons (.refl _) (.cons .nil (.refl _))) ?_)
      refine jq_cutS ([] : List Shd) (.inl rfl) ?_ ?_
      · exact bc_ 0 r_ (bc_ 0 r_ (bc_ 0 r_ sub_end))
      · (repeat (first | exact True.intro | refine ⟨rfl, ?_⟩))
  intro Sh hSh
  have hShl : Sh.length ≤ 1 := by rcases hSh with rfl | ⟨r, k, _, _, rfl⟩ <;> simp
  have tk := fun nm => con_toEx (task_c (Sh := Sh) (bd := bd) hL hLn (by omega) nm W N hW hN)
  refine jc_ownNil 41 11 g_ (am_ (R_ (E_ r_ (T_ ?_))))
  refine jc_cut (ι := Value × List Tk) [] (fun i => c.Fresh i.1 ∧ i.2.length = T.toNat ∧ ∀ (j : Nat) (h : j < i.2.length), TaskG Sh (nmT j) W i.2[j]) (fun _ => [(0, Ptr bd), (1, In .i64 T), (2, In .i64 W), (3, In .i64 N), (8, Ptr b8), (9, Ptr b9)])
    (fun i => [.blk b9 31 [.list (lR.map Wrow), .list (Sh.map ShRow), .val i.1], .own i.1 41 11 (i.2.map Tk.row), Dk bd L, .blk b8 31 [NilC, NilC, NilC]]) ?_ ?_
  · refine au_ ?_
    refine jc_loopS (ι := Nat × Value × List Tk) [] (fun i => i.1 ≤ T.toNat ∧ c.Fresh i.2.1 ∧ i.2.2.length = i.1 ∧ ∀ (j : Nat) (h : j < i.2.2.length), TaskG Sh (nmT j) W i.2.2[j]) (fun i => (11, In .i64 (i.1 : Int)) :: [(0, Ptr bd), (1, In .i64 T), (2, In .i64 W), (3, In .i64 N), (8, Ptr b8), (9, Ptr b9)])
      (fun i => [.blk b9 31 [.list (lR.map Wrow), .list (Sh.map ShRow), .val i.2.1], .own i.2.1 41 11 (i.2.2.map Tk.row), Dk bd L, .blk b8 31 [NilC, NilC, NilC]]) (fun i => T.toNat - i.1) (0, .slice none 0 0, []) ⟨Nat.zero_le _, fresh_nil, rfl, by simp⟩ ?_ ?_ ?_
    · exact bc_ 1 r_ (bc_ 0 r_ (bc_ 0 r_ (bc_ 0 r_ sub_end)))
    · (repeat (first | exact True.intro | refine ⟨rfl, ?_⟩))
    · rintro ⟨k, vT, ls⟩ ⟨hk, hfT, hls, hg⟩
      dsimp only at hk hfT hls hg ⊢
      refine am_ (R_ (M_ r_ (M_ r_ (o_ r_ (bw_ r_ r_ (T_ (jc_condd rfl (fun hlt => ?_) (fun hge => ?_))))))))
      · refine as_ (al_ (B_ (jc_anyB 15 none rfl k_ k_ (yF_ r_ (yL_ 0 r_ (yM_ r_ (yM_ r_ (aa_ (fun c => bj_ r_ r_ g_ p_) (aa_ (fun c => ow_convU8 r_ r_ r_ g_ p_) (aa_ (fun c => bq_ r_ r_ b_ r_ r_ b_ p_) (aa_ (fun c => ow_bytesToString (l := [_]) r_ r_ r_ p_) (aa_ (fun c => ow_strcat rfl rfl (by show 1 + 1 ≤ 9223372036854775807; omega) ⟨rfl, .refl _⟩) (yF_ r_ (yL_ 0 r_ (yM_ r_ ?_)))))))))))))))
        refine yM_ r_ (aa_ (fun c => ow_callA [2] r_ r_ (tk _)) (aa_ (fun c => ow_exarg 70 rfl (fun i => bq_ rfl rfl b_ rfl rfl b_ ⟨rfl, .refl _⟩)) (ae_ (afin_none (jl_slot 71 rfl (fun l => ?_))))))
        (first | refine jl_op (ow_append1F 1 (l.1) rfl rfl rfl rfl rfl rfl rfl (fun _ => rfl) (by show (_ + _) * 192 ≤ _; first | omega | (simp only [List.length_append]; omega)) (by first | omega | (simp only [List.length_append]; omega)) (fun vT1 hvT1 fvT1 => ?_)) (nb rfl) | refine jl_op (ow_append1F 2 (l.1) rfl rfl rfl rfl rfl rfl rfl (fun _ => rfl) (by show (_ + _) * 192 ≤ _; first | omega | (simp only [List.length_append]; omega)) (by first | omega | (simp only [List.length_append]; omega)) (fun vT1 hvT1 fvT1 => ?_)) (nb rfl))
        refine F_ r_ (W_ 1 r_ (ak_ (ay_ (al_ (an_ (M_ r_ (o_ r_ (bj_ r_ r_ g_ (E_ r_ (ak_ (jq_againS (i := (k, vT, ls)) (k + 1, vT1, ls ++ [l.1]) ⟨by dsimp only; omega, fvT1 hfT, by simp [hls], ?_⟩ (by dsimp only; omega) ?_ ?_)))))))))))
        · intro j hj
          simp only [List.length_append, List.length_cons, List.length_nil] at hj
          dsimp only
          by_cases hjl : j < ls.length
          · rw [List.getElem_append_left hjl]
            exact hg j hjl
          · have hjk : j = k := by omega
            subst hjk
            rw [List.getElem_append_right (by omega)]
            simp only [List.getElem_singleton]
            exact l.2
        · exact bc_ 0 r_ (bc_ 0 r_ (bc_ 0 r_ (bc_ 0 r_ sub_end)))
        · (repeat (first | exact True.intro | refine ⟨rfl, ?_⟩))
      · refine av_ (ax_ (ax_ (ba_ (jq_cutS (vT, ls) ⟨hfT, by dsimp only; omega, hg⟩ ?_ ?_))))
        · exact bc_ 0 r_ (bc_ 0 r_ (bc_ 0 r_ (bc_ 0 r_ sub_end)))
        · (repeat (first | exact True.intro | refine ⟨rfl, ?_⟩))
  rintro ⟨vT, ls⟩ ⟨hfT, hls, hg⟩
  dsimp only at hfT hls hg ⊢
  refine jc_freezeB 1 0 2 rfl rfl hfT (R_ (A_ 0 r_ (S_ 2 r_ (T_ (ar_ ?_)))))
  (first | refine jq_retRowS rfl rfl rfl rfl 0 rfl (fun K h => h ⟨lR, Sh, ls⟩ ⟨⟨n1, hn12, hlR⟩, hSh, hls, hg⟩) ?_ | refine jq_retRowS rfl rfl rfl rfl 1 rfl (fun K h => h ⟨lR, Sh, ls⟩ ⟨⟨n1, hn12, hlR⟩, hSh, hls, hg⟩) ?_ | refine jq_retRowS rfl rfl rfl rfl 2 rfl (fun K h => h ⟨lR, Sh, ls⟩ ⟨⟨n1, hn12, hlR⟩, hSh, hls, hg⟩) ?_)
  exact bc_ 2 r_ sub_end

theorem gProgram_c (hL : InR L) (hLn : L.length ≤ 400) (T : Int) :
    Con Tryz.prog 8 [Ptr bd, In .i64 T] [Dk bd L] (fun K => ∀ p : Pg, PgG (max 1 (min T 6)).toNat 300 p → K (.row p.row) [Dk bd L]) := by
  refine con_intro Tryz.func8 rfl rfl (Nat.le_of_ble_eq_true rfl) (fun c hc => R_ (o_ r_ (bl_ rfl rfl (fun b4 => T_ (R_ (M_ r_ (M_ r_ (o_ r_ (cl_ r_ r_ (o_ r_ (ck_ r_ r_ (o_ r_ (bt_ [1] rfl rfl (programs_c hL hLn _ _ _ g_ g_ g_) (fun p hp => S_ 1 r_ (T_ (ar_ ?_))))))))))))))))
  (first | refine jq_retRowS rfl rfl rfl rfl 0 rfl (fun K h => h p hp) ?_ | refine jq_retRowS rfl rfl rfl rfl 1 rfl (fun K h => h p hp) ?_)
  exact bc_ 1 r_ sub_end
end
end Go.Proofs.YtlniadfidfmckaaGreatDoor
end

section
namespace Go.Vc
open Go.RowKit

section
variable {P : Program} [Gl P] {nt : Nat} {c : Cx P nt} {env : Env} {H Hr : List Ch} {ops : Array Oper} {Q : Exit → Act → World → Prop} {Sw : World → Prop}
variable {m fuel : Nat} {listed : Array Bool} {i j k di dj dk : Nat} {opi opj : Op} {ti tj tk : TypeId} {pi pj pk : String} {afi afj afk : Array Edge} {s0 : S}
theorem hok_build {d : Option Tmp} {ty t : TypeId} {pos : String} {af : Array Edge} [TI P t] [TS P t] (hs : structB (TI.u P t) = true) {z : Value} (hz : (TI.i P t).zero = some z) (h1 : z.cells.toList.all Value.oneCell' = true) {ps : Array (Nat × Operand)} {ss : List (Nat × S)} (hp : env.parts ps.toList = some ss) {row : List C}
    (hf : fillC (TS.pl P t) (zeroRow z) ss = some row) : HOk c Sw env H ⟨d, .build t ps, ty, pos, af, none⟩ (.row row) :=
  fun a w h _ => by
    obtain ⟨cs, g1, g2⟩ := fill_ok (parts_ok h hp) (rdRow_zero _ (List.all_eq_true.1 h1)) hf
    refine ⟨.agg cs.toArray, fun w' _ => ?_, cs.toArray, rfl, by simpa using g2⟩
    simp only [Array.toArray_toList] at g1
    simp only [execOp, Instr.build, Sem.run_bind, run_zeroValue t hz, run_fields t hs, Result.andThen_ok, TS.hpl, Array.toList_map, g1, Sem.run_pure]
end
end Go.Vc
end

section
namespace Go.Vc
open Go.RowKit

section
variable {P : Program} [Gl P] {nt : Nat} {c : Cx P nt} {env : Env} {H Hr : List Ch} {ops : Array Oper} {Q : Exit → Act → World → Prop}
variable {x : Operand} {t : TypeId} {ty : TypeId} {pos : String} {af : Array Edge}
end
end Go.Vc
end

section
namespace Go.Vc
open Go.RowKit

section
variable {P : Program} [Gl P] {nt : Nat} {c : Cx P nt} {env : Env} {H Hr : List Ch} {ops : Array Oper} {Q : Exit → Act → World → Prop} {Sw : World → Prop} {L : List (Nat × List Value × TypeId)}
variable {m fuel : Nat} {listed : Array Bool} {x : Operand} {t : TypeId} {ty : TypeId} {pos : String} {af : Array Edge}
end
end Go.Vc
end

section
namespace Go.Vc
open Go.RowKit

section
variable {P : Program} {ops : Array Oper} {Q : Exit → Act → World → Prop} {K : Act → World → Prop}
theorem upon_then {o : Oper} {a : Act} {next : Act → World → Prop} {r : Result Next} (h : o.upon P a next (Exit.then K Q) r) : o.upon P a next Q r := by
  cases r with
  | ok n w' => cases n <;> first | exact h | exact Calls.mono h (fun e w'' he => by cases e <;> exact he)
  | halt x w' => cases x <;> exact h
theorem wpList_app {l2 : List Oper} : ∀ (l1 : List Oper) (a : Act) (w : World), wpList P ops (Exit.then (wpList P ops Q l2) Q) l1 a w → wpList P ops Q (l1 ++ l2) a w
  | [], _, _, h => h
  | o :: l, a, w, h => by
    rw [List.cons_append]
    unfold wpList at h ⊢
    split
    · rename_i hw
      rw [if_pos hw] at h
      rcases h with h | h
      · exact .inl (upon_then (Oper.wp_mono (fun a w => wpList_app l a w) h))
      · exact .inr ⟨h.1, h.2⟩
    · rename_i hw
      rw [if_neg hw] at h
      exact wpList_app l _ _ h
end
section
variable {P : Program} [Gl P] {nt : Nat} {c : Cx P nt} {env : Env} {H : List Ch} {ops : Array Oper} {Q : Exit → Act → World → Prop}
/-- Operations that wait for one and the same, whose results are not known of. -/
def segOk (env : Env) (g : Nat) (want : Bool) (l : List Oper) : Bool := l.all fun o => o.guard == some (g, want) && (match o.dst with | some d => (env.lookup d).isNone | none => false)
def SegQ (c : Cx P nt) (env : Env) (H : List Ch) (y : Operand) (v : Bool) (a : Act) (w : World) : Prop := St c env H a w ∧ a.eval y = .bool v
theorem yield_of {a : Act} {w : World} {g z : Nat} {b : Bool} (hs : St c env H a w) (hgz : (ops[g]?).bind (·.dst) = some z) (hz : env.lookup z = some (Bl b)) : yielded ops a.tmps g = some b := by
  have hv : a.tmps.getD z undef = .bool b := (hs.slots z _ hz).1
  have hlt : z < a.tmps.size := by
    rcases Nat.lt_or_ge z a.tmps.size with h' | h'
    · exact h'
    · rw [Array.getD_eq_getD_getElem?, Array.getElem?_eq_none h'] at hv
      cases hv
  rw [Array.getD_eq_getD_getElem?, Array.getElem?_eq_getElem hlt] at hv
  simp only [Option.getD_some] at hv
  unfold yielded
  simp [hgz, hlt, hv]
theorem st_put_free {a : Act} {w : World} {d : Nat} {v : Value} (hs : St c env H a w) (hn : env.lookup d = none) : St c env H (a.put (some d) v) w := by
  refine ⟨by have := hs.size; simpa [Act.put] using this, hs.defers, fun t s ht => ?_, hs.heap⟩
  have hne : t ≠ d := by intro h; subst h; rw [hn] at ht; cases ht
  have h1 := hs.slots t s ht
  have h2 : (a.put (some d) v).tmps.getD t undef = a.tmps.getD t undef := by simp [Act.put, Array.getD_eq_getD_getElem?, Array.getElem?_setIfInBounds_ne (Ne.symm hne)]
  rw [h2]
  exact h1
theorem seg_skip {g z : Nat} {want : Bool} (hgz : (ops[g]?).bind (·.dst) = some z) (hz : env.lookup z = some (Bl (!want))) {Kl : Act → World → Prop} :
    ∀ (l : List Oper) (a : Act) (w : World), segOk env g want l = true → St c env H a w → (∀ a, St c env H a w → Kl a w) → wpList P ops (Exit.then Kl Q) l a w
  | [], a, w, _, hs, hK => hK a hs
  | o :: l, a, w, hk, hs, hK => by
    obtain ⟨dst, op, ty, pos, af, gd⟩ := o
    simp only [segOk, List.all_cons, Bool.and_eq_true] at hk
    obtain ⟨⟨h1, h2⟩, h3⟩ := hk
    have h1 : gd = some (g, want) := by simpa using h1
    subst h1
    cases dst with
    | none => cases h2
    | some d =>
      have h2 : env.lookup d = none := by simpa using h2
      unfold wpList
      rw [if_neg (by simp [Region.wanted, yield_of hs hgz hz])]
      exact seg_skip hgz hz l _ w h3 (st_put_free hs h2) hK
theorem jl_seg {want b : Bool} {n g z d : Nat} {l rest : List Oper} {px py y : Operand} {v r : Bool} {ty : TypeId} {pos : String} {af : Array Edge}
    (hr : l.drop n = ⟨some d, .pick (.tmp z) px py, ty, pos, af, none⟩ :: rest) (hs : segOk env g want (l.take n) = true) (hgz : (ops[g]?).bind (·.dst) = some z) (hz : env.lookup z = some (Bl b)) (hd : d < nt)
    (h1 : b = want → JL c ops (Exit.then (SegQ c env H y v) Q) (l.take n) env H)
    (hp : ∀ a w, St c env H a w → (b = want → a.eval y = .bool v) → a.eval (if b then px else py) = .bool r)
    (h2 : JL c ops Q rest ((d, Bl r) :: env) H) : JL c ops Q l env H := by
  intro a w hst
  have hpick : ∀ a w, St c env H a w → (b = want → a.eval y = .bool v) → wpList P ops Q (⟨some d, .pick (.tmp z) px py, ty, pos, af, none⟩ :: rest) a w := by
    intro a w hst hy
    refine wpList_plain rfl fun K hK => ?_
    have e1 : a.eval (.tmp z) = .bool b := ev_val (x := .tmp z) hst (by simpa [Env.ev] using hz)
    have e2 := hp a w hst hy
    have hrun : (execOp a.eval ⟨some d, .pick (.tmp z) px py, ty, pos, af, none⟩).run P w = .ok (.value (.bool r)) w := by
      cases b <;> simp_all [execOp, asBool]
    unfold Oper.wp
    rw [hrun, Oper.upon_value]
    exact hK _ _ (h2 _ _ (hst.next hd hst.heap ⟨rfl, rfl⟩ (fun _ _ h => h)))
  rw [← List.take_append_drop n l, hr]
  refine wpList_app _ _ _ ?_
  by_cases hb : b = want
  · have h3 := h1 hb a w hst
    -- what comes behind it
    have mono : ∀ (l : List Oper) (a : Act) (w : World), wpList P ops (Exit.then (SegQ c env H y v) Q) l a w → wpList P ops (Exit.then (wpList P ops Q (⟨some d, .pick (.tmp z) px py, ty, pos, af, none⟩ :: rest)) Q) l a w := by
      intro l
      induction l with
      | nil => intro a w h; exact hpick a w h.1 (fun _ => h.2)
      | cons o l ih =>
        intro a w h
        unfold wpList at h ⊢
        split
        · rename_i hw
          rw [if_pos hw] at h
          rcases h with h | h
          · refine .inl ?_
            have h4 := Oper.wp_mono (fun a w => ih a w) h
            unfold Oper.wp at h4 ⊢
            revert h4
            generalize (execOp a.eval o).run P w = res
            intro h4
            cases res with
            | ok nn w' => cases nn <;> first | exact h4 | exact Calls.mono h4 (fun e w'' he => by cases e <;> exact he)
            | halt x w' => cases x <;> exact h4
          · exact .inr ⟨h.1, h.2⟩
        · rename_i hw
          rw [if_neg hw] at h
          exact ih _ _ h
    exact mono _ _ _ h3
  · have hz' : env.lookup z = some (Bl (!want)) := by rw [hz]; cases b <;> cases want <;> simp_all
    exact seg_skip hgz hz' _ a w hs hst (fun a hst => hpick a w hst (fun h => absurd h hb))
theorem jl_and (n g : Nat) {b : Bool} {z d : Nat} {l rest : List Oper} {y : Operand} {ty : TypeId} {pos : String} {af : Array Edge}
    (hr : l.drop n = ⟨some d, .pick (.tmp z) y (.const (.bool false)), ty, pos, af, none⟩ :: rest) (hs : segOk env g true (l.take n) = true) (hgz : (ops[g]?).bind (·.dst) = some z) (hz : env.lookup z = some (Bl b)) (hd : d < nt)
    (h : ∃ v : Bool, (b = true → JL c ops (Exit.then (SegQ c env H y v) Q) (l.take n) env H) ∧ JL c ops Q rest ((d, Bl (b && v)) :: env) H) : JL c ops Q l env H :=
  let ⟨v, h1, h2⟩ := h
  jl_seg (y := y) (v := v) (r := b && v) hr hs hgz hz hd h1 (fun a w _ hy => by
    cases b with
    | true => rw [if_pos rfl, Bool.true_and]; exact hy rfl
    | false => rfl) h2
theorem jl_or (n g : Nat) {b : Bool} {z d : Nat} {l rest : List Oper} {y : Operand} {ty : TypeId} {pos : String} {af : Array Edge}
    (hr : l.drop n = ⟨some d, .pick (.tmp z) (.const (.bool true)) y, ty, pos, af, none⟩ :: rest) (hs : segOk env g false (l.take n) = true) (hgz : (ops[g]?).bind (·.dst) = some z) (hz : env.lookup z = some (Bl b)) (hd : d < nt)
    (h : ∃ v : Bool, (b = false → JL c ops (Exit.then (SegQ c env H y v) Q) (l.take n) env H) ∧ JL c ops Q rest ((d, Bl (b || v)) :: env) H) : JL c ops Q l env H :=
  let ⟨v, h1, h2⟩ := h
  jl_seg (y := y) (v := v) (r := b || v) hr hs hgz hz hd h1 (fun a w _ hy => by
    cases b with
    | true => rfl
    | false => rw [if_neg (by simp), Bool.false_or]; exact hy rfl) h2
/-- How such a part ends. -/
theorem jq_seg {env1 : Env} {H1 : List Ch} {y : Operand} {v : Bool} (k : Nat) (he : env1.drop k = env) (hk : ((env1.take k).all fun p => (env.lookup p.1).isNone) = true) (hy : env1.ev y = some (Bl v)) (hp : H1.Perm H) :
    JQ c (Exit.then (SegQ c env H y v) Q) .normal env1 H1 := by
  intro a w hst
  have hst1 : St c env1 H a w := hst.perm hp
  refine ⟨⟨hst.size, hst.defers, fun t s ht => hst1.slots t s ?_, hst1.heap⟩, ev_val hst hy⟩
  rw [← List.take_append_drop k env1, he]
  have : ∀ (l : Env), (l.all fun p => (env.lookup p.1).isNone) = true → List.lookup t (l ++ env) = some s := by
    intro l
    induction l with
    | nil => intro _; exact ht
    | cons p l ih =>
      intro h
      obtain ⟨d, u⟩ := p
      simp only [List.all_cons, Bool.and_eq_true] at h
      rw [List.cons_append, List.lookup_cons]
      have hne : (t == d) = false := by
        rw [beq_eq_false_iff_ne]
        intro h1
        subst h1
        rw [ht] at h
        simp at h
      rw [hne]
      exact ih h.2
  exact this _ hk
/-- The same value, said otherwise. -/
theorem st_same {a : Act} {w : World} {j : Nat} {u u' : S} (h : St c env H a w) (hl : env.lookup j = some u) (he : u = u') : St c ((j, u') :: env) H a w := by
  subst he
  refine ⟨h.size, h.defers, fun t s ht => ?_, h.heap⟩
  rcases lookup_cons ht with ⟨rfl, rfl⟩ | ⟨_, ht⟩
  · exact h.slots _ _ hl
  · exact h.slots t s ht
theorem jq_bl {e : Exit} (j : Nat) {b b' : Bool} (hl : env.lookup j = some (Bl b)) (he : b = b') (h : JQ c Q e ((j, Bl b') :: env) H) : JQ c Q e env H := fun a w hs => h a w (st_same hs hl (by rw [he]))
end
end Go.Vc
end

section
namespace Go.Proofs.YtlniadfidfmckaaGreatDoor
open Go.Vc
attribute [local irreducible] JL JC JQ OpWp Con ConN
attribute [local irreducible] byteAt runLen isL isD isName hasW
set_option maxHeartbeats 4000000

def nameB (s : ByteArray) : Bool := isName s && !hasW s
def smallB (n : Int) : Bool := decide (-2147483648 < n) && decide (n < 2147483648)
def plainB (n : Int) : Bool := decide (0 ≤ n) && decide (n < 2147483648)
/-- Whether an expression has its shape, as far as it is looked at. -/
def shpF : Nat → T → Bool
  | 0, _ => true
  | F + 1, t => match t with
    | .nu n => smallB n
    | .nm s => nameB s
    | .ix s x => nameB s && shpF F x
    | .bn o a b => decide (1 ≤ o) && decide (o ≤ 14) && shpF F a && shpF F b
def oneB : List T → Bool
  | [x] => shpF 20 x
  | _ => false
def okOne (rec : List Sm → Bool) (s : Sm) : Bool :=
  if s.kind = 1 then nameB s.name && decide (s.index.length = 0) && oneB s.value && decide (s.max = 0) && decide (s.label = 0) && decide (s.thn.length = 0) && decide (s.els.length = 0)
  else if s.kind = 2 then nameB s.name && oneB s.index && oneB s.value && decide (s.max = 0) && decide (s.label = 0) && decide (s.thn.length = 0) && decide (s.els.length = 0)
  else if s.kind = 3 then decide (s.name = ⟨#[]⟩) && decide (s.index.length = 0) && oneB s.value && decide (s.max = 0) && plainB s.label && rec s.thn && rec s.els
  else if s.kind = 4 then decide (s.name = ⟨#[]⟩) && decide (s.index.length = 0) && oneB s.value && plainB s.max && plainB s.label && rec s.thn && decide (s.els.length = 0)
  else if s.kind = 5 then nameB s.name && decide (s.index.length = 0) && decide (s.value.length = 0) && decide (s.max = 0) && decide (s.label = 0) && rec s.thn && decide (s.els.length = 0)
  else false
def okSs : Nat → List Sm → Bool
  | 0, _ => true
  | F + 1, l => l.all (okOne (okSs F))
end Go.Proofs.YtlniadfidfmckaaGreatDoor
end
