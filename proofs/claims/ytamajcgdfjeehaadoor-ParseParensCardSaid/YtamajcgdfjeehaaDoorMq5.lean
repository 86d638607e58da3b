/- What is proved: ParseParens of the package timeboundlaw03 returns true for all its arguments, and its arguments read as before. The card ties the listed tables (the keywords, the signs, the operators of the lines of the grammar and of comparisons) to the text of the program. -/
import Derived.Test.YtamajcgdfjeehaaDoorMq4
import Derived.KernelRfl
import Derived.Lib.AppendStr
import Derived.Test.YtamajcgdfjeehaaDoorCards
import Derived.Test.YtamajcgdfjeehaaDoorTie
import Derived.SliceStrings
import Derived.WalkKit
import Derived.ProofKit
import Derived.OpenShut
import Derived.LaidMore
import Derived.Stop.Joined
import Derived.Stop.LaidErr
import Derived.Deep.DeepHandedRow
import Derived.Lib.LaidTab
import Derived.Lib.SmallJoins
import Derived.Carry
import Derived.Deep.DeepWitnessRowRef
section
namespace Go.Proofs.YtamajcgdfjeehaaDoor
open Go.Vc
attribute [local irreducible] JL JC JQ OpWp Con ConN Pan ConE OpPan hasW idxW isA isNum isNm numAt txtAt lineAt opAt lx lpx sx sxp
set_option maxHeartbeats 4000000

section
variable {l : List Tok} {fr : Bool} (hl : l.length ≤ 1000000)
include hl
end
end Go.Proofs.YtamajcgdfjeehaaDoor
end

section
namespace Go.Proofs.YtamajcgdfjeehaaDoor
open Go.Vc
attribute [local irreducible] JL JC JQ OpWp Con ConN Pan ConE OpPan hasW idxW isA isNum isNm numAt txtAt lineAt opAt lx lpx sx sxp
set_option maxHeartbeats 8000000

section
variable {l : List Tok} {fr : Bool} (hl : l.length ≤ 1000000)
include hl
end
end Go.Proofs.YtamajcgdfjeehaaDoor
end

section
namespace Go.Proofs.YtamajcgdfjeehaaDoor
open Go.Vc
attribute [local irreducible] JL JC JQ OpWp Con ConN Pan ConE OpPan HP HT HOk hasW idxW isA isNum isNm numAt txtAt lineAt opAt lx lpx sx sxp
set_option maxHeartbeats 4000000

/-- What Expr answers. -/
def exF : Option (T × Nat) → Option T × Int × Int
  | none => (none, 0, 1)
  | some (t, n) => if 8 < t.dep then (none, 0, 4) else (some t, n, 0)
def ERow : Option T → List C
  | none => Z5
  | some t => t.row'
def exprL (l : List Tok) : Option T × Int × Int := exF (lx l (5 * l.length + 4) 0 0)

theorem Expr_c (l : List Tok) (hl : l.length ≤ 1000000) : Con Tryd.prog 10 [.cell (.list (l.map Tok.row))] [] (fun K => K (.tup [.row (ERow (exprL l).1), In .i64 (exprL l).2.1, In .i64 (exprL l).2.2]) []) := by
  have hall := fun b => (long_all hl (5 * l.length + 4)).2.1 b 0 0 (Nat.zero_le _) (Nat.zero_le _) (by unfold need; omega)
  refine con_intro Tryd.func10 rfl rfl (Nat.le_of_ble_eq_true rfl) (fun c hc => ?_)
  cases hr : lx l (5 * l.length + 4) 0 0 with
  | none =>
    have e : exprL l = (none, 0, 1) := by unfold exprL; rw [hr]; rfl
    rw [hr] at hall
    refine R_ (o_ r_ (bl_ r_ r_ (fun bl => E_ r_ (E_ r_ (T_ (R_ (M_ r_ (o_ r_ (bu_ r_ r_ r_ r_ r_ (o_ r_ (ci_ r_ (fun bx => o_ r_ (bt_ [0] rfl rfl (hall _) (fun pp hpp => o_ r_ (bl_ r_ r_ (fun bl => S_ 0 r_ (T_ (B_ (R_ (F_ r_ ?_))))))))))))))))))))
    exact L_ 0 r_ (o_ r_ (cd_ r_ (E_ r_ (T_ (aq_ r_ r_ (R_ (o_ r_ (bu_ r_ r_ r_ r_ r_ (S_ 2 r_ (E_ r_ (E_ r_ (T_ (ar_ (az_ (aw_ (jq_retRow2 rfl rfl rfl rfl rfl rfl 0 rfl (fun K h => by rw [e] at h; exact h) sub_end))))))))))))))))
  | some tn =>
    obtain ⟨t, n⟩ := tn
    rw [hr] at hall
    have hD := Depth_c 8 t (by omega)
    rw [dl_eq] at hD
    by_cases hd : 8 < t.dep
    · have e : exprL l = (none, 0, 4) := by unfold exprL; rw [hr]; exact if_pos hd
      have hd' : ((min t.dep (8 + 1) : Nat) : Int) > 8 := by omega
      refine R_ (o_ r_ (bl_ r_ r_ (fun bl => E_ r_ (E_ r_ (T_ (R_ (M_ r_ (o_ r_ (bu_ r_ r_ r_ r_ r_ (o_ r_ (ci_ r_ (fun bx => o_ r_ (bt_ [0] rfl rfl (hall _) (fun pp hpp => o_ r_ (bl_ r_ r_ (fun bl => S_ 0 r_ (T_ (B_ (R_ (F_ r_ ?_))))))))))))))))))))
      refine L_ 0 r_ ?_; refine o_ r_ (cd_ r_ ?_); refine E_ r_ ?_; refine T_ ?_; refine ap_ r_ r_ ?_; refine R_ ?_; refine F_ r_ ?_; refine o_ r_ (cp_ 0 r_ r_ r_ r_ r_ ?_); refine o_ r_ (bm_ r_ (hD) ?_); refine o_ r_ (bz_ r_ r_ ?_); refine E_ r_ ?_; refine T_ ?_; refine aq_ r_ u_ ?_; refine R_ ?_; refine o_ r_ (bu_ r_ r_ r_ r_ r_ ?_); refine S_ 2 r_ ?_
      exact E_ r_ (E_ r_ (T_ (ar_ (az_ (aw_ (jq_retRow2 rfl rfl rfl rfl rfl rfl 0 rfl (fun K h => by rw [e] at h; exact h) sub_end))))))
    · have e : exprL l = (some t, (n : Int), 0) := by unfold exprL; rw [hr]; exact if_neg hd
      have hd' : ¬ ((min t.dep (8 + 1) : Nat) : Int) > 8 := by omega
      refine R_ (o_ r_ (bl_ r_ r_ (fun bl => E_ r_ (E_ r_ (T_ (R_ (M_ r_ (o_ r_ (bu_ r_ r_ r_ r_ r_ (o_ r_ (ci_ r_ (fun bx => o_ r_ (bt_ [0] rfl rfl (hall _) (fun pp hpp => o_ r_ (bl_ r_ r_ (fun bl => S_ 0 r_ (T_ (B_ (R_ (F_ r_ ?_))))))))))))))))))))
      refine L_ 0 r_ ?_; refine o_ r_ (cd_ r_ ?_); refine E_ r_ ?_; refine T_ ?_; refine ap_ r_ r_ ?_; refine R_ ?_; refine F_ r_ ?_; refine o_ r_ (cp_ 0 r_ r_ r_ r_ r_ ?_); refine o_ r_ (bm_ r_ (hD) ?_); refine o_ r_ (bz_ r_ r_ ?_); refine E_ r_ ?_; refine T_ ?_; refine ap_ r_ w_ ?_; refine as_ ?_; refine ay_ ?_; refine al_ ?_
      refine am_ (jc_hp1 5 (n := 7) rfl 0 k_ rfl (fun cs1 hcs1 => ?_))
      obtain ⟨u10, u11, u12, u13, u14, u15, u16, rfl⟩ := len7 hcs1
      refine df_ (i := 0) rfl k_ k_ k_ b_ (by (repeat (first | refine pani_then ?_ | refine pani_block ?_)); exact pani_body) (dl_ rfl rfl rfl b_) ?_
      refine df_ (i := 1) rfl k_ k_ k_ b_ (by (repeat (first | refine pani_then ?_ | refine pani_block ?_)); exact pani_body) (hok_loadN 0 rfl rfl rfl mem0 rfl rfl) ?_
      refine df_ (i := 2) rfl k_ k_ k_ b_ (by (repeat (first | refine pani_then ?_ | refine pani_block ?_)); exact pani_body) (dl_ rfl rfl rfl b_) ?_
      refine df_ (i := 3) rfl k_ k_ k_ b_ (by (repeat (first | refine pani_then ?_ | refine pani_block ?_)); exact pani_body) (dm_ 0 rfl rfl rfl mem0 rfl) ?_
      refine hp_exact 0 rfl mem0 (dh_ (i := 4) r_ k_ (bk_ 2 r_ r_ r_ r_ r_ r_ ⟨?_, ?_⟩))
      exact keep1 1 rfl
      exact hp_tail (di_ (i := 5) rfl k_ b_ (by decide) (be_ rfl (di_ (i := 6) rfl k_ b_ (by decide) (be_ rfl (ht_done k_ (al_ (ar_ (jq_retRow2 rfl rfl rfl rfl rfl rfl 0 rfl (fun K h => by rw [e] at h; exact h) sub_end))))))))
end Go.Proofs.YtamajcgdfjeehaaDoor
end

section
namespace Go.Proofs.YtamajcgdfjeehaaDoor
open Go.Vc
attribute [local irreducible] JL JC JQ OpWp Con ConN Pan ConE OpPan HP HT HOk hasW idxW isA isNum isNm numAt txtAt lineAt opAt lx lpx sx sxp
set_option maxHeartbeats 4000000

abbrev Brow (n : Int) : List C := [.val (.int .u8 n)]
theorem SameAll_c (A : List T) (hS : ∀ (i : Nat) (h : i < A.length), Con Tryd.prog 13 [.row A[i].row', .row A[i].row'] [] (fun K => K (Bl true) [])) : Con Tryd.prog 30 [.cell (.list (A.map T.row)), .cell (.list (A.map T.row))] [] (fun K => K (Bl true) []) := by
  have eL : (A.map T.row).length = A.length := List.length_map _
  refine con_intro Tryd.func30 rfl rfl (Nat.le_of_ble_eq_true rfl) (fun c hc => ?_)
  have hne : ¬ ¬ ((A.map T.row).length : Int) = ((A.map T.row).length : Int) := fun h => h rfl
  refine R_ (E_ r_ (T_ (am_ (R_ (M_ r_ (o_ r_ (br_ r_ (fun hlen => M_ r_ (o_ r_ (br_ r_ (fun hlen => o_ r_ (bx_ r_ r_ (T_ (ap_ r_ w_ (as_ (al_ (am_ (R_ ?_))))))))))))))))))
  refine E_ r_ (T_ (au_ (jc_loopS [] (fun k : Nat => k ≤ A.length) (fun k => [(0, .cell (.list (A.map T.row))), (1, .cell (.list (A.map T.row))), (5, In .i64 (k : Int))]) (fun _ => []) (fun k => A.length - k) 0 (Nat.zero_le _) ?_ ?_ ?_)))
  · exact sub_end
  · (repeat (first | exact True.intro | refine ⟨rfl, ?_⟩))
  · intro k hk
    refine jc_reset [(0, .cell (.list (A.map T.row))), (1, .cell (.list (A.map T.row))), (5, In .i64 (k : Int))] [] ?_ ⟨[], [], rfl⟩ ?_
    · (repeat (first | exact True.intro | refine ⟨rfl, ?_⟩))
    by_cases hlt : k < A.length
    · have hC := hS k hlt
      refine am_ (R_ (M_ r_ (M_ r_ (o_ r_ (br_ r_ (fun hlen => o_ r_ (bw_ r_ r_ (T_ (aq_ r_ t_ (as_ (al_ (B_ (am_ (ao_ r_ r_ k_ k_ (yM_ r_ (yM_ r_ (aa_ (fun c => cc_ r_ r_ g_ (T.row_eq _) r_ b_ p_) ?_)))))))))))))))))
      refine aa_ (fun c => cr_ r_ r_ r_ p_) (yM_ r_ (yM_ r_ (aa_ (fun c => cc_ r_ r_ g_ (T.row_eq _) r_ b_ p_) (aa_ (fun c => cr_ r_ r_ r_ p_) (aa_ (fun c => bm_ r_ (hC) p_) (aa_ (fun c => cd_ r_ p_) (ae_ (al_ (ap_ r_ r_ (as_ (ay_ (al_ (an_ (M_ r_ (o_ r_ (bj_ r_ r_ g_ ?_))))))))))))))))
      refine E_ r_ (ak_ (jq_againS (k + 1) g_ g_ ?_ ?_))
      · exact sub_end
      · (repeat (first | exact True.intro | refine ⟨rfl, ?_⟩))
    · refine am_ (R_ (M_ r_ (M_ r_ (o_ r_ (br_ r_ (fun hlen => o_ r_ (bw_ r_ r_ (T_ (ap_ r_ v_ (av_ (ax_ (ax_ (ba_ (al_ (R_ (E_ r_ (T_ ?_)))))))))))))))))
      refine ar_ (jq_ret1 rfl rfl [] rfl (fun K h => h))
theorem SameG_c (k n o : Int) (s : ByteArray) (A : List T) (hA : Con Tryd.prog 30 [.cell (.list (A.map T.row)), .cell (.list (A.map T.row))] [] (fun K => K (Bl true) [])) :
    Con Tryd.prog 13 [.row [.val (.int .i64 k), .val (.int .i64 n), .val (.string s), .val (.int .i64 o), .list (A.map T.row)], .row [.val (.int .i64 k), .val (.int .i64 n), .val (.string s), .val (.int .i64 o), .list (A.map T.row)]] [] (fun K => K (Bl true) []) := by
  have h1 : ¬ ¬ k = k := fun h => h rfl
  have h2 : ¬ ¬ n = n := fun h => h rfl
  have h3 : ¬ ¬ s = s := fun h => h rfl
  have h4 : ¬ ¬ o = o := fun h => h rfl
  refine con_intro Tryd.func13 rfl rfl (Nat.le_of_ble_eq_true rfl) (fun c hc => R_ (o_ r_ (ci_ r_ (fun bx => o_ r_ (ci_ r_ (fun bx => E_ r_ (T_ (am_ (R_ (F_ r_ (L_ 1 r_ (F_ r_ (L_ 0 r_ (o_ r_ (bx_ r_ r_ (M_ r_ (ah_ r_ v_ b_ (bf_ r_ r_ r_ b_ (ah_ r_ v_ b_ (bg_ 1 r_ r_ r_ r_ ?_))))))))))))))))))))
  refine ah_ r_ v_ b_ (bf_ r_ r_ r_ b_ (ah_ r_ v_ b_ (bg_ 0 r_ r_ r_ r_ (ah_ r_ v_ b_ (bx_ r_ r_ (o_ r_ (bv_ r_ w_ r_ (M_ r_ (ah_ r_ v_ b_ (bf_ r_ r_ r_ b_ (ah_ r_ v_ b_ (bg_ 1 r_ r_ r_ r_ (ah_ r_ v_ b_ (bf_ r_ r_ r_ b_ (ah_ r_ v_ b_ (bg_ 0 r_ r_ r_ r_ (ah_ r_ v_ b_ (ct_ r_ r_ (o_ r_ (bv_ r_ w_ r_ (M_ r_ (ah_ r_ v_ b_ (bf_ r_ r_ r_ b_ (ah_ r_ v_ b_ (bg_ 1 r_ r_ r_ r_ ?_)))))))))))))))))))))))))
  refine ah_ r_ v_ b_ (bf_ r_ r_ r_ b_ (ah_ r_ v_ b_ (bg_ 0 r_ r_ r_ r_ (ah_ r_ v_ b_ (bx_ r_ r_ (o_ r_ (bv_ r_ w_ r_ (T_ (ap_ r_ w_ (as_ (al_ (R_ (F_ r_ (L_ 1 r_ (F_ r_ (L_ 0 r_ (o_ r_ (bm_ r_ (hA) (E_ r_ (T_ ?_))))))))))))))))))))
  refine ar_ (jq_ret1 rfl rfl [] rfl (fun K h => h))
theorem SameT_c : ∀ t : T, Con Tryd.prog 13 [.row t.row', .row t.row'] [] (fun K => K (Bl true) [])
  | .nu n => SameG_c 1 n 0 ⟨#[]⟩ [] (SameAll_c [] (fun i h => absurd h (by simp)))
  | .nm s => SameG_c 2 0 0 s [] (SameAll_c [] (fun i h => absurd h (by simp)))
  | .ix s t => SameG_c 3 0 0 s [t] (SameAll_c [t] (fun i h => by
      obtain rfl : i = 0 := by simpa using h
      exact SameT_c t))
  | .bn o a b => SameG_c 4 0 o ⟨#[]⟩ [a, b] (SameAll_c [a, b] (fun i h => by
      rcases (show i = 0 ∨ i = 1 by simp at h; omega) with rfl | rfl
      · exact SameT_c a
      · exact SameT_c b))
end Go.Proofs.YtamajcgdfjeehaaDoor
end

section
namespace Go.Proofs.YtamajcgdfjeehaaDoor
open Go.Vc
set_option maxHeartbeats 4000000

theorem scanGo_tok {s : ByteArray} {k : Nat} {line : Int} {out : List Tok} {t : Int × Int × ByteArray} {n : Nat} (hk : k < s.size) (h1 : ¬ byteAt s k = 10) (h2 : ¬ (byteAt s k = 32 ∨ byteAt s k = 9)) (hn : nextT (s.extract k s.size) = (t, n)) (h0 : ¬ n = 0) :
    scanGo s k line out = scanGo s (k + n) line (out ++ [⟨t.1, t.2.1, line, t.2.2⟩]) := by
  rw [scanGo, dif_pos hk, if_neg h1, if_neg h2, hn]; exact dif_neg h0
theorem scanGo_sp {s : ByteArray} {k : Nat} {line : Int} {out : List Tok} (hk : k < s.size) (h1 : ¬ byteAt s k = 10) (h2 : byteAt s k = 32 ∨ byteAt s k = 9) : scanGo s k line out = scanGo s (k + 1) line out := by
  rw [scanGo, dif_pos hk, if_neg h1, if_pos h2]
theorem scanGo_end {s : ByteArray} {k : Nat} {line : Int} {out : List Tok} (hk : ¬ k < s.size) : scanGo s k line out = (out, 0, 0) := by rw [scanGo, dif_neg hk]
def exT : ByteArray := ⟨#[97, 32, 45, 32, 98, 32, 45, 32, 99]⟩
def exL : List Tok := [⟨1, 0, 1, ⟨#[97]⟩⟩, ⟨3, 0, 1, ⟨#[45]⟩⟩, ⟨1, 0, 1, ⟨#[98]⟩⟩, ⟨3, 0, 1, ⟨#[45]⟩⟩, ⟨1, 0, 1, ⟨#[99]⟩⟩]
theorem ex1 : nextT (exT.extract 0 exT.size) = ((1, 0, ⟨#[97]⟩), 1) := by decide +kernel
theorem ex2 : nextT (exT.extract 2 exT.size) = ((3, 0, ⟨#[45]⟩), 1) := by decide +kernel
theorem ex3 : nextT (exT.extract 4 exT.size) = ((1, 0, ⟨#[98]⟩), 1) := by decide +kernel
theorem ex4 : nextT (exT.extract 6 exT.size) = ((3, 0, ⟨#[45]⟩), 1) := by decide +kernel
theorem ex5 : nextT (exT.extract 8 exT.size) = ((1, 0, ⟨#[99]⟩), 1) := by decide +kernel
theorem ex_scan : scan exT = (exL, 0, 0) := by
  unfold scan
  rw [if_neg (by decide +kernel), scanGo_tok (by decide) (by decide) (by decide) ex1 (by decide), scanGo_sp (by decide) (by decide) (by decide), scanGo_tok (by decide) (by decide) (by decide) ex2 (by decide), scanGo_sp (by decide) (by decide) (by decide), scanGo_tok (by decide) (by decide) (by decide) ex3 (by decide), scanGo_sp (by decide) (by decide) (by decide), scanGo_tok (by decide) (by decide) (by decide) ex4 (by decide), scanGo_sp (by decide) (by decide) (by decide), scanGo_tok (by decide) (by decide) (by decide) ex5 (by decide), scanGo_end (by decide)]
  rfl
theorem ex_expr : exprL exL = (some (.bn 2 (.bn 2 (.nm ⟨#[97]⟩) (.nm ⟨#[98]⟩)) (.nm ⟨#[99]⟩)), 5, 0) := by kernel_rfl
attribute [local irreducible] JL JC JQ OpWp Con ConN Pan ConE OpPan HP HT HOk hasW idxW isA isNum isNm numAt txtAt lineAt opAt lx lpx sx sxp scan exprL
theorem awake_c : Con Tryd.prog 9 [] [] (fun K => K (Bl true) []) := by
  have hS := rScan_c exT
  rw [ex_scan] at hS
  have hE := Expr_c exL (by decide)
  rw [ex_expr] at hE
  refine con_intro Tryd.func9 rfl rfl (Nat.le_of_ble_eq_true rfl) (fun c hc => R_ (E_ r_ (T_ (R_ (o_ r_ (bm_ r_ (hS) (M_ r_ (X_ r_ (X_ r_ (X_ r_ (E_ r_ (E_ r_ (E_ r_ (T_ (R_ (M_ r_ ?_))))))))))))))))
  refine o_ r_ (bm_ r_ (hE) (M_ r_ (X_ r_ (X_ r_ (X_ r_ (o_ r_ (bl_ r_ r_ (fun bl => S_ 0 r_ (E_ r_ (E_ r_ (T_ (R_ (M_ r_ (o_ r_ (bn_ r_ r_ (M_ r_ (ah_ r_ r_ b_ (bd_ r_ (ah_ r_ r_ b_ (bn_ r_ r_ ?_))))))))))))))))))))
  refine o_ r_ (bp_ r_ x_ r_ (M_ r_ (ah_ r_ r_ b_ (bd_ r_ (ah_ r_ r_ b_ (bn_ r_ r_ (o_ r_ (bp_ r_ x_ r_ (M_ r_ (ah_ r_ r_ b_ (bf_ r_ r_ r_ b_ (ah_ r_ r_ b_ (bg_ 0 r_ r_ r_ r_ (ah_ r_ r_ b_ (bn_ r_ r_ (o_ r_ (bp_ r_ x_ r_ (M_ r_ (ah_ r_ r_ b_ (bf_ r_ r_ r_ b_ (ah_ r_ r_ b_ (bg_ 0 r_ r_ r_ r_ (ah_ r_ r_ b_ (br_ r_ (fun hlen => ah_ r_ r_ b_ (bn_ r_ r_ (o_ r_ (bp_ r_ x_ r_ ?_))))))))))))))))))))))))))))
  refine M_ r_ (ah_ r_ r_ b_ (bf_ r_ r_ r_ b_ (ah_ r_ r_ b_ (bg_ 0 r_ r_ r_ r_ (ah_ r_ r_ b_ (ow_indexAddr r_ r_ g_ r_ r_ b_ (ah_ r_ r_ b_ (cf_ r_ r_ r_ b_ r_ b_ (ah_ r_ r_ b_ (cb_ r_ r_ (ah_ r_ r_ b_ (bn_ r_ r_ (o_ r_ (bp_ r_ x_ r_ (M_ r_ (ah_ r_ r_ b_ (bf_ r_ r_ r_ b_ (ah_ r_ r_ b_ (bg_ 0 r_ r_ r_ r_ (ah_ r_ r_ b_ (ow_indexAddr r_ r_ g_ r_ r_ b_ (ah_ r_ r_ b_ (cf_ r_ r_ r_ b_ r_ b_ ?_)))))))))))))))))))))))
  refine ah_ r_ r_ b_ (cb_ r_ r_ (ah_ r_ r_ b_ (cs_ r_ r_ (o_ r_ (bp_ r_ x_ r_ (E_ r_ (T_ (ar_ (jq_ret1 rfl rfl [] rfl (fun K h => by simpa using h))))))))))
end Go.Proofs.YtamajcgdfjeehaaDoor
end

section
namespace Go.Vc
open Go.RowKit

theorem ba_lit (l : List UInt8) : (⟨l.toArray⟩ : ByteArray).size = l.length := rfl
theorem bytesI_app (s t : ByteArray) : bytesI (s ++ t) = bytesI s ++ bytesI t := by simp [bytesI]
section
variable {P : Program} [Gl P] {nt : Nat} {c : Cx P nt} {env : Env} {H : List Ch} {K : S → List Ch → Prop}
variable {d : Option Tmp} {ty t u : TypeId} {pos : String} {af : Array Edge} {g : Option (Nat × Bool)} {x y : Operand}
end
end Go.Vc
end

section
namespace Go.Proofs.YtamajcgdfjeehaaDoor
open Go.Vc
attribute [local irreducible] JL JC JQ OpWp Con ConN Pan ConE OpPan HP HT HOk HQ
attribute [local irreducible] scan exprL exprF textT parT parTk toksT StG BlG mdS
set_option maxHeartbeats 8000000

theorem ExprText_c (t : T) (h : Fm t) : Con Tryd.prog 17 [.row t.row'] [] (fun K => K (.tup [Str (textT t), In .i64 0]) []) := by
  have hE := RExpr_c t h.1
  have e : exprF t = (textT t, 0) := by unfold exprF; rw [if_neg (by have := h.2; omega)]
  rw [e] at hE
  refine con_intro Tryd.func17 rfl rfl (Nat.le_of_ble_eq_true rfl) (fun c hc => R_ (o_ r_ (ci_ r_ (fun bx => E_ r_ (E_ r_ (T_ (R_ (A_ 0 r_ (o_ r_ (bm_ r_ (hE) (X_ r_ (X_ r_ (E_ r_ (E_ r_ (T_ (ar_ (jq_ret2 rfl rfl rfl [] rfl (fun K h => h))))))))))))))))))
theorem rowV1 {s : Sm} {x : T} (h : s.value = [x]) : s.row' = [.val (.int .i64 s.kind), .val (.string s.name), .list (s.index.map T.row), .list [x.row'], .val (.int .i64 s.max), .val (.int .i64 s.label), .list (s.thn.map Sm.row), .list (s.els.map Sm.row)] := by
  rw [← T.row_eq]
  show [_, _, _, C.list (s.value.map T.row), _, _, _, _] = _
  rw [h]
  rfl
theorem rowV0 {s : Sm} (h : s.value = []) : s.row' = [.val (.int .i64 s.kind), .val (.string s.name), .list (s.index.map T.row), .list [], .val (.int .i64 s.max), .val (.int .i64 s.label), .list (s.thn.map Sm.row), .list (s.els.map Sm.row)] := by
  show [_, _, _, C.list (s.value.map T.row), _, _, _, _] = _
  rw [h]
  rfl
theorem mdS.val {n : Nat} {s : Sm} (h : mdS n s) : (∃ x, s.value = [x] ∧ Fm x) ∨ s.value = [] := by
  cases n with
  | zero => unfold mdS at h; exact h.elim
  | succ n =>
    unfold mdS at h
    rcases h with ⟨v, x, _, hx, rfl⟩ | ⟨v, y, x, _, _, hx, rfl⟩ | ⟨x, lab, t, e, hx, _, _, _, rfl⟩ | ⟨x, mx, lab, t, hx, _, _, _, rfl⟩ | ⟨v, t, _, _, rfl⟩
    · exact .inl ⟨x, rfl, hx⟩
    · exact .inl ⟨x, rfl, hx⟩
    · exact .inl ⟨x, rfl, hx⟩
    · exact .inl ⟨x, rfl, hx⟩
    · exact .inr rfl
theorem ParseParens_c (L : List Int) (m : Int) (hL : InR L) (hm : 0 ≤ m ∧ m ≤ 255) :
    Con Tryd.prog 4 [.cell (.list (L.map Irow)), In .u8 m] [] (fun K => K (Bl true) []) := by
  have ha := awake_c
  refine con_intro Tryd.func4 rfl rfl (Nat.le_of_ble_eq_true rfl) (fun c hc => ?_)
  by_cases hLn : L.length ≤ 400
  · have hd : (!decide (L.length ≤ 400)) = false := by simp [hLn]
    refine R_ (E_ r_ (T_ (am_ (R_ (M_ r_ (o_ r_ (bm_ r_ (gFew_c _) (o_ r_ (ce_ r_ (T_ (ap_ r_ v_ (as_ (al_ (R_ (M_ r_ (o_ r_ (bt_ [] rfl rfl (gNewT_c L) (fun bd hbd => ?_))))))))))))))))))
    skip
    refine o_ r_ (bt_ [0] rfl rfl (gProgram_c hL hLn 1) (fun p hp => ?_))
    have hlen := hp.len
    have hb := hp.md
    clear hp hbd
    obtain ⟨res, sh, tasks⟩ := p
    obtain ⟨t, rfl⟩ := List.length_eq_one_iff.1 (show tasks.length = 1 from hlen)
    have hb := hb t (by simp)
    skip
    refine o_ r_ (bl_ rfl rfl (fun b5 => S_ 0 r_ (T_ (am_ (R_ (E_ r_ (T_ (au_ ?_))))))))
    have eB : (t.body.map Sm.row).length = t.body.length := List.length_map _
    refine jc_loopS (ι := Nat) [] (fun k => k ≤ t.body.length) (fun k => [(6, In .i64 (k : Int)), (5, Ptr b5), (1, In .u8 m)]) (fun _ => [.blk b5 40 [.list (res.map Wrow), .list (sh.map ShRow), .list [t.row]]]) (fun k => t.body.length - k) 0 (Nat.zero_le _) ?_ ?_ ?_
    · exact bc_ 0 r_ sub_end
    · (repeat (first | exact True.intro | refine ⟨rfl, ?_⟩))
    intro k hk
    by_cases hlt : k < t.body.length
    · have hlt2 : (k : Int) < ((t.body.map Sm.row).length : Int) := by omega
      have hs := (hb t.body[k] (List.getElem_mem hlt)).val
      refine am_ (R_ (M_ r_ (F_ r_ (L_ 0 r_ (o_ r_ (ow_indexAddr r_ r_ g_ r_ r_ b_ (o_ r_ (cf_ r_ r_ r_ b_ r_ b_ (o_ r_ (cb_ r_ r_ (o_ r_ (br_ r_ (fun hlen => o_ r_ (bw_ r_ r_ (T_ (aq_ r_ u_ (as_ (al_ (B_ (R_ ?_))))))))))))))))))))
      refine F_ r_ (L_ 0 r_ (o_ r_ (ow_indexAddr r_ r_ g_ r_ r_ b_ (o_ r_ (cf_ r_ r_ r_ b_ r_ b_ (o_ r_ (cb_ r_ r_ (M_ r_ (o_ r_ (cc_ r_ r_ g_ (Sm.row_eq _) r_ b_ (o_ r_ (cr_ r_ r_ r_ (o_ r_ (bl_ rfl rfl (fun b7 => S_ 0 r_ (T_ (am_ (am_ ?_))))))))))))))))))
      have hkk : (if h : k < t.body.length then t.body[k].value else []) = t.body[k].value := by rw [dif_pos hlt]
      generalize t.body[k] = x0 at hs hkk ⊢
      rcases hs with ⟨x, hx, fx⟩ | hx
      · rw [rowV1 hx]
        have hT := ExprText_c x fx
        have hsz : (textT x).size ≤ 750 := by
          have h1 := text_size x fx.1
          have h2 : 2 ^ x.dep ≤ 2 ^ 3 := Nat.pow_le_pow_right (by decide) fx.2
          omega
        refine an_ (F_ r_ (L_ 0 r_ (o_ r_ (br_ r_ (fun hlen => o_ r_ (bx_ r_ r_ (T_ (ap_ r_ r_ (as_ (al_ (R_ (F_ r_ (L_ 0 r_ (o_ r_ (ow_indexAddr r_ r_ g_ r_ r_ b_ (o_ r_ (cr_ r_ r_ r_ (o_ r_ (bm_ r_ (hT) (M_ r_ ?_))))))))))))))))))))
        refine X_ r_ (X_ r_ (E_ r_ (E_ r_ (T_ (am_ (R_ (E_ r_ (T_ ?_))))))))
        refine jc_cut (ι := Nat) [] (fun q => q ≤ 4) (fun q => [(8, Str (parT q (textT x))), (9, In .i64 0), (7, Ptr b7), (6, In .i64 (k : Int)), (5, Ptr b5), (1, In .u8 m)]) (fun _ => [.blk b7 52 [.val (.int .i64 x0.kind), .val (.string x0.name), .list (x0.index.map T.row), .list [x.row'], .val (.int .i64 x0.max), .val (.int .i64 x0.label), .list (x0.thn.map Sm.row), .list (x0.els.map Sm.row)], .blk b5 40 [.list (res.map Wrow), .list (sh.map ShRow), .list [t.row]]]) ?_ ?_
        · refine au_ ?_
          refine jc_loopS (ι := Nat) [] (fun q => (q : Int) ≤ m % 5) (fun q => [(10, In .i64 (q : Int)), (8, Str (parT q (textT x))), (9, In .i64 0), (7, Ptr b7), (6, In .i64 (k : Int)), (5, Ptr b5), (1, In .u8 m)]) (fun _ => [.blk b7 52 [.val (.int .i64 x0.kind), .val (.string x0.name), .list (x0.index.map T.row), .list [x.row'], .val (.int .i64 x0.max), .val (.int .i64 x0.label), .list (x0.thn.map Sm.row), .list (x0.els.map Sm.row)], .blk b5 40 [.list (res.map Wrow), .list (sh.map ShRow), .list [t.row]]]) (fun q => 5 - q) 0 (by show (0 : Int) ≤ _; omega) ?_ ?_ ?_
          · exact bc_ 0 r_ (bc_ 0 r_ sub_end)
          · rw [parT_zero]
            (repeat (first | exact True.intro | refine ⟨rfl, ?_⟩))
          intro q hq
          by_cases hq2 : (q : Int) < m % 5
          · have hps := par_size (textT x) q
            refine am_ (R_ (M_ r_ (M_ r_ (o_ r_ (ow_convI64 r_ r_ r_ g_ (o_ r_ (ow_rem64 r_ r_ g_ g_ (o_ r_ (bw_ r_ r_ (T_ (aq_ r_ u_ (as_ (al_ (B_ (an_ (M_ r_ (o_ r_ (ow_strcat rfl rfl (by simp only [ByteArray.size_append, ba_lit, List.length_cons, List.length_nil] ; omega) (o_ r_ (ow_strcat rfl rfl (by simp only [ByteArray.size_append, ba_lit, List.length_cons, List.length_nil] ; omega) ?_))))))))))))))))))))
            refine E_ r_ (ak_ (ay_ (al_ (an_ (M_ r_ (o_ r_ (bj_ r_ r_ g_ (E_ r_ (ak_ (jq_againS (q + 1) (by show ((q + 1 : Nat) : Int) ≤ _; omega) g_ ?_ ?_))))))))))
            · exact bc_ 0 r_ (bc_ 0 r_ sub_end)
            · rw [parT_succ]
              (repeat (first | exact True.intro | refine ⟨rfl, ?_⟩))
          · refine am_ (R_ (M_ r_ (M_ r_ (o_ r_ (ow_convI64 r_ r_ r_ g_ (o_ r_ (ow_rem64 r_ r_ g_ g_ (o_ r_ (bw_ r_ r_ (T_ (ap_ r_ w_ (av_ (ax_ (ax_ (ba_ (jq_cutS q g_ ?_ ?_))))))))))))))))
            · exact bc_ 0 r_ (bc_ 0 r_ sub_end)
            · (repeat (first | exact True.intro | refine ⟨rfl, ?_⟩))
        · intro q hq
          obtain ⟨l, hl1, hl2⟩ := scan_par (k := q) fx.1 (by rw [par_size]; omega)
          have hSc := rScan_c (parT q (textT x))
          rw [hl1] at hSc
          dsimp only at hSc
          have hll : l.length ≤ 100 := by
            have h1 := toks_bd x
            have h2 : 2 ^ x.dep ≤ 2 ^ 3 := Nat.pow_le_pow_right (by decide) fx.2
            have h3 := par_len (toksT x) q
            rw [← hl2, List.length_map] at h3
            omega
          have hE := Expr_c l (by omega)
          have eE : exprL l = (some x, (l.length : Int), 0) := by
            unfold exprL
            rw [lx_whole fx.1 hl2]
            exact if_neg (by have := fx.2; omega)
          rw [eE] at hE
          dsimp only [ERow] at hE
          have hS := SameT_c x
          have eL : (l.map Tok.row).length = l.length := List.length_map _
          refine R_ (M_ r_ (o_ r_ (bm_ r_ (hSc) (M_ r_ (X_ r_ (X_ r_ (X_ r_ (E_ r_ (E_ r_ (E_ r_ (T_ (R_ (M_ r_ (o_ r_ (bm_ r_ (hE) (M_ r_ (X_ r_ ?_)))))))))))))))))
          refine X_ r_ (X_ r_ (o_ r_ (bl_ rfl rfl (fun b14 => S_ 0 r_ (E_ r_ (E_ r_ (T_ (am_ (ao_ r_ r_ k_ k_ (yM_ r_ (aa_ (fun c => bx_ r_ r_ p_) (yM_ r_ (ab_ r_ r_ (fun c => bd_ r_ p_) (ab_ r_ r_ (fun c => bx_ r_ r_ p_) (aa_ (fun c => bv_ r_ r_ r_ p_) (yM_ r_ ?_))))))))))))))))
          refine ab_ r_ r_ (fun c => bd_ r_ p_) (ab_ r_ r_ (fun c => bx_ r_ r_ p_) (aa_ (fun c => bv_ r_ r_ r_ p_) (yM_ r_ (ab_ r_ r_ (fun c => bd_ r_ p_) (ab_ r_ r_ (fun c => bd_ r_ p_) (ab_ r_ r_ (fun c => br_ r_ (fun hlen => p_)) (ab_ r_ r_ (fun c => bx_ r_ r_ p_) (aa_ (fun c => bv_ r_ r_ r_ p_) (yM_ r_ (ab_ r_ v_ (fun c => bf_ r_ r_ r_ b_ p_) (ab_ r_ v_ (fun c => bg_ 1 r_ r_ r_ r_ p_) ?_)))))))))))
          refine ab_ r_ v_ (fun c => ow_indexAddr r_ r_ g_ r_ r_ b_ p_) (ab_ r_ v_ (fun c => cr_ r_ r_ r_ p_) (ab_ r_ v_ (fun c => bs_ 0 r_ r_ r_ r_ p_) (ab_ r_ v_ (fun c => bm_ r_ (hS) p_) (ab_ r_ v_ (fun c => cd_ r_ p_) (aa_ (fun c => bv_ r_ v_ r_ p_) (ae_ (al_ (ap_ r_ r_ (as_ (ay_ (al_ (an_ (M_ r_ (o_ r_ (bj_ r_ r_ g_ (E_ r_ ?_))))))))))))))))
          refine ak_ (jq_againS (k + 1) hlt g_ ?_ ?_)
          · exact bc_ 2 r_ sub_end
          · (repeat (first | exact True.intro | refine ⟨rfl, ?_⟩))
      · rw [rowV0 hx]
        refine an_ (F_ r_ (L_ 0 r_ (o_ r_ (br_ r_ (fun hlen => o_ r_ (bx_ r_ r_ (T_ (aq_ r_ r_ (av_ (ax_ (ba_ (al_ (an_ (M_ r_ (o_ r_ (bj_ r_ r_ g_ (E_ r_ (ak_ ?_))))))))))))))))))
        refine jq_againS (k + 1) hlt g_ ?_ ?_
        · exact bc_ 1 r_ sub_end
        · (repeat (first | exact True.intro | refine ⟨rfl, ?_⟩))
    · have hlt2 : ¬ (k : Int) < ((t.body.map Sm.row).length : Int) := by omega
      refine am_ (R_ (M_ r_ (F_ r_ (L_ 0 r_ (o_ r_ (ow_indexAddr r_ r_ g_ r_ r_ b_ (o_ r_ (cf_ r_ r_ r_ b_ r_ b_ (o_ r_ (cb_ r_ r_ (o_ r_ (br_ r_ (fun hlen => o_ r_ (bw_ r_ r_ (T_ (ap_ r_ w_ (av_ (ax_ (ax_ (ba_ ?_))))))))))))))))))))
      refine al_ (R_ (o_ r_ (bm_ r_ (ha) (E_ r_ (T_ (ar_ (jq_ret1 rfl rfl [] rfl (fun K h => h))))))))
  · have hd : (!decide (L.length ≤ 400)) = true := by simp [hLn]
    refine R_ (E_ r_ (T_ (am_ (R_ (M_ r_ (o_ r_ (bm_ r_ (gFew_c _) (o_ r_ (ce_ r_ (T_ (aq_ r_ u_ (R_ (o_ r_ (bm_ r_ (ha) (E_ r_ (T_ (ar_ (aw_ ?_))))))))))))))))))
    refine jq_ret1 rfl rfl [] rfl (fun K h => h)
end Go.Proofs.YtamajcgdfjeehaaDoor
end

section
namespace Go.Vc
open Go.ChangeShapes Go.WideShapes Go.ChangeAt Go.RowKit Go.Joins Go.Deep

theorem strs_inj {H : Type} : ∀ {a b : List ByteArray}, (strs a : List (DataW H)) = strs b → a = b
  | [], [], _ => rfl
  | [], _ :: _, h => by simp [strs] at h
  | _ :: _, [], h => by simp [strs] at h
  | x :: a, y :: b, h => by
    simp only [strs, List.map_cons, List.cons.injEq, DataW.lit.injEq, Lit.string.injEq] at h
    have e : x = y := by
      cases x; cases y
      simp only at h
      congr 1
      exact Array.ext' h.1
    subst e
    rw [strs_inj (H := H) (a := a) (b := b) h.2]

section
variable {H : Type} {enc : TypeId × Value → H} {P : Program}
/-- A slice of strings that reads so. -/
theorem rd_strings {W : World} {t e : TypeId} (ht : P.underlying t = some (.slice e)) (he : P.underlying e = some .string) (hc : P.cellsOf e = 1) {cs : List Value} {L : List ByteArray} {ps : List MemPlace} {base : Nat} {sp : Nat → Bool} {held : Bool} {fuel : Nat} (h0 : 0 < L.length)
    (h : DataW.trod enc P W base sp held fuel t cs = some ((.slice (strs L) [] : DataW H), ps)) : ∃ v, cs = [v] ∧ Rd1 W (fun _ => False) (.list (L.map fun s => [.val (.string s)])) v := by
  rcases open_strings ht he hc h with ⟨_, hx⟩ | ⟨a, len, cap, ss, rfl, _, hle, hcap, hz, hx, hcell, _⟩
  · cases hx
  · simp only [Prod.mk.injEq, DataW.slice.injEq] at hx
    have hL : L = ss.take len := strs_inj hx.1.1
    have hlen : L.length = len := by
      rw [hL, List.length_take]
      have : len ≤ ss.length := by rw [hz]; split <;> omega
      omega
    refine ⟨_, rfl, some a, cap, by rw [List.length_map, hlen], by rw [List.length_map, hlen]; exact hle, hcap, ?_⟩
    have hss : len ≤ ss.length := by rw [hz]; split <;> omega
    have h1 := hcell 0 (by omega)
    have hsp : a.spot = none := by simpa [Addr.add] using World.cell?_spot h1
    obtain ⟨b, off, sp⟩ := a
    simp only at hsp
    subst hsp
    refine .inr ⟨b, off, L.map Value.string, 1, rfl, id, ?_, Nat.one_pos, ?_⟩
    · intro j u hj
      rw [List.getElem?_map, Option.map_eq_some_iff] at hj
      obtain ⟨z, hz1, rfl⟩ := hj
      have hjl : j < L.length := (List.getElem?_eq_some_iff.1 hz1).1
      have := hcell j (by omega)
      rw [add_at] at this
      rw [this]
      congr 2
      rw [List.getD_eq_getElem?_getD]
      rw [hL, List.getElem?_take] at hz1
      split at hz1
      · rw [hz1]; rfl
      · cases hz1
    · clear hL hlen h0 h hx
      induction L with
      | nil => rfl
      | cons s L ih => exact ⟨[.string s], _, rfl, rfl, ⟨.string s, [], rfl, ⟨rfl, rfl⟩, rfl⟩, ih⟩
/-- An array of strings that reads so. -/
theorem cells_of_strs {w : World} {base : Nat} {sp : Nat → Bool} {held : Bool} {fuel : Nat} {t e : TypeId} {n : Nat} {cs : List Value} {L : List ByteArray} {p : List MemPlace}
    (ht : P.underlying t = some (.array n e)) (he : P.underlying e = some .string) (hce : P.cellsOf e = 1) (hct : P.cellsOf t = n)
    (h : DataW.trod enc P w base sp held fuel t cs = some ((.agg (strs L) : DataW H), p)) : cs = L.map Value.string := by
  cases fuel with
  | zero => simp [DataW.trod] at h
  | succ fuel =>
    simp only [DataW.trod, ht, hce, hct, Nat.mul_one] at h
    split at h
    · rename_i hl
      obtain ⟨xs, hm, hx⟩ := Option.map_eq_some_iff.1 h
      have hxs : xs.map (·.1) = (strs L : List (DataW H)) := by
        have := congrArg Prod.fst hx
        simpa using this
      have hxl : xs.length = n := by simpa using Lib.mapM_length hm
      have hzl : L.length = n := by
        have := congrArg List.length hxs
        simp [strs] at this
        omega
      apply List.ext_getElem?
      intro i
      by_cases hi : i < n
      · obtain ⟨b, hb, hf⟩ := Lib.mapM_at hm i i (by simp [hi])
        obtain ⟨z, hc, rfl, _⟩ := DataW.trod_string he hf
        have h1 : cs[i]? = some (.string z) := by
          have := congrArg (·[0]?) hc
          simpa [List.getElem?_take, List.getElem?_drop] using this
        have h2 : (xs.map (·.1))[i]? = some (DataW.lit (.string z.data.toList) : DataW H) := by simp [hb]
        rw [hxs] at h2
        simp only [strs, List.getElem?_map, Option.map_eq_some_iff, DataW.lit.injEq, Lit.string.injEq] at h2
        obtain ⟨z', hz', e⟩ := h2
        have e2 : z' = z := by
          cases z; cases z'
          simp only at e
          congr 1
          exact Array.ext' e
        subst e2
        simp [h1, hz']
      · rw [List.getElem?_eq_none (by omega), List.getElem?_eq_none (by simp; omega)]
    · cases h
theorem gv_of_var {W : World} {name : String} {g : Nat} {cs : Array Value} {row : List C} (hg : P.globalNamed name = some g) (hvar : W.var? P name = some cs) (hr : RdRow W (fun _ => False) row cs.toList) : GV W (fun _ => False) g row := by
  unfold World.var? at hvar
  rw [hg] at hvar
  simp only [Option.bind_some] at hvar
  split at hvar
  · rename_i cs' t f hh
    cases hvar
    exact ⟨id, _, t, f, hh, hr⟩
  · cases hvar
end

theorem rdRow_strs {W : World} {A : Nat → Prop} : ∀ L : List ByteArray, RdRow W A (L.map (fun s => .val (.string s))) (L.map Value.string)
  | [] => rfl
  | s :: L => ⟨.string s, _, rfl, ⟨rfl, rfl⟩, rdRow_strs L⟩

section
variable {H : Type} {enc : TypeId × Value → H} {P : Program}
/-- An array of two slices of strings that reads so. -/
theorem rd_two {W : World} {t ts e : TypeId} (ht : P.underlying t = some (.array 2 ts)) (hs : P.underlying ts = some (.slice e)) (he : P.underlying e = some .string) (hc : P.cellsOf e = 1) (hcs : P.cellsOf ts = 1) (hct : P.cellsOf t = 2) {cs : List Value} {A B : List ByteArray} {p : List MemPlace} {base : Nat} {sp : Nat → Bool} {held : Bool} {fuel : Nat} (hA : 0 < A.length) (hB : 0 < B.length)
    (h : DataW.trod enc P W base sp held fuel t cs = some ((.agg [.slice (strs A) [], .slice (strs B) []] : DataW H), p)) : ∃ u v, cs = [u, v] ∧ Rd1 W (fun _ => False) (.list (A.map fun s => [.val (.string s)])) u ∧ Rd1 W (fun _ => False) (.list (B.map fun s => [.val (.string s)])) v := by
  cases fuel with
  | zero => simp [DataW.trod] at h
  | succ fuel =>
    simp only [DataW.trod, ht, hcs, hct, Nat.mul_one] at h
    split at h
    · rename_i hl
      obtain ⟨xs, hm, hx⟩ := Option.map_eq_some_iff.1 h
      have hxs : xs.map (·.1) = [.slice (strs A) [], .slice (strs B) []] := by
        have := congrArg Prod.fst hx
        simpa using this
      obtain ⟨c0, c1, rfl⟩ : ∃ c0 c1, cs = [c0, c1] := by
        match cs, hl with
        | [c0, c1], _ => exact ⟨c0, c1, rfl⟩
      obtain ⟨b0, hb0, hf0⟩ := Lib.mapM_at hm 0 0 (by simp)
      obtain ⟨b1, hb1, hf1⟩ := Lib.mapM_at hm 1 1 (by simp)
      have k0 : b0.1 = .slice (strs A) [] := by
        have := congrArg (·[0]?) hxs
        simpa [hb0] using this
      have k1 : b1.1 = .slice (strs B) [] := by
        have := congrArg (·[1]?) hxs
        simpa [hb1] using this
      obtain ⟨x0, q0⟩ := b0
      obtain ⟨x1, q1⟩ := b1
      simp only at k0 k1
      subst k0 k1
      obtain ⟨u, hu, ru⟩ := rd_strings hs he hc hA hf0
      obtain ⟨v, hv, rv⟩ := rd_strings hs he hc hB hf1
      refine ⟨u, v, ?_, ru, rv⟩
      simp at hu hv
      rw [hu, hv]
    · cases h

end
end Go.Vc
end

section
namespace Go.Vc
open Go.RowKit Go.ChangeShapes Go.WideShapes

section
variable {H : Type} {enc : TypeId × Value → H} {P : Program}

/-- Arguments read as they did. -/
theorem args_stay (hl : laidOutB P = true) {W W' : World} (hb : Below W.heap.size W W') : ∀ {ts : List TypeId} {vs : List Value} {ds : List (DataW H)} {ps : List MemPlace}, ts.all (fun t => P.readableRec t && decide (t < P.types.size)) = true →
    DataW.TrodAll enc P W 0 (fun _ => true) true ts vs ds ps → (∀ p ∈ ps, p.block < W.heap.size) → DataW.TrodAll enc P W' 0 (fun b => decide (b < W.heap.size)) true ts vs ds ps
  | [], vs, ds, ps, _, h, _ => by
    obtain ⟨rfl, rfl, rfl⟩ := trodAll_nil h
    rfl
  | t :: ts, vs, ds, ps, hr, h, hlt => by
    simp only [List.all_cons, Bool.and_eq_true, decide_eq_true_eq] at hr
    obtain ⟨⟨h1, h2⟩, h3⟩ := hr
    obtain ⟨v, vr, d, dr, p, q, rfl, rfl, rfl, g1, g2⟩ := trodAll_cons h
    exact ⟨p, q, Below.trod hl h1 h2 g1 hb (fun x hx => hlt x (List.mem_append.2 (.inl hx))), args_stay hl hb h3 g2 (fun x hx => hlt x (List.mem_append.2 (.inr hx))), rfl⟩

/-- What a law's row asks behind the call: true, and each argument reads as it did. -/
theorem law_post {f : Func} {s : ChangeSpec} {W W' : World} {args : Array Value} {ds : List (DataW H)} {before : List MemPlace} {bt : TypeId} (hv : s.vars = []) (hW : DataW.Whole enc P f.params.toList s.vars false W args.toList ds [] before)
    (hr : (s.fn H (ds ++ [])).results = [.lit (.bool true)]) (ha : (s.fn H (ds ++ [])).args = ds) (hg : (s.fn H (ds ++ [])).vars = []) (hrt : f.resultTypes = #[bt]) (hbt : P.underlying bt = some .bool)
    (hl : laidOutB P = true) (hrd : f.params.toList.all (fun t => P.readableRec t && decide (t < P.types.size)) = true) (hb : Below W.heap.size W W') : s.post enc P f false true false false W args (.bool true) W' := by
  have hlt := hW.lt
  have hW' := hW
  obtain ⟨p, q, hA, hV, rfl, _, _⟩ := hW'
  rw [hv] at hV
  obtain ⟨_, rfl⟩ := trodVars_none hV
  refine ⟨ds, [], p ++ [], [], p, [], hW, ?_, ?_, ?_, World.keptBut_mono (fun x hx => ⟨hx, .inr (.inl (by simpa using hx))⟩) (hb.frame (· ∈ p ++ [])), fun h => by cases h⟩
  · rw [hr, hrt]
    exact trodAll_mk1 (shut_bool hbt _)
  · rw [ha]
    exact args_stay hl hb hrd hA (fun x hx => hlt x (by simpa using hx))
  · rw [hg, hv]
    rfl

/-- A slice of integers that came in. -/
theorem rd_ints {W : World} {t e : TypeId} {k : IntKind} (ht : P.underlying t = some (.slice e)) (he : P.underlying e = some (.int k)) (hc : P.cellsOf e = 1) {v : Value} {d : DataW H} {ps : List MemPlace} (hs : ∃ a len cap, v = .slice a len cap)
    (h : DataW.Trod enc P W 0 (fun _ => true) true t v d ps) : ∃ L : List Int, Rd1 W (fun _ => False) (.list (L.map (fun n => [.val (.int k n)]))) v ∧ ∀ n ∈ L, (Lit.int k n).wf = true := by
  obtain ⟨a0, len0, cap0, rfl⟩ := hs
  obtain ⟨fuel, hf⟩ := h
  rcases open_ints ht he hc hf with ⟨hn, _⟩ | ⟨a, len, cap, zs, hcs, _, hle, hcap, hz, _, hcell, hwf⟩
  · simp only [Value.cells, List.cons.injEq, Value.slice.injEq, and_true] at hn
    obtain ⟨rfl, rfl, rfl⟩ := hn
    exact ⟨[], ⟨none, 0, rfl, Nat.le_refl _, Nat.zero_le _, .inl rfl⟩, by simp⟩
  · simp only [Value.cells, List.cons.injEq, Value.slice.injEq, and_true] at hcs
    obtain ⟨rfl, rfl, rfl⟩ := hcs
    simp only [if_true] at hz
    have hlen : (zs.take len0).length = len0 := by simp; omega
    refine ⟨zs.take len0, ⟨some a, cap0, by rw [List.length_map, hlen], by rw [List.length_map, hlen]; exact hle, hcap, ?_⟩, fun n hn => hwf n (List.mem_of_mem_take hn)⟩
    by_cases h0 : len0 = 0
    · exact .inl (by rw [List.length_map, hlen]; exact h0)
    · have h1 := hcell 0 (by omega)
      have hsp : a.spot = none := by simpa [Addr.add] using World.cell?_spot h1
      obtain ⟨b, off, sp⟩ := a
      simp only at hsp
      subst hsp
      refine .inr ⟨b, off, (zs.take len0).map (Value.int k), 1, rfl, id, ?_, Nat.one_pos, ?_⟩
      · intro j u hj
        rw [List.getElem?_map, Option.map_eq_some_iff] at hj
        obtain ⟨z, hz1, rfl⟩ := hj
        rw [List.getElem?_take] at hz1
        split at hz1
        · have hjl : j < zs.length := by omega
          have := hcell j hjl
          rw [add_at] at this
          rw [this]
          congr 2
          rw [List.getD_eq_getElem?_getD, hz1]
          rfl
        · cases hz1
      · generalize zs.take len0 = L
        induction L with
        | nil => rfl
        | cons n L ih => exact ⟨[.int k n], L.map (Value.int k), rfl, rfl, ⟨_, _, rfl, ⟨rfl, rfl⟩, rfl⟩, ih⟩

/-- From a contract to a run. -/
theorem con_run [Gl P] {f : FuncId} {ss : List S} {vs : List Value} {W : World} (con : Con P f ss [] (fun K => K (Bl true) [])) (hs : SOks W (fun _ => False) ss vs) (hgl : Gl.ok P W (fun _ => False) := by exact trivial) : Calls P f vs.toArray W (fun e W' => e = .returned (.bool true) ∧ Below W.heap.size W W') := by
  refine (con vs W (fun _ => False) (fun _ h => h.elim) (by simp [hb]) (by simp [hb]) hs (by simp) hgl).mono ?_
  rintro e W' ⟨v, s, Ho, rfl, hK, hv, _, _, _, hg⟩
  obtain ⟨rfl, rfl⟩ := hK (fun s' H' => s' = Bl true ∧ H' = []) ⟨rfl, rfl⟩
  obtain ⟨rfl, _⟩ := hv
  exact ⟨rfl, hg.os, hg.tape, hg.output, hg.size, fun k hk => hg.block k hk (by simp [hb])⟩
end
end Go.Vc
end

section
namespace Go.Proofs.YtamajcgdfjeehaaDoor
open Go.ChangeShapes Go.WideShapes Go.ChangeAt Go.RowKit Go.Vc Go.Joins Go.Deep

theorem own : ownKnob Tryd.prog.godebug = none := by kernel_rfl
theorem laidOut : laidOutB Tryd.prog = true := by kernel_rfl
theorem cells3 : Tryd.prog.cellsOf 3 = 1 := by kernel_rfl
theorem cellsS : Tryd.prog.cellsOf 9 = 1 := by kernel_rfl
theorem cellsLs : Tryd.prog.cellsOf 36 = 1 := by kernel_rfl
theorem wordsData_eq : (Rows.laid_timebound_tree_words : DataW Unit) = .slice (strs words) [] := by kernel_rfl
theorem signsData_eq : (Rows.laid_timebound_tree_signs : DataW Unit) = .agg (strs signL) := by kernel_rfl
theorem linesData_eq : (Rows.laid_timebound_parse_lines : DataW Unit) = .agg [.slice (strs addL) [], .slice (strs mulL) []] := by kernel_rfl
theorem cmpsData_eq : (Rows.laid_timebound_parse_comparisons : DataW Unit) = .slice (strs cmpL) [] := by kernel_rfl
theorem gWords : Tryd.prog.globalNamed "timebound/tree.words" = some 3 := by kernel_rfl
theorem gWordsType : (Tryd.prog.globals[3]?).map (·.type) = some 36 := by kernel_rfl
theorem gSigns : Tryd.prog.globalNamed "timebound/tree.signs" = some 2 := by kernel_rfl
theorem gSignsType : (Tryd.prog.globals[2]?).map (·.type) = some 154 := by kernel_rfl
theorem cellsSigns : Tryd.prog.cellsOf 154 = 14 := by kernel_rfl
theorem gLines : Tryd.prog.globalNamed "timebound/parse.lines" = some 1 := by kernel_rfl
theorem gLinesType : (Tryd.prog.globals[1]?).map (·.type) = some 133 := by kernel_rfl
theorem cellsLines : Tryd.prog.cellsOf 133 = 2 := by kernel_rfl
theorem gCmps : Tryd.prog.globalNamed "timebound/parse.comparisons" = some 0 := by kernel_rfl
theorem gCmpsType : (Tryd.prog.globals[0]?).map (·.type) = some 36 := by kernel_rfl
theorem gl_of {W : World} (h : laidMetH Tryd.prog Rows.parseParensRow.laid W) : Gl.ok Tryd.prog W (fun _ => False) := by
  have h1 : laidMet Tryd.prog Rows.parseParensRow.laid W := h
  have h2 := laidMet.tail h1
  have h3 := laidMet.tail h2
  have h4 := laidMet.tail h3
  rw [show Rows.parseParensRow.laid = [("timebound/tree.words", Rows.laid_timebound_tree_words), ("timebound/tree.signs", Rows.laid_timebound_tree_signs), ("timebound/parse.lines", Rows.laid_timebound_parse_lines), ("timebound/parse.comparisons", Rows.laid_timebound_parse_comparisons)] from rfl, wordsData_eq] at h1
  rw [signsData_eq] at h2
  rw [linesData_eq] at h3
  rw [cmpsData_eq] at h4
  refine ⟨?_, ?_, ?_, ?_⟩
  · obtain ⟨ps, ⟨g', t', cs, fuel, p, q, hg', ht', hvar, hd, _, _⟩, _⟩ := h1
    obtain rfl := Option.some.inj (gWords.symm.trans hg')
    obtain rfl := Option.some.inj (gWordsType.symm.trans ht')
    obtain ⟨v, hcs, hr⟩ := rd_strings Tryd.underlying36 Tryd.underlying9 cellsS (by decide) hd
    exact gv_of_var gWords hvar (by rw [hcs]; exact ⟨v, [], rfl, hr, rfl⟩)
  · obtain ⟨ps, ⟨g', t', cs, fuel, p, q, hg', ht', hvar, hd, _, _⟩, _⟩ := h2
    obtain rfl := Option.some.inj (gSigns.symm.trans hg')
    obtain rfl := Option.some.inj (gSignsType.symm.trans ht')
    have e := cells_of_strs Tryd.underlying154 Tryd.underlying9 cellsS cellsSigns hd
    exact gv_of_var gSigns hvar (by rw [e]; exact rdRow_strs signL)
  · obtain ⟨ps, ⟨g', t', cs, fuel, p, q, hg', ht', hvar, hd, _, _⟩, _⟩ := h3
    obtain rfl := Option.some.inj (gLines.symm.trans hg')
    obtain rfl := Option.some.inj (gLinesType.symm.trans ht')
    obtain ⟨u, v, hcs, hu, hv⟩ := rd_two Tryd.underlying133 Tryd.underlying36 Tryd.underlying9 cellsS cellsLs cellsLines (by decide) (by decide) hd
    exact gv_of_var gLines hvar (by rw [hcs]; exact ⟨u, [v], rfl, hu, v, [], rfl, hv, rfl⟩)
  · obtain ⟨ps, ⟨g', t', cs, fuel, p, q, hg', ht', hvar, hd, _, _⟩, _⟩ := h4
    obtain rfl := Option.some.inj (gCmps.symm.trans hg')
    obtain rfl := Option.some.inj (gCmpsType.symm.trans ht')
    obtain ⟨v, hcs, hr⟩ := rd_strings Tryd.underlying36 Tryd.underlying9 cellsS (by decide) hd
    exact gv_of_var gCmps hvar (by rw [hcs]; exact ⟨v, [], rfl, hr, rfl⟩)
/-- A world for the witness: as the program's start lays it. -/
noncomputable def laidWorld (os : Os) : World := World.doorLaid Tryd.prog 400 os
theorem laid_met (os : Os) (args : Array Value) : laidMet Tryd.prog Rows.parseParensRow.laid ((laidWorld os).forCall (fun _ _ => 0) ⟨#[], args, []⟩).memory :=
  laidMet_of_run' 8 (by kernel_rfl) (by kernel_rfl)
end Go.Proofs.YtamajcgdfjeehaaDoor
end

section
namespace Go.Proofs.YtamajcgdfjeehaaDoor.parseParens
open Go.ChangeShapes Go.WideShapes Go.ChangeAt Go.RowKit Go.Vc Go.Joins

set_option maxRecDepth 100000 in
theorem contract (H : Type) (enc : TypeId × Value → H) (W : World) (base : Nat) (args : Array Value) (ds gs : List (DataW H)) (before : List MemPlace)
    (hval : ∀ (j : Nat) t v, Tryd.f4.params[j]? = some t → args[j]? = some v → Value.okWide Tryd.prog W .any base t v)
    (hW : DataW.Whole enc Tryd.prog Tryd.f4.params.toList Rows.parseParensSpec.vars false W args.toList ds gs before) (hL : laidMetH Tryd.prog Rows.parseParensRow.laid W) :
    Calls Tryd.prog 4 args W fun e W' => ∃ v, e = .returned v ∧ Rows.parseParensSpec.post enc Tryd.prog Tryd.f4 false true false false W args v W' := by
  have hW' := hW
  obtain ⟨p, q, hA0, hV, rfl, hfz, hnd⟩ := hW
  have hA : DataW.TrodAll enc Tryd.prog W 0 (fun _ => true) true Tryd.f4.params.toList args.toList ds p := hA0
  rw [Tryd.params4] at hA hval
  obtain ⟨v0, vs0, d0, ds0, p0, q0, hargs, rfl, rfl, h0, r0⟩ := trodAll_cons hA
  obtain ⟨v1, vs1, d1, ds1, p1, q1, rfl, rfl, rfl, h1, r1⟩ := trodAll_cons r0
  obtain ⟨rfl, rfl, rfl⟩ := trodAll_nil r1
  obtain rfl : args = #[v0, v1] := by cases args; simp_all
  obtain ⟨rfl, rfl⟩ := trodVars_none hV
  obtain ⟨L0, hL0, hwf0⟩ := rd_ints Tryd.underlying34 Tryd.underlying3 cells3 (okWide_slice Tryd.underlying34 (hval 0 34 v0 rfl rfl)) h0
  have hn0 : ∀ n ∈ L0, -9223372036854775808 ≤ n ∧ n ≤ 9223372036854775807 := fun n hn => by simpa [Lit.wf, IntKind.min, IntKind.max, IntKind.signed, IntKind.bits] using hwf0 n hn
  obtain ⟨n1, rfl, rfl, rfl, w1⟩ := open_int Tryd.underlying5 (hval 1 5 v1 rfl rfl) h1
  have hn1 : 0 ≤ n1 ∧ n1 ≤ 255 := by simpa [Lit.wf, IntKind.min, IntKind.max, IntKind.signed, IntKind.bits] using w1
  refine (con_run (vs := [v0, .int .u8 n1]) (ParseParens_c L0 n1 hn0 hn1) ⟨_, _, rfl, hL0, _, _, rfl, ⟨rfl, rfl⟩, rfl⟩ (gl_of hL)).mono ?_
  rintro e W' ⟨rfl, hb⟩
  exact ⟨_, rfl, law_post rfl hW' rfl rfl rfl rfl Tryd.underlying4 laidOut (by kernel_rfl) hb⟩

theorem reads (os : Os) {H : Type} (enc : TypeId × Value → H) : ∃ places, DataW.whole enc Tryd.prog ((laidWorld os).forCall (fun _ _ => 0) ⟨#[], #[.slice none 0 0, .int .u8 0], []⟩).memory Tryd.f4.params.toList Rows.parseParensSpec.vars false #[Value.slice none 0 0, .int .u8 0].toList 8 = some ([.nil, .lit (.int .u8 0)], [], places) :=
  ⟨[], by kernel_rfl⟩

set_option maxRecDepth 100000 in
theorem lifted (os : Os) (started : os.Started) (H : Type) (enc : TypeId × Value → H) (F : Stop.Interp) :
    ReturnsInHanded {} Tryd.checked os 4 .any ((OpenSpec.ofChange Rows.parseParensSpec).preRow enc Tryd.prog Tryd.f4 Rows.parseParensRow.domain false Rows.parseParensRow.laid) (((OpenSpec.ofChange Rows.parseParensSpec).at F).post enc Tryd.prog Tryd.f4 false true false false) := by
  obtain ⟨places, hx⟩ := reads os enc
  refine returnsInHanded_of_row (C := Tryd.checked) (s := OpenSpec.ofChange Rows.parseParensSpec) own started (by kernel_rfl) Tryd.func4
    (witness_row_atRef (enc := enc) (C := Tryd.checked) false (laidWorld os) _ rfl (by kernel_rfl) (by kernel_rfl) (by kernel_rfl)
      (OpenSpec.preRow_of_cond 8 hx (by kernel_rfl) (fun k hk => by cases hk) (by kernel_rfl) (laid_met os _))) ?_
  intro W base args ds gs before hval hW _ _ _ hL _ _
  exact contract H enc W base args ds gs before hval hW hL

theorem said : Rows.ParseParensSaid :=
  OpenClaim.holds_of_cond 4 Tryd.f4 rfl rfl rfl rfl rfl rfl rfl ⟨rfl, rfl, rfl, rfl, rfl⟩ rfl rfl rfl rfl rfl (by kernel_rfl) Tryd.func4 (by kernel_rfl)
    (of_decide_eq_true (by kernel_rfl)) (by unfold Func.isWrapper; first | (rw [if_pos (by decide +kernel)]; kernel_rfl) | (rw [if_neg (by decide +kernel)]; exact ⟨rfl, rfl⟩))
    (fun os started H enc _ F => by rw [OpenClaim.pre_eq_preRow]; exact lifted os started H enc F)

theorem plain (f : FuncId) (fn : Func) (hf : Tryd.pinned.checked.prog.funcNamed "timebound/timeboundlaw03.ParseParens" = some f) (hfn : Tryd.pinned.checked.prog.funcs[f]? = some fn) :
    true = Tryd.pinned.checked.prog.looks [] ∧ ∀ (j : Nat) t, fn.params[j]? = some t → Tryd.pinned.checked.prog.wantsStandIn t = false := by
  obtain rfl : f = 4 := Option.some.inj ((show Tryd.prog.funcNamed "timebound/timeboundlaw03.ParseParens" = some 4 by kernel_rfl).symm.trans hf) |>.symm
  obtain rfl : fn = Tryd.f4 := (Option.some.inj (Tryd.func4.symm.trans hfn)).symm
  refine ⟨by kernel_rfl, fun j t ht => ?_⟩
  have hall : (Tryd.f4.params.toList.all fun u => !Tryd.prog.wantsStandIn u) = true := by kernel_rfl
  have hm : t ∈ Tryd.f4.params.toList := by simpa using Array.mem_of_getElem? ht
  exact (show Tryd.prog.wantsStandIn t = false by simpa using List.all_eq_true.1 hall t hm)

theorem card : Rows.ParseParensCardSaid :=
  Claim7.holds_tied_plain_at .later [] _ _ _ _ said (fun _ h => by cases h) (by kernel_rfl) (fun _ h => by cases h) parseParens_row_tie rfl ⟨rfl, rfl⟩ (by kernel_rfl) rfl plain (by kernel_rfl)
end Go.Proofs.YtamajcgdfjeehaaDoor.parseParens
end
