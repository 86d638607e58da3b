import Derived.Test.YtccojifhaoadbaaDoorTkb
namespace Go.Proofs.YtccojifhaoadbaaDoor
open Go.Vc
attribute [local irreducible] JL JC JQ OpWp Con ConN

def exT : ByteArray := ⟨#[105, 60, 61, 49, 48]⟩
def exL : List Tok := [⟨1, 0, 1, ⟨#[105]⟩⟩, ⟨3, 0, 1, ⟨#[60, 61]⟩⟩, ⟨2, 10, 1, ⟨#[]⟩⟩]
theorem ex1 : nextT (exT.extract 0 exT.size) = ((1, 0, ⟨#[105]⟩), 1) := by decide +kernel
theorem ex2 : nextT (exT.extract 1 exT.size) = ((3, 0, ⟨#[60, 61]⟩), 2) := by decide +kernel
theorem ex3 : nextT (exT.extract 3 exT.size) = ((2, 10, ⟨#[]⟩), 2) := by decide +kernel
theorem scanGo_tok {s : ByteArray} {k : Nat} {line : Int} {out : List Tok} {t : Int × Int × ByteArray} {n : Nat} (hk : k < s.size) (h1 : ¬ byteAt s k = 10) (h2 : ¬ (byteAt s k = 32 ∨ byteAt s k = 9)) (hn : nextT (s.extract k s.size) = (t, n)) (h0 : ¬ n = 0) :
    scanGo s k line out = scanGo s (k + n) line (out ++ [⟨t.1, t.2.1, line, t.2.2⟩]) := by
  rw [scanGo, dif_pos hk, if_neg h1, if_neg h2, hn, dif_neg h0]
theorem ex_scan : scan exT = (exL, 0, 0) := by
  unfold scan
  rw [if_neg (by decide), scanGo_tok (by decide) (by decide) (by decide) ex1 (by decide), scanGo_tok (by decide) (by decide) (by decide) ex2 (by decide), scanGo_tok (by decide) (by decide) (by decide) ex3 (by decide), scanGo, dif_neg (by decide)]
  rfl
theorem ex_name : isName ⟨#[97, 49]⟩ = true := by decide +kernel
theorem ex_word : wordT ⟨2, 10, 1, ⟨#[]⟩⟩ = ⟨#[49, 48]⟩ := by decide +kernel
attribute [local irreducible] nextT scan byteAt rsign runLen signLen numVal isL isD isName wordT
theorem exL_len : exL.length = 3 := rfl
theorem awake_c : Con Tryd.prog 7 [] [] (fun K => K (Bl true) []) := by
  have hS := Scan_c exT
  rw [ex_scan] at hS
  have hS : Con Tryd.prog 8 [Str exT] [] (fun K => K (.tup [.cell (.list [tokC 1 0 1 ⟨#[105]⟩, tokC 3 0 1 ⟨#[60, 61]⟩, tokC 2 10 1 ⟨#[]⟩]), In .i64 0, In .i64 0]) []) := hS
  have hN := Name_c ⟨#[97, 49]⟩
  rw [ex_name] at hN
  have hW := Word_c ⟨2, 10, 1, ⟨#[]⟩⟩
  rw [ex_word] at hW
  have hW : Con Tryd.prog 13 [.row (tokC 2 10 1 ⟨#[]⟩)] [] (fun K => K (Str ⟨#[49, 48]⟩) []) := hW
  refine con_intro Tryd.func7 rfl rfl (Nat.le_of_ble_eq_true rfl) (fun c hc => ?_)
  refine jc_seq ?_
  refine jc_region ?_
  refine jl_op ?_ (nb rfl)
  refine ow_assign rfl ?_
  refine jl_nil ?_
  refine jq_then ?_
  refine jc_seq ?_
  refine jc_region ?_
  refine jl_op ?_ (nb rfl)
  refine ow_call0 rfl (hS) ?_
  refine jl_op ?_ (nb rfl)
  refine ow_move rfl ?_
  refine jl_op ?_ (nb rfl)
  refine ow_extract rfl rfl ?_
  refine jl_op ?_ (nb rfl)
  refine ow_extract rfl rfl ?_
  refine jl_op ?_ (nb rfl)
  refine ow_extract rfl rfl ?_
  refine jl_op ?_ (nb rfl)
  refine ow_assign rfl ?_
  refine jl_op ?_ (nb rfl)
  refine ow_assign rfl ?_
  refine jl_op ?_ (nb rfl)
  refine ow_assign rfl ?_
  refine jl_nil ?_
  refine jq_then ?_
  refine jc_seq ?_
  refine jc_region ?_
  refine jl_op ?_ (nb rfl)
  refine ow_move rfl ?_
  refine jl_op ?_ (nb rfl)
  refine ow_eql rfl rfl ?_
  refine jl_op ?_ (nb rfl)
  refine ow_move rfl ?_
  refine jl_guardY rfl (by first | assumption | exact decide_eq_true rfl | exact decide_eq_true (by first | assumption | omega) | exact decide_eq_false (by first | assumption | omega) | with_reducible rfl | exact (rfl : false = !true) | exact (rfl : true = !false)) (nb rfl) ?_
  refine ow_move rfl ?_
  refine jl_guardY rfl (by first | assumption | exact decide_eq_true rfl | exact decide_eq_true (by first | assumption | omega) | exact decide_eq_false (by first | assumption | omega) | with_reducible rfl | exact (rfl : false = !true) | exact (rfl : true = !false)) (nb rfl) ?_
  refine ow_eql rfl rfl ?_
  refine jl_op ?_ (nb rfl)
  refine ow_pickT rfl (by first | assumption | exact decide_eq_true rfl | exact decide_eq_true (by first | assumption | omega) | exact decide_eq_false (by first | assumption | omega) | with_reducible rfl | exact (rfl : false = !true) | exact (rfl : true = !false)) rfl ?_
  refine jl_op ?_ (nb rfl)
  refine ow_move rfl ?_
  refine jl_guardY rfl (by first | assumption | exact decide_eq_true rfl | exact decide_eq_true (by first | assumption | omega) | exact decide_eq_false (by first | assumption | omega) | with_reducible rfl | exact (rfl : false = !true) | exact (rfl : true = !false)) (nb rfl) ?_
  refine ow_move rfl ?_
  refine jl_guardY rfl (by first | assumption | exact decide_eq_true rfl | exact decide_eq_true (by first | assumption | omega) | exact decide_eq_false (by first | assumption | omega) | with_reducible rfl | exact (rfl : false = !true) | exact (rfl : true = !false)) (nb rfl) ?_
  refine ow_len rfl (fun hlen => ?_)
  refine jl_guardY rfl (by first | assumption | exact decide_eq_true rfl | exact decide_eq_true (by first | assumption | omega) | exact decide_eq_false (by first | assumption | omega) | with_reducible rfl | exact (rfl : false = !true) | exact (rfl : true = !false)) (nb rfl) ?_
  refine ow_eql rfl rfl ?_
  refine jl_op ?_ (nb rfl)
  refine ow_pickT rfl (by first | assumption | exact decide_eq_true rfl | exact decide_eq_true (by first | assumption | omega) | exact decide_eq_false (by first | assumption | omega) | with_reducible rfl | exact (rfl : false = !true) | exact (rfl : true = !false)) rfl ?_
  refine jl_op ?_ (nb rfl)
  refine ow_move rfl ?_
  refine jl_guardY rfl (by first | assumption | exact decide_eq_true rfl | exact decide_eq_true (by first | assumption | omega) | exact decide_eq_false (by first | assumption | omega) | with_reducible rfl | exact (rfl : false = !true) | exact (rfl : true = !false)) (nb rfl) ?_
  refine ow_move rfl ?_
  refine jl_guardY rfl (by first | assumption | exact decide_eq_true rfl | exact decide_eq_true (by first | assumption | omega) | exact decide_eq_false (by first | assumption | omega) | with_reducible rfl | exact (rfl : false = !true) | exact (rfl : true = !false)) (nb rfl) ?_
  refine ow_indexAddr rfl rfl (by omega) rfl rfl (nb rfl) ?_
  refine jl_guardY rfl (by first | assumption | exact decide_eq_true rfl | exact decide_eq_true (by first | assumption | omega) | exact decide_eq_false (by first | assumption | omega) | with_reducible rfl | exact (rfl : false = !true) | exact (rfl : true = !false)) (nb rfl) ?_
  refine ow_fieldAddrPlace rfl rfl rfl (nb rfl) rfl (nb rfl) ?_
  refine jl_guardY rfl (by first | assumption | exact decide_eq_true rfl | exact decide_eq_true (by first | assumption | omega) | exact decide_eq_false (by first | assumption | omega) | with_reducible rfl | exact (rfl : false = !true) | exact (rfl : true = !false)) (nb rfl) ?_
  refine ow_loadPlace rfl rfl ?_
  refine jl_guardY rfl (by first | assumption | exact decide_eq_true rfl | exact decide_eq_true (by first | assumption | omega) | exact decide_eq_false (by first | assumption | omega) | with_reducible rfl | exact (rfl : false = !true) | exact (rfl : true = !false)) (nb rfl) ?_
  refine ow_streql rfl rfl ?_
  refine jl_op ?_ (nb rfl)
  refine ow_pickT rfl (by first | assumption | exact decide_eq_true rfl | exact decide_eq_true (by first | assumption | omega) | exact decide_eq_false (by first | assumption | omega) | with_reducible rfl | exact (rfl : false = !true) | exact (rfl : true = !false)) rfl ?_
  refine jl_op ?_ (nb rfl)
  refine ow_move rfl ?_
  refine jl_guardY rfl (by first | assumption | exact decide_eq_true rfl | exact decide_eq_true (by first | assumption | omega) | exact decide_eq_false (by first | assumption | omega) | with_reducible rfl | exact (rfl : false = !true) | exact (rfl : true = !false)) (nb rfl) ?_
  refine ow_move rfl ?_
  refine jl_guardY rfl (by first | assumption | exact decide_eq_true rfl | exact decide_eq_true (by first | assumption | omega) | exact decide_eq_false (by first | assumption | omega) | with_reducible rfl | exact (rfl : false = !true) | exact (rfl : true = !false)) (nb rfl) ?_
  refine ow_indexAddr rfl rfl (by omega) rfl rfl (nb rfl) ?_
  refine jl_guardY rfl (by first | assumption | exact decide_eq_true rfl | exact decide_eq_true (by first | assumption | omega) | exact decide_eq_false (by first | assumption | omega) | with_reducible rfl | exact (rfl : false = !true) | exact (rfl : true = !false)) (nb rfl) ?_
  refine ow_fieldAddrPlace rfl rfl rfl (nb rfl) rfl (nb rfl) ?_
  refine jl_guardY rfl (by first | assumption | exact decide_eq_true rfl | exact decide_eq_true (by first | assumption | omega) | exact decide_eq_false (by first | assumption | omega) | with_reducible rfl | exact (rfl : false = !true) | exact (rfl : true = !false)) (nb rfl) ?_
  refine ow_loadPlace rfl rfl ?_
  refine jl_guardY rfl (by first | assumption | exact decide_eq_true rfl | exact decide_eq_true (by first | assumption | omega) | exact decide_eq_false (by first | assumption | omega) | with_reducible rfl | exact (rfl : false = !true) | exact (rfl : true = !false)) (nb rfl) ?_
  refine ow_streql rfl rfl ?_
  refine jl_op ?_ (nb rfl)
  refine ow_pickT rfl (by first | assumption | exact decide_eq_true rfl | exact decide_eq_true (by first | assumption | omega) | exact decide_eq_false (by first | assumption | omega) | with_reducible rfl | exact (rfl : false = !true) | exact (rfl : true = !false)) rfl ?_
  refine jl_op ?_ (nb rfl)
  refine ow_move rfl ?_
  refine jl_guardY rfl (by first | assumption | exact decide_eq_true rfl | exact decide_eq_true (by first | assumption | omega) | exact decide_eq_false (by first | assumption | omega) | with_reducible rfl | exact (rfl : false = !true) | exact (rfl : true = !false)) (nb rfl) ?_
  refine ow_move rfl ?_
  refine jl_guardY rfl (by first | assumption | exact decide_eq_true rfl | exact decide_eq_true (by first | assumption | omega) | exact decide_eq_false (by first | assumption | omega) | with_reducible rfl | exact (rfl : false = !true) | exact (rfl : true = !false)) (nb rfl) ?_
  refine ow_indexAddr rfl rfl (by omega) rfl rfl (nb rfl) ?_
  refine jl_guardY rfl (by first | assumption | exact decide_eq_true rfl | exact decide_eq_true (by first | assumption | omega) | exact decide_eq_false (by first | assumption | omega) | with_reducible rfl | exact (rfl : false = !true) | exact (rfl : true = !false)) (nb rfl) ?_
  refine ow_fieldAddrPlace rfl rfl rfl (nb rfl) rfl (nb rfl) ?_
  refine jl_guardY rfl (by first | assumption | exact decide_eq_true rfl | exact decide_eq_true (by first | assumption | omega) | exact decide_eq_false (by first | assumption | omega) | with_reducible rfl | exact (rfl : false = !true) | exact (rfl : true = !false)) (nb rfl) ?_
  refine ow_loadPlace rfl rfl ?_
  refine jl_guardY rfl (by first | assumption | exact decide_eq_true rfl | exact decide_eq_true (by first | assumption | omega) | exact decide_eq_false (by first | assumption | omega) | with_reducible rfl | exact (rfl : false = !true) | exact (rfl : true = !false)) (nb rfl) ?_
  refine ow_eql rfl rfl ?_
  refine jl_op ?_ (nb rfl)
  refine ow_pickT rfl (by first | assumption | exact decide_eq_true rfl | exact decide_eq_true (by first | assumption | omega) | exact decide_eq_false (by first | assumption | omega) | with_reducible rfl | exact (rfl : false = !true) | exact (rfl : true = !false)) rfl ?_
  refine jl_op ?_ (nb rfl)
  refine ow_move rfl ?_
  refine jl_guardY rfl (by first | assumption | exact decide_eq_true rfl | exact decide_eq_true (by first | assumption | omega) | exact decide_eq_false (by first | assumption | omega) | with_reducible rfl | exact (rfl : false = !true) | exact (rfl : true = !false)) (nb rfl) ?_
  refine ow_call0 rfl (hN) ?_
  refine jl_op ?_ (nb rfl)
  refine ow_pickT rfl (by first | assumption | exact decide_eq_true rfl | exact decide_eq_true (by first | assumption | omega) | exact decide_eq_false (by first | assumption | omega) | with_reducible rfl | exact (rfl : false = !true) | exact (rfl : true = !false)) rfl ?_
  refine jl_op ?_ (nb rfl)
  refine ow_move rfl ?_
  refine jl_guardY rfl (by first | assumption | exact decide_eq_true rfl | exact decide_eq_true (by first | assumption | omega) | exact decide_eq_false (by first | assumption | omega) | with_reducible rfl | exact (rfl : false = !true) | exact (rfl : true = !false)) (nb rfl) ?_
  refine ow_move rfl ?_
  refine jl_guardY rfl (by first | assumption | exact decide_eq_true rfl | exact decide_eq_true (by first | assumption | omega) | exact decide_eq_false (by first | assumption | omega) | with_reducible rfl | exact (rfl : false = !true) | exact (rfl : true = !false)) (nb rfl) ?_
  refine ow_indexAddr rfl rfl (by omega) rfl rfl (nb rfl) ?_
  refine jl_guardY rfl (by first | assumption | exact decide_eq_true rfl | exact decide_eq_true (by first | assumption | omega) | exact decide_eq_false (by first | assumption | omega) | with_reducible rfl | exact (rfl : false = !true) | exact (rfl : true = !false)) (nb rfl) ?_
  refine ow_loadPlaceN rfl rfl rfl ?_
  refine jl_guardY rfl (by first | assumption | exact decide_eq_true rfl | exact decide_eq_true (by first | assumption | omega) | exact decide_eq_false (by first | assumption | omega) | with_reducible rfl | exact (rfl : false = !true) | exact (rfl : true = !false)) (nb rfl) ?_
  refine ow_call0 rfl (hW) ?_
  refine jl_guardY rfl (by first | assumption | exact decide_eq_true rfl | exact decide_eq_true (by first | assumption | omega) | exact decide_eq_false (by first | assumption | omega) | with_reducible rfl | exact (rfl : false = !true) | exact (rfl : true = !false)) (nb rfl) ?_
  refine ow_streql rfl rfl ?_
  refine jl_op ?_ (nb rfl)
  refine ow_pickT rfl (by first | assumption | exact decide_eq_true rfl | exact decide_eq_true (by first | assumption | omega) | exact decide_eq_false (by first | assumption | omega) | with_reducible rfl | exact (rfl : false = !true) | exact (rfl : true = !false)) rfl ?_
  refine jl_op ?_ (nb rfl)
  refine ow_assign rfl ?_
  refine jl_nil ?_
  refine jq_then ?_
  refine jc_ret ?_
  refine jq_ret1 rfl rfl [] rfl (fun K h => h)

theorem TokenRaw_c (s : ByteArray) (t : Tok) : Con Tryd.prog 3 [Str s, .row t.row] [] (fun K => K (Bl true) []) := by
  refine con_intro Tryd.func3 rfl rfl (Nat.le_of_ble_eq_true rfl) (fun c hc => ?_)
  refine jc_seq ?_
  refine jc_region ?_
  refine jl_op ?_ (nb rfl)
  refine ow_box rfl (fun bx => ?_)
  refine jl_op ?_ (nb rfl)
  refine ow_assign rfl ?_
  refine jl_nil ?_
  refine jq_then ?_
  refine jc_seq ?_
  refine jc_seq ?_
  refine jc_region ?_
  refine jl_op ?_ (nb rfl)
  refine ow_move rfl ?_
  refine jl_op ?_ (nb rfl)
  refine ow_lenstr rfl rfl ?_
  refine jl_op ?_ (nb rfl)
  refine ow_gtr rfl rfl ?_
  refine jl_nil ?_
  refine jq_then ?_
  refine jc_condd rfl (fun hg => ?_) (fun hg => ?_)
  · refine jc_seq ?_
    refine jc_region ?_
    refine jl_op ?_ (nb rfl)
    refine ow_call0 rfl (awake_c) ?_
    refine jl_op ?_ (nb rfl)
    refine ow_assign rfl ?_
    refine jl_nil ?_
    refine jq_then ?_
    refine jc_ret ?_
    refine jq_then_ret ?_
    refine jq_ret1 rfl rfl [] rfl (fun K h => h)
  · have hsame : Con Tryd.prog 10 [.cell (.list ((scan s).1.map Tok.row)), .cell (.list ((scan s).1.map Tok.row)), Bl true] [] (fun K => K (Bl true) []) := by
      have := Same_c (scan s).1 (scan s).1 true
      rwa [sameL_refl] at this
    have hword := Word_c t
    have hrword := rWord_c t
    refine jc_skip ?_
    refine jq_then ?_
    refine jc_seq ?_
    refine jc_region ?_
    refine jl_op ?_ (nb rfl)
    refine ow_move rfl ?_
    refine jl_op ?_ (nb rfl)
    refine ow_call0 rfl (Scan_c _) ?_
    refine jl_op ?_ (nb rfl)
    refine ow_move rfl ?_
    refine jl_op ?_ (nb rfl)
    refine ow_extract rfl rfl ?_
    refine jl_op ?_ (nb rfl)
    refine ow_extract rfl rfl ?_
    refine jl_op ?_ (nb rfl)
    refine ow_extract rfl rfl ?_
    refine jl_op ?_ (nb rfl)
    refine ow_assign rfl ?_
    refine jl_op ?_ (nb rfl)
    refine ow_assign rfl ?_
    refine jl_op ?_ (nb rfl)
    refine ow_assign rfl ?_
    refine jl_nil ?_
    refine jq_then ?_
    refine jc_seq ?_
    refine jc_region ?_
    refine jl_op ?_ (nb rfl)
    refine ow_move rfl ?_
    refine jl_op ?_ (nb rfl)
    refine ow_call0 rfl (rScan_c _) ?_
    refine jl_op ?_ (nb rfl)
    refine ow_move rfl ?_
    refine jl_op ?_ (nb rfl)
    refine ow_extract rfl rfl ?_
    refine jl_op ?_ (nb rfl)
    refine ow_extract rfl rfl ?_
    refine jl_op ?_ (nb rfl)
    refine ow_extract rfl rfl ?_
    refine jl_op ?_ (nb rfl)
    refine ow_assign rfl ?_
    refine jl_op ?_ (nb rfl)
    refine ow_assign rfl ?_
    refine jl_op ?_ (nb rfl)
    refine ow_assign rfl ?_
    refine jl_nil ?_
    refine jq_then ?_
    refine jc_seq ?_
    refine jc_any rfl rfl (by kernel_rfl) (by kernel_rfl) ?_
    refine any_op (fun c => ow_move rfl ⟨rfl, List.Perm.refl _⟩) ?_
    refine any_op (fun c => ow_move rfl ⟨rfl, List.Perm.refl _⟩) ?_
    refine any_op (fun c => ow_eql rfl rfl ⟨rfl, List.Perm.refl _⟩) ?_
    refine any_op (fun c => ow_move rfl ⟨rfl, List.Perm.refl _⟩) ?_
    refine any_guardY rfl (by first | assumption | exact decide_eq_true rfl | exact decide_eq_true (by first | assumption | omega) | exact decide_eq_false (by first | assumption | omega) | with_reducible rfl | exact (rfl : false = !true) | exact (rfl : true = !false)) (fun c => ow_move rfl ⟨rfl, List.Perm.refl _⟩) ?_
    refine any_guardY rfl (by first | assumption | exact decide_eq_true rfl | exact decide_eq_true (by first | assumption | omega) | exact decide_eq_false (by first | assumption | omega) | with_reducible rfl | exact (rfl : false = !true) | exact (rfl : true = !false)) (fun c => ow_move rfl ⟨rfl, List.Perm.refl _⟩) ?_
    refine any_guardY rfl (by first | assumption | exact decide_eq_true rfl | exact decide_eq_true (by first | assumption | omega) | exact decide_eq_false (by first | assumption | omega) | with_reducible rfl | exact (rfl : false = !true) | exact (rfl : true = !false)) (fun c => ow_eql rfl rfl ⟨rfl, List.Perm.refl _⟩) ?_
    refine any_op (fun c => ow_pickT rfl (by first | assumption | exact decide_eq_true rfl | exact decide_eq_true (by first | assumption | omega) | exact decide_eq_false (by first | assumption | omega) | with_reducible rfl | exact (rfl : false = !true) | exact (rfl : true = !false)) rfl ⟨rfl, List.Perm.refl _⟩) ?_
    refine any_op (fun c => ow_move rfl ⟨rfl, List.Perm.refl _⟩) ?_
    refine any_guardY rfl (by first | assumption | exact decide_eq_true rfl | exact decide_eq_true (by first | assumption | omega) | exact decide_eq_false (by first | assumption | omega) | with_reducible rfl | exact (rfl : false = !true) | exact (rfl : true = !false)) (fun c => ow_move rfl ⟨rfl, List.Perm.refl _⟩) ?_
    refine any_guardY rfl (by first | assumption | exact decide_eq_true rfl | exact decide_eq_true (by first | assumption | omega) | exact decide_eq_false (by first | assumption | omega) | with_reducible rfl | exact (rfl : false = !true) | exact (rfl : true = !false)) (fun c => ow_move rfl ⟨rfl, List.Perm.refl _⟩) ?_
    refine any_guardY rfl (by first | assumption | exact decide_eq_true rfl | exact decide_eq_true (by first | assumption | omega) | exact decide_eq_false (by first | assumption | omega) | with_reducible rfl | exact (rfl : false = !true) | exact (rfl : true = !false)) (fun c => ow_call0 rfl (hsame) ⟨rfl, List.Perm.refl _⟩) ?_
    refine any_op (fun c => ow_pickT rfl (by first | assumption | exact decide_eq_true rfl | exact decide_eq_true (by first | assumption | omega) | exact decide_eq_false (by first | assumption | omega) | with_reducible rfl | exact (rfl : false = !true) | exact (rfl : true = !false)) rfl ⟨rfl, List.Perm.refl _⟩) ?_
    refine any_op (fun c => ow_move rfl ⟨rfl, List.Perm.refl _⟩) ?_
    refine any_guardY rfl (by first | assumption | exact decide_eq_true rfl | exact decide_eq_true (by first | assumption | omega) | exact decide_eq_false (by first | assumption | omega) | with_reducible rfl | exact (rfl : false = !true) | exact (rfl : true = !false)) (fun c => ow_move rfl ⟨rfl, List.Perm.refl _⟩) ?_
    refine any_guardY rfl (by first | assumption | exact decide_eq_true rfl | exact decide_eq_true (by first | assumption | omega) | exact decide_eq_false (by first | assumption | omega) | with_reducible rfl | exact (rfl : false = !true) | exact (rfl : true = !false)) (fun c => ow_call0 rfl (Name_c _) ⟨rfl, List.Perm.refl _⟩) ?_
    refine any_guardY rfl (by first | assumption | exact decide_eq_true rfl | exact decide_eq_true (by first | assumption | omega) | exact decide_eq_false (by first | assumption | omega) | with_reducible rfl | exact (rfl : false = !true) | exact (rfl : true = !false)) (fun c => ow_move rfl ⟨rfl, List.Perm.refl _⟩) ?_
    refine any_guardY rfl (by first | assumption | exact decide_eq_true rfl | exact decide_eq_true (by first | assumption | omega) | exact decide_eq_false (by first | assumption | omega) | with_reducible rfl | exact (rfl : false = !true) | exact (rfl : true = !false)) (fun c => ow_call0 rfl (rName_c _) ⟨rfl, List.Perm.refl _⟩) ?_
    refine any_guardY rfl (by first | assumption | exact decide_eq_true rfl | exact decide_eq_true (by first | assumption | omega) | exact decide_eq_false (by first | assumption | omega) | with_reducible rfl | exact (rfl : false = !true) | exact (rfl : true = !false)) (fun c => ow_booleql rfl rfl rfl ⟨rfl, List.Perm.refl _⟩) ?_
    refine any_op (fun c => ow_pickT rfl (by first | assumption | exact decide_eq_true rfl | exact decide_eq_true (by first | assumption | omega) | exact decide_eq_false (by first | assumption | omega) | with_reducible rfl | exact (rfl : false = !true) | exact (rfl : true = !false)) rfl ⟨rfl, List.Perm.refl _⟩) ?_
    refine any_op (fun c => ow_move rfl ⟨rfl, List.Perm.refl _⟩) ?_
    refine any_guardY rfl (by first | assumption | exact decide_eq_true rfl | exact decide_eq_true (by first | assumption | omega) | exact decide_eq_false (by first | assumption | omega) | with_reducible rfl | exact (rfl : false = !true) | exact (rfl : true = !false)) (fun c => ow_fieldAddr rfl rfl rfl (nb rfl) ⟨rfl, List.Perm.refl _⟩) ?_
    refine any_guardY rfl (by first | assumption | exact decide_eq_true rfl | exact decide_eq_true (by first | assumption | omega) | exact decide_eq_false (by first | assumption | omega) | with_reducible rfl | exact (rfl : false = !true) | exact (rfl : true = !false)) (fun c => ow_load 0 rfl rfl rfl rfl ⟨rfl, List.Perm.refl _⟩) ?_
    refine any_guardY rfl (by first | assumption | exact decide_eq_true rfl | exact decide_eq_true (by first | assumption | omega) | exact decide_eq_false (by first | assumption | omega) | with_reducible rfl | exact (rfl : false = !true) | exact (rfl : true = !false)) (fun c => ow_call0 rfl (Name_c _) ⟨rfl, List.Perm.refl _⟩) ?_
    refine any_guardY rfl (by first | assumption | exact decide_eq_true rfl | exact decide_eq_true (by first | assumption | omega) | exact decide_eq_false (by first | assumption | omega) | with_reducible rfl | exact (rfl : false = !true) | exact (rfl : true = !false)) (fun c => ow_fieldAddr rfl rfl rfl (nb rfl) ⟨rfl, List.Perm.refl _⟩) ?_
    refine any_guardY rfl (by first | assumption | exact decide_eq_true rfl | exact decide_eq_true (by first | assumption | omega) | exact decide_eq_false (by first | assumption | omega) | with_reducible rfl | exact (rfl : false = !true) | exact (rfl : true = !false)) (fun c => ow_load 0 rfl rfl rfl rfl ⟨rfl, List.Perm.refl _⟩) ?_
    refine any_guardY rfl (by first | assumption | exact decide_eq_true rfl | exact decide_eq_true (by first | assumption | omega) | exact decide_eq_false (by first | assumption | omega) | with_reducible rfl | exact (rfl : false = !true) | exact (rfl : true = !false)) (fun c => ow_call0 rfl (rName_c _) ⟨rfl, List.Perm.refl _⟩) ?_
    refine any_guardY rfl (by first | assumption | exact decide_eq_true rfl | exact decide_eq_true (by first | assumption | omega) | exact decide_eq_false (by first | assumption | omega) | with_reducible rfl | exact (rfl : false = !true) | exact (rfl : true = !false)) (fun c => ow_booleql rfl rfl rfl ⟨rfl, List.Perm.refl _⟩) ?_
    refine any_op (fun c => ow_pickT rfl (by first | assumption | exact decide_eq_true rfl | exact decide_eq_true (by first | assumption | omega) | exact decide_eq_false (by first | assumption | omega) | with_reducible rfl | exact (rfl : false = !true) | exact (rfl : true = !false)) rfl ⟨rfl, List.Perm.refl _⟩) ?_
    refine any_op (fun c => ow_move rfl ⟨rfl, List.Perm.refl _⟩) ?_
    refine any_guardY rfl (by first | assumption | exact decide_eq_true rfl | exact decide_eq_true (by first | assumption | omega) | exact decide_eq_false (by first | assumption | omega) | with_reducible rfl | exact (rfl : false = !true) | exact (rfl : true = !false)) (fun c => ow_loadAll 0 rfl rfl rfl rfl ⟨rfl, List.Perm.refl _⟩) ?_
    refine any_guardY rfl (by first | assumption | exact decide_eq_true rfl | exact decide_eq_true (by first | assumption | omega) | exact decide_eq_false (by first | assumption | omega) | with_reducible rfl | exact (rfl : false = !true) | exact (rfl : true = !false)) (fun c => ow_call0 rfl (hword) ⟨rfl, List.Perm.refl _⟩) ?_
    refine any_guardY rfl (by first | assumption | exact decide_eq_true rfl | exact decide_eq_true (by first | assumption | omega) | exact decide_eq_false (by first | assumption | omega) | with_reducible rfl | exact (rfl : false = !true) | exact (rfl : true = !false)) (fun c => ow_loadAll 0 rfl rfl rfl rfl ⟨rfl, List.Perm.refl _⟩) ?_
    refine any_guardY rfl (by first | assumption | exact decide_eq_true rfl | exact decide_eq_true (by first | assumption | omega) | exact decide_eq_false (by first | assumption | omega) | with_reducible rfl | exact (rfl : false = !true) | exact (rfl : true = !false)) (fun c => ow_call0 rfl (hrword) ⟨rfl, List.Perm.refl _⟩) ?_
    refine any_guardY rfl (by first | assumption | exact decide_eq_true rfl | exact decide_eq_true (by first | assumption | omega) | exact decide_eq_false (by first | assumption | omega) | with_reducible rfl | exact (rfl : false = !true) | exact (rfl : true = !false)) (fun c => ow_streql rfl rfl ⟨rfl, List.Perm.refl _⟩) ?_
    refine any_op (fun c => ow_pickT rfl (by first | assumption | exact decide_eq_true rfl | exact decide_eq_true (by first | assumption | omega) | exact decide_eq_false (by first | assumption | omega) | with_reducible rfl | exact (rfl : false = !true) | exact (rfl : true = !false)) rfl ⟨rfl, List.Perm.refl _⟩) ?_
    refine any_op (fun c => ow_move rfl ⟨rfl, List.Perm.refl _⟩) ?_
    refine any_guardY rfl (by first | assumption | exact decide_eq_true rfl | exact decide_eq_true (by first | assumption | omega) | exact decide_eq_false (by first | assumption | omega) | with_reducible rfl | exact (rfl : false = !true) | exact (rfl : true = !false)) (fun c => ow_call0 rfl (awake_c) ⟨rfl, List.Perm.refl _⟩) ?_
    refine any_op (fun c => ow_pickT rfl (by first | assumption | exact decide_eq_true rfl | exact decide_eq_true (by first | assumption | omega) | exact decide_eq_false (by first | assumption | omega) | with_reducible rfl | exact (rfl : false = !true) | exact (rfl : true = !false)) rfl ⟨rfl, List.Perm.refl _⟩) ?_
    refine any_op (fun c => ow_assign rfl ⟨rfl, List.Perm.refl _⟩) ?_
    refine any_nil ?_
    refine jq_then ?_
    refine jc_ret ?_
    refine jq_ret1 rfl rfl [] rfl (fun K h => h)
end Go.Proofs.YtccojifhaoadbaaDoor
