import Derived.Test.YtfnephpolfnmoaaCw7
import Derived.Test.YtfnephpolfnmoaaVcb
namespace Go.Proofs.Ytfnephpolfnmoaa
open Go.Vc
attribute [local irreducible] JL JC JQ OpWp Con ConN

section
variable {L : List Int} {bm bd : Nat} {V A LS : List ByteArray} {lv : Value} {Sh : List Shd} {hs : ByteArray} {lab st il : Int}

theorem condition_c (hL : InR L) (hLn : L.length ≤ 400) (hV0 : 0 < V.length) (hV : V.length ≤ 100) (hA : A.length ≤ 100) (hSh : Sh.length ≤ 100) :
    Con Try.prog 34 [Ptr bm] [Mk bm bd V lv A Sh hs lab st il, Dk bd L] (fun K => ∀ e : Ex, True → K (.row e.row') [Mk bm bd V lv A Sh hs lab st il, Dk bd L]) := by
  refine con_intro Try.func34 rfl rfl (Nat.le_of_ble_eq_true rfl) (fun c hc => ?_)
  refine jc_seq ?_
  refine jc_region ?_
  refine jl_op ?_ (nb rfl)
  refine ow_alloc rfl rfl (fun bl => ?_)
  refine jl_nil ?_
  refine jq_then ?_
  refine jc_seq ?_
  refine jc_seq ?_
  refine jc_region ?_
  refine jl_op ?_ (nb rfl)
  refine ow_move rfl ?_
  refine jl_op ?_ (nb rfl)
  refine ow_nilCheck rfl ?_
  refine jl_op ?_ (nb rfl)
  refine ow_fieldAddr rfl rfl rfl (nb rfl) ?_
  refine jl_op ?_ (nb rfl)
  refine ow_load 1 rfl rfl rfl rfl ?_
  refine jl_op (ow_callP [2] rfl rfl (Nx_c _ hL hLn (by omega)) (fun k0 hk0 => ?_)) (nb rfl)
  refine jl_op ?_ (nb rfl)
  refine ow_eql rfl rfl ?_
  refine jl_nil ?_
  refine jq_then ?_
  refine jc_condd rfl (fun h3 => ?_) (fun h3 => ?_)
  · refine jc_seq ?_
    refine jc_region ?_
    refine jl_op ?_ (nb rfl)
    refine ow_move rfl ?_
    refine jl_op (ow_callP [2, 0] rfl rfl (expr_c hL hLn hV0 hV hA hSh 2 2 (by omega) (by omega) (by omega)) (fun e1 he1 => ?_)) (nb rfl)
    refine jl_op0 ?_
    refine ow_storeAll 2 rfl rfl rfl rfl rfl rfl ?_
    refine jl_nil ?_
    refine jq_then ?_
    refine jc_ret ?_
    refine jq_then_ret ?_
    refine jq_retRow rfl rfl rfl rfl 0 rfl [1, 1] rfl (fun K h => h _ trivial)
  · refine jc_skip ?_
    refine jq_then ?_
    refine jc_seq ?_
    refine jc_anyB 20 none rfl (by kernel_rfl) (by kernel_rfl) ?_
    refine any_op (fun c => ow_move rfl ⟨rfl, List.Perm.refl _⟩) ?_
    refine any_op (fun c => ow_nilCheck rfl ⟨rfl, List.Perm.refl _⟩) ?_
    refine any_op (fun c => ow_fieldAddr rfl rfl rfl (nb rfl) ⟨rfl, List.Perm.refl _⟩) ?_
    refine any_op (fun c => ow_load 2 rfl rfl rfl rfl ⟨rfl, List.Perm.refl _⟩) ?_
    refine any_op (fun c => ow_callA [0] rfl rfl (Next_c L _ _ hL hLn (by omega))) ?_
    refine any_op (fun c => ow_exarg 15 rfl (fun i => ow_add64 rfl rfl (by have := i.2; omega) ⟨rfl, .refl _⟩)) ?_
    refine any_op (fun c => ow_move rfl ⟨rfl, List.Perm.refl _⟩) ?_
    refine any_op (fun c => ow_move rfl ⟨rfl, List.Perm.refl _⟩) ?_
    refine any_op (fun c => ow_nilCheck rfl ⟨rfl, List.Perm.refl _⟩) ?_
    refine any_op (fun c => ow_fieldAddr rfl rfl rfl (nb rfl) ⟨rfl, List.Perm.refl _⟩) ?_
    refine any_op (fun c => ow_load 2 rfl rfl rfl rfl ⟨rfl, List.Perm.refl _⟩) ?_
    refine any_op (fun c => ow_callA [2, 0] rfl rfl (con_toEx (name_c hL hLn V hV0 (by omega)))) ?_
    refine any_op (fun c => ow_exarg 22 rfl (fun i => ow_call0 rfl (Name_c _) ⟨rfl, .refl _⟩)) ?_
    refine any_op (fun c => ow_move rfl ⟨rfl, List.Perm.refl _⟩) ?_
    refine any_op (fun c => ow_nilCheck rfl ⟨rfl, List.Perm.refl _⟩) ?_
    refine any_op (fun c => ow_fieldAddr rfl rfl rfl (nb rfl) ⟨rfl, List.Perm.refl _⟩) ?_
    refine any_op (fun c => ow_load 2 rfl rfl rfl rfl ⟨rfl, List.Perm.refl _⟩) ?_
    refine any_op (fun c => ow_callA [0] rfl rfl (Next_c L _ _ hL hLn (by omega))) ?_
    refine any_op (fun c => ow_exarg 28 rfl (fun i => ow_call0 rfl (Num_c _) ⟨rfl, .refl _⟩)) ?_
    refine any_op (fun c => ow_exarg 16 rfl (fun i => ow_exarg 23 rfl (fun j => ow_exarg 29 rfl (fun k => ow_call0 rfl (Bin_c _ _ _) ⟨rfl, .refl _⟩)))) ?_
    refine any_nil (afin_none ?_)
    refine jl_slot 30 rfl (fun i => jl_slot 30 rfl (fun j => jl_slot 30 rfl (fun k => ?_)))
    refine jl_op0 ?_
    refine ow_storeAll 1 rfl rfl rfl rfl rfl rfl ?_
    refine jl_nil ?_
    refine jq_then ?_
    refine jc_ret ?_
    refine jq_retRow rfl rfl rfl rfl 0 rfl [2, 1] rfl (fun K h => h _ trivial)
end
end Go.Proofs.Ytfnephpolfnmoaa
