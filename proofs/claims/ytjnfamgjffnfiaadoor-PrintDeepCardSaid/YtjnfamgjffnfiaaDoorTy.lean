import Derived.Test.YtjnfamgjffnfiaaDoorGl
import Derived.Test.YtjnfamgjffnfiaaDoorProg
import Derived.Test.YtjnfamgjffnfiaaDoorVc9
import Derived.KernelRfl
namespace Go.Proofs.YtjnfamgjffnfiaaDoor
open Go.Vc

noncomputable instance ti0 : TI Tryd.prog 0 := ⟨_, Tryd.underlying0, Tryd.t0, by kernel_rfl⟩
noncomputable instance ti1 : TI Tryd.prog 1 := ⟨_, Tryd.underlying1, Tryd.t1, by kernel_rfl⟩
noncomputable instance ti2 : TI Tryd.prog 2 := ⟨_, Tryd.underlying2, Tryd.t2, by kernel_rfl⟩
noncomputable instance ti3 : TI Tryd.prog 3 := ⟨_, Tryd.underlying3, Tryd.t3, by kernel_rfl⟩
noncomputable instance ti4 : TI Tryd.prog 4 := ⟨_, Tryd.underlying4, Tryd.t4, by kernel_rfl⟩
noncomputable instance ti5 : TI Tryd.prog 5 := ⟨_, Tryd.underlying5, Tryd.t5, by kernel_rfl⟩
noncomputable instance ti7 : TI Tryd.prog 7 := ⟨_, Tryd.underlying7, Tryd.t7, by kernel_rfl⟩
noncomputable instance ti9 : TI Tryd.prog 9 := ⟨_, Tryd.underlying9, Tryd.t9, by kernel_rfl⟩
noncomputable instance ti12 : TI Tryd.prog 12 := ⟨_, Tryd.underlying12, Tryd.t12, by kernel_rfl⟩
noncomputable instance ti13 : TI Tryd.prog 13 := ⟨_, Tryd.underlying13, Tryd.t13, by kernel_rfl⟩
noncomputable instance ti18 : TI Tryd.prog 18 := ⟨_, Tryd.underlying18, Tryd.t18, by kernel_rfl⟩
noncomputable instance ti20 : TI Tryd.prog 20 := ⟨_, Tryd.underlying20, Tryd.t20, by kernel_rfl⟩
noncomputable instance ti21 : TI Tryd.prog 21 := ⟨_, Tryd.underlying21, Tryd.t21, by kernel_rfl⟩
noncomputable instance ti22 : TI Tryd.prog 22 := ⟨_, Tryd.underlying22, Tryd.t22, by kernel_rfl⟩
noncomputable instance ti23 : TI Tryd.prog 23 := ⟨_, Tryd.underlying23, Tryd.t23, by kernel_rfl⟩
noncomputable instance ti24 : TI Tryd.prog 24 := ⟨_, Tryd.underlying24, Tryd.t24, by kernel_rfl⟩
noncomputable instance ti25 : TI Tryd.prog 25 := ⟨_, Tryd.underlying25, Tryd.t25, by kernel_rfl⟩
noncomputable instance ti26 : TI Tryd.prog 26 := ⟨_, Tryd.underlying26, Tryd.t26, by kernel_rfl⟩
noncomputable instance ti27 : TI Tryd.prog 27 := ⟨_, Tryd.underlying27, Tryd.t27, by kernel_rfl⟩
noncomputable instance ti28 : TI Tryd.prog 28 := ⟨_, Tryd.underlying28, Tryd.t28, by kernel_rfl⟩
noncomputable instance ti29 : TI Tryd.prog 29 := ⟨_, Tryd.underlying29, Tryd.t29, by kernel_rfl⟩
noncomputable instance ti30 : TI Tryd.prog 30 := ⟨_, Tryd.underlying30, Tryd.t30, by kernel_rfl⟩
noncomputable instance ti31 : TI Tryd.prog 31 := ⟨_, Tryd.underlying31, Tryd.t31, by kernel_rfl⟩
noncomputable instance ti32 : TI Tryd.prog 32 := ⟨_, Tryd.underlying32, Tryd.t32, by kernel_rfl⟩
noncomputable instance ti33 : TI Tryd.prog 33 := ⟨_, Tryd.underlying33, Tryd.t33, by kernel_rfl⟩
noncomputable instance ti34 : TI Tryd.prog 34 := ⟨_, Tryd.underlying34, Tryd.t34, by kernel_rfl⟩
noncomputable instance ti35 : TI Tryd.prog 35 := ⟨_, Tryd.underlying35, Tryd.t35, by kernel_rfl⟩
noncomputable instance ti36 : TI Tryd.prog 36 := ⟨_, Tryd.underlying36, Tryd.t36, by kernel_rfl⟩
noncomputable instance ti37 : TI Tryd.prog 37 := ⟨_, Tryd.underlying37, Tryd.t37, by kernel_rfl⟩
noncomputable instance ti38 : TI Tryd.prog 38 := ⟨_, Tryd.underlying38, Tryd.t38, by kernel_rfl⟩
noncomputable instance ti39 : TI Tryd.prog 39 := ⟨_, Tryd.underlying39, Tryd.t39, by kernel_rfl⟩
noncomputable instance ti40 : TI Tryd.prog 40 := ⟨_, Tryd.underlying40, Tryd.t40, by kernel_rfl⟩
noncomputable instance ti41 : TI Tryd.prog 41 := ⟨_, Tryd.underlying41, Tryd.t41, by kernel_rfl⟩
noncomputable instance ti42 : TI Tryd.prog 42 := ⟨_, Tryd.underlying42, Tryd.t42, by kernel_rfl⟩
noncomputable instance ti43 : TI Tryd.prog 43 := ⟨_, Tryd.underlying43, Tryd.t43, by kernel_rfl⟩
noncomputable instance ti44 : TI Tryd.prog 44 := ⟨_, Tryd.underlying44, Tryd.t44, by kernel_rfl⟩
noncomputable instance ti45 : TI Tryd.prog 45 := ⟨_, Tryd.underlying45, Tryd.t45, by kernel_rfl⟩
noncomputable instance ti46 : TI Tryd.prog 46 := ⟨_, Tryd.underlying46, Tryd.t46, by kernel_rfl⟩
noncomputable instance ti47 : TI Tryd.prog 47 := ⟨_, Tryd.underlying47, Tryd.t47, by kernel_rfl⟩
noncomputable instance ti48 : TI Tryd.prog 48 := ⟨_, Tryd.underlying48, Tryd.t48, by kernel_rfl⟩
noncomputable instance ti49 : TI Tryd.prog 49 := ⟨_, Tryd.underlying49, Tryd.t49, by kernel_rfl⟩
noncomputable instance ti50 : TI Tryd.prog 50 := ⟨_, Tryd.underlying50, Tryd.t50, by kernel_rfl⟩
noncomputable instance ti51 : TI Tryd.prog 51 := ⟨_, Tryd.underlying51, Tryd.t51, by kernel_rfl⟩
noncomputable instance ti52 : TI Tryd.prog 52 := ⟨_, Tryd.underlying52, Tryd.t52, by kernel_rfl⟩
noncomputable instance ti53 : TI Tryd.prog 53 := ⟨_, Tryd.underlying53, Tryd.t53, by kernel_rfl⟩
noncomputable instance ti54 : TI Tryd.prog 54 := ⟨_, Tryd.underlying54, Tryd.t54, by kernel_rfl⟩
noncomputable instance ti55 : TI Tryd.prog 55 := ⟨_, Tryd.underlying55, Tryd.t55, by kernel_rfl⟩
noncomputable instance ti56 : TI Tryd.prog 56 := ⟨_, Tryd.underlying56, Tryd.t56, by kernel_rfl⟩
noncomputable instance ti57 : TI Tryd.prog 57 := ⟨_, Tryd.underlying57, Tryd.t57, by kernel_rfl⟩
noncomputable instance ti58 : TI Tryd.prog 58 := ⟨_, Tryd.underlying58, Tryd.t58, by kernel_rfl⟩
noncomputable instance ti59 : TI Tryd.prog 59 := ⟨_, Tryd.underlying59, Tryd.t59, by kernel_rfl⟩
noncomputable instance ti60 : TI Tryd.prog 60 := ⟨_, Tryd.underlying60, Tryd.t60, by kernel_rfl⟩
noncomputable instance ti61 : TI Tryd.prog 61 := ⟨_, Tryd.underlying61, Tryd.t61, by kernel_rfl⟩
noncomputable instance ti62 : TI Tryd.prog 62 := ⟨_, Tryd.underlying62, Tryd.t62, by kernel_rfl⟩
noncomputable instance ti63 : TI Tryd.prog 63 := ⟨_, Tryd.underlying63, Tryd.t63, by kernel_rfl⟩
noncomputable instance ti64 : TI Tryd.prog 64 := ⟨_, Tryd.underlying64, Tryd.t64, by kernel_rfl⟩
noncomputable instance ti65 : TI Tryd.prog 65 := ⟨_, Tryd.underlying65, Tryd.t65, by kernel_rfl⟩
noncomputable instance ti66 : TI Tryd.prog 66 := ⟨_, Tryd.underlying66, Tryd.t66, by kernel_rfl⟩
noncomputable instance ti67 : TI Tryd.prog 67 := ⟨_, Tryd.underlying67, Tryd.t67, by kernel_rfl⟩
noncomputable instance ti68 : TI Tryd.prog 68 := ⟨_, Tryd.underlying68, Tryd.t68, by kernel_rfl⟩
noncomputable instance ti69 : TI Tryd.prog 69 := ⟨_, Tryd.underlying69, Tryd.t69, by kernel_rfl⟩
noncomputable instance ti70 : TI Tryd.prog 70 := ⟨_, Tryd.underlying70, Tryd.t70, by kernel_rfl⟩
noncomputable instance ti72 : TI Tryd.prog 72 := ⟨_, Tryd.underlying72, Tryd.t72, by kernel_rfl⟩
noncomputable instance ti73 : TI Tryd.prog 73 := ⟨_, Tryd.underlying73, Tryd.t73, by kernel_rfl⟩
noncomputable instance ti75 : TI Tryd.prog 75 := ⟨_, Tryd.underlying75, Tryd.t75, by kernel_rfl⟩
noncomputable instance ti78 : TI Tryd.prog 78 := ⟨_, Tryd.underlying78, Tryd.t78, by kernel_rfl⟩
noncomputable instance ti79 : TI Tryd.prog 79 := ⟨_, Tryd.underlying79, Tryd.t79, by kernel_rfl⟩
noncomputable instance ti82 : TI Tryd.prog 82 := ⟨_, Tryd.underlying82, Tryd.t82, by kernel_rfl⟩
noncomputable instance ti84 : TI Tryd.prog 84 := ⟨_, Tryd.underlying84, Tryd.t84, by kernel_rfl⟩
noncomputable instance sl22 : SL Tryd.prog 22 := ⟨5, inferInstance, Tryd.underlying22⟩
noncomputable instance sl23 : SL Tryd.prog 23 := ⟨4, inferInstance, Tryd.underlying23⟩
noncomputable instance sl24 : SL Tryd.prog 24 := ⟨26, inferInstance, Tryd.underlying24⟩
noncomputable instance sl43 : SL Tryd.prog 43 := ⟨3, inferInstance, Tryd.underlying43⟩
noncomputable instance sl48 : SL Tryd.prog 48 := ⟨9, inferInstance, Tryd.underlying48⟩
instance fi3 : FI Tryd.prog 3 := ⟨fun args w => by kernel_rfl⟩
instance fi4 : FI Tryd.prog 4 := ⟨fun args w => by kernel_rfl⟩
instance fi5 : FI Tryd.prog 5 := ⟨fun args w => by kernel_rfl⟩
instance fi6 : FI Tryd.prog 6 := ⟨fun args w => by kernel_rfl⟩
instance fi7 : FI Tryd.prog 7 := ⟨fun args w => by kernel_rfl⟩
instance fi8 : FI Tryd.prog 8 := ⟨fun args w => by kernel_rfl⟩
instance fi9 : FI Tryd.prog 9 := ⟨fun args w => by kernel_rfl⟩
instance fi10 : FI Tryd.prog 10 := ⟨fun args w => by kernel_rfl⟩
instance fi11 : FI Tryd.prog 11 := ⟨fun args w => by kernel_rfl⟩
instance fi12 : FI Tryd.prog 12 := ⟨fun args w => by kernel_rfl⟩
instance fi13 : FI Tryd.prog 13 := ⟨fun args w => by kernel_rfl⟩
instance fi14 : FI Tryd.prog 14 := ⟨fun args w => by kernel_rfl⟩
instance fi15 : FI Tryd.prog 15 := ⟨fun args w => by kernel_rfl⟩
instance fi16 : FI Tryd.prog 16 := ⟨fun args w => by kernel_rfl⟩
instance fi17 : FI Tryd.prog 17 := ⟨fun args w => by kernel_rfl⟩
instance fi18 : FI Tryd.prog 18 := ⟨fun args w => by kernel_rfl⟩
instance fi19 : FI Tryd.prog 19 := ⟨fun args w => by kernel_rfl⟩
instance fi20 : FI Tryd.prog 20 := ⟨fun args w => by kernel_rfl⟩
instance fi21 : FI Tryd.prog 21 := ⟨fun args w => by kernel_rfl⟩
instance fi22 : FI Tryd.prog 22 := ⟨fun args w => by kernel_rfl⟩
instance fi23 : FI Tryd.prog 23 := ⟨fun args w => by kernel_rfl⟩
instance fi24 : FI Tryd.prog 24 := ⟨fun args w => by kernel_rfl⟩
instance fi25 : FI Tryd.prog 25 := ⟨fun args w => by kernel_rfl⟩
instance fi26 : FI Tryd.prog 26 := ⟨fun args w => by kernel_rfl⟩
instance fi27 : FI Tryd.prog 27 := ⟨fun args w => by kernel_rfl⟩
instance fi28 : FI Tryd.prog 28 := ⟨fun args w => by kernel_rfl⟩
instance fi29 : FI Tryd.prog 29 := ⟨fun args w => by kernel_rfl⟩
instance fi30 : FI Tryd.prog 30 := ⟨fun args w => by kernel_rfl⟩
instance fi31 : FI Tryd.prog 31 := ⟨fun args w => by kernel_rfl⟩
instance fi32 : FI Tryd.prog 32 := ⟨fun args w => by kernel_rfl⟩
instance fi33 : FI Tryd.prog 33 := ⟨fun args w => by kernel_rfl⟩
instance fi34 : FI Tryd.prog 34 := ⟨fun args w => by kernel_rfl⟩
instance fi35 : FI Tryd.prog 35 := ⟨fun args w => by kernel_rfl⟩
instance fi36 : FI Tryd.prog 36 := ⟨fun args w => by kernel_rfl⟩
instance fi37 : FI Tryd.prog 37 := ⟨fun args w => by kernel_rfl⟩
instance fi38 : FI Tryd.prog 38 := ⟨fun args w => by kernel_rfl⟩
instance fi39 : FI Tryd.prog 39 := ⟨fun args w => by kernel_rfl⟩
instance fi40 : FI Tryd.prog 40 := ⟨fun args w => by kernel_rfl⟩
instance fi41 : FI Tryd.prog 41 := ⟨fun args w => by kernel_rfl⟩
instance fi42 : FI Tryd.prog 42 := ⟨fun args w => by kernel_rfl⟩
instance fi43 : FI Tryd.prog 43 := ⟨fun args w => by kernel_rfl⟩
instance fi44 : FI Tryd.prog 44 := ⟨fun args w => by kernel_rfl⟩
instance fi45 : FI Tryd.prog 45 := ⟨fun args w => by kernel_rfl⟩
instance fi46 : FI Tryd.prog 46 := ⟨fun args w => by kernel_rfl⟩
instance fi47 : FI Tryd.prog 47 := ⟨fun args w => by kernel_rfl⟩
instance fi48 : FI Tryd.prog 48 := ⟨fun args w => by kernel_rfl⟩
instance fi49 : FI Tryd.prog 49 := ⟨fun args w => by kernel_rfl⟩
instance fi50 : FI Tryd.prog 50 := ⟨fun args w => by kernel_rfl⟩
instance fi51 : FI Tryd.prog 51 := ⟨fun args w => by kernel_rfl⟩
instance fi77 : FI Tryd.prog 77 := ⟨fun args w => by kernel_rfl⟩
noncomputable instance ts7 : TS Tryd.prog 7 := ⟨#[(0, 1), (1, 1), (2, 1), (3, 1)], fun w => by kernel_rfl⟩
noncomputable instance ts13 : TS Tryd.prog 13 := ⟨#[(0, 1), (1, 1)], fun w => by kernel_rfl⟩
noncomputable instance ts18 : TS Tryd.prog 18 := ⟨#[(0, 1)], fun w => by kernel_rfl⟩
noncomputable instance ts25 : TS Tryd.prog 25 := ⟨#[(0, 1), (1, 1), (2, 1), (3, 1), (4, 1)], fun w => by kernel_rfl⟩
noncomputable instance ts26 : TS Tryd.prog 26 := ⟨#[(0, 1), (1, 1), (2, 1), (3, 1), (4, 1)], fun w => by kernel_rfl⟩
noncomputable instance ts70 : TS Tryd.prog 70 := ⟨#[(0, 1), (1, 1), (2, 1), (3, 1)], fun w => by kernel_rfl⟩
noncomputable instance ts73 : TS Tryd.prog 73 := ⟨#[(0, 0)], fun w => by kernel_rfl⟩
noncomputable instance ts82 : TS Tryd.prog 82 := ⟨#[(0, 1), (1, 1), (2, 1), (3, 1), (4, 1), (5, 1), (6, 1), (7, 1), (8, 1), (9, 1), (10, 1)], fun w => by kernel_rfl⟩
end Go.Proofs.YtjnfamgjffnfiaaDoor
