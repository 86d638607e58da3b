import Derived.Test.YtjkkkjikhjfdnaaProg
import Derived.Test.YtjkkkjikhjfdnaaVc9
import Derived.KernelRfl
namespace Go.Proofs.Ytjkkkjikhjfdnaa
open Go.Vc
instance gl : Gl Try.prog := Gl.triv _
noncomputable instance ti0 : TI Try.prog 0 := ⟨_, Try.underlying0, Try.t0, by kernel_rfl⟩
noncomputable instance ti1 : TI Try.prog 1 := ⟨_, Try.underlying1, Try.t1, by kernel_rfl⟩
noncomputable instance ti2 : TI Try.prog 2 := ⟨_, Try.underlying2, Try.t2, by kernel_rfl⟩
noncomputable instance ti3 : TI Try.prog 3 := ⟨_, Try.underlying3, Try.t3, by kernel_rfl⟩
noncomputable instance ti4 : TI Try.prog 4 := ⟨_, Try.underlying4, Try.t4, by kernel_rfl⟩
noncomputable instance ti5 : TI Try.prog 5 := ⟨_, Try.underlying5, Try.t5, by kernel_rfl⟩
noncomputable instance ti7 : TI Try.prog 7 := ⟨_, Try.underlying7, Try.t7, by kernel_rfl⟩
noncomputable instance ti9 : TI Try.prog 9 := ⟨_, Try.underlying9, Try.t9, by kernel_rfl⟩
noncomputable instance ti12 : TI Try.prog 12 := ⟨_, Try.underlying12, Try.t12, by kernel_rfl⟩
noncomputable instance ti13 : TI Try.prog 13 := ⟨_, Try.underlying13, Try.t13, by kernel_rfl⟩
noncomputable instance ti18 : TI Try.prog 18 := ⟨_, Try.underlying18, Try.t18, by kernel_rfl⟩
noncomputable instance ti20 : TI Try.prog 20 := ⟨_, Try.underlying20, Try.t20, by kernel_rfl⟩
noncomputable instance ti21 : TI Try.prog 21 := ⟨_, Try.underlying21, Try.t21, by kernel_rfl⟩
noncomputable instance ti22 : TI Try.prog 22 := ⟨_, Try.underlying22, Try.t22, by kernel_rfl⟩
noncomputable instance ti23 : TI Try.prog 23 := ⟨_, Try.underlying23, Try.t23, by kernel_rfl⟩
noncomputable instance ti24 : TI Try.prog 24 := ⟨_, Try.underlying24, Try.t24, by kernel_rfl⟩
noncomputable instance ti25 : TI Try.prog 25 := ⟨_, Try.underlying25, Try.t25, by kernel_rfl⟩
noncomputable instance ti26 : TI Try.prog 26 := ⟨_, Try.underlying26, Try.t26, by kernel_rfl⟩
noncomputable instance ti27 : TI Try.prog 27 := ⟨_, Try.underlying27, Try.t27, by kernel_rfl⟩
noncomputable instance ti28 : TI Try.prog 28 := ⟨_, Try.underlying28, Try.t28, by kernel_rfl⟩
noncomputable instance ti29 : TI Try.prog 29 := ⟨_, Try.underlying29, Try.t29, by kernel_rfl⟩
noncomputable instance ti30 : TI Try.prog 30 := ⟨_, Try.underlying30, Try.t30, by kernel_rfl⟩
noncomputable instance ti31 : TI Try.prog 31 := ⟨_, Try.underlying31, Try.t31, by kernel_rfl⟩
noncomputable instance ti32 : TI Try.prog 32 := ⟨_, Try.underlying32, Try.t32, by kernel_rfl⟩
noncomputable instance ti33 : TI Try.prog 33 := ⟨_, Try.underlying33, Try.t33, by kernel_rfl⟩
noncomputable instance ti34 : TI Try.prog 34 := ⟨_, Try.underlying34, Try.t34, by kernel_rfl⟩
noncomputable instance ti35 : TI Try.prog 35 := ⟨_, Try.underlying35, Try.t35, by kernel_rfl⟩
noncomputable instance ti36 : TI Try.prog 36 := ⟨_, Try.underlying36, Try.t36, by kernel_rfl⟩
noncomputable instance ti37 : TI Try.prog 37 := ⟨_, Try.underlying37, Try.t37, by kernel_rfl⟩
noncomputable instance ti38 : TI Try.prog 38 := ⟨_, Try.underlying38, Try.t38, by kernel_rfl⟩
noncomputable instance ti39 : TI Try.prog 39 := ⟨_, Try.underlying39, Try.t39, by kernel_rfl⟩
noncomputable instance ti40 : TI Try.prog 40 := ⟨_, Try.underlying40, Try.t40, by kernel_rfl⟩
noncomputable instance ti41 : TI Try.prog 41 := ⟨_, Try.underlying41, Try.t41, by kernel_rfl⟩
noncomputable instance ti42 : TI Try.prog 42 := ⟨_, Try.underlying42, Try.t42, by kernel_rfl⟩
noncomputable instance ti43 : TI Try.prog 43 := ⟨_, Try.underlying43, Try.t43, by kernel_rfl⟩
noncomputable instance ti44 : TI Try.prog 44 := ⟨_, Try.underlying44, Try.t44, by kernel_rfl⟩
noncomputable instance ti45 : TI Try.prog 45 := ⟨_, Try.underlying45, Try.t45, by kernel_rfl⟩
noncomputable instance ti46 : TI Try.prog 46 := ⟨_, Try.underlying46, Try.t46, by kernel_rfl⟩
noncomputable instance ti47 : TI Try.prog 47 := ⟨_, Try.underlying47, Try.t47, by kernel_rfl⟩
noncomputable instance ti48 : TI Try.prog 48 := ⟨_, Try.underlying48, Try.t48, by kernel_rfl⟩
noncomputable instance ti49 : TI Try.prog 49 := ⟨_, Try.underlying49, Try.t49, by kernel_rfl⟩
noncomputable instance ti50 : TI Try.prog 50 := ⟨_, Try.underlying50, Try.t50, by kernel_rfl⟩
noncomputable instance ti51 : TI Try.prog 51 := ⟨_, Try.underlying51, Try.t51, by kernel_rfl⟩
noncomputable instance ti52 : TI Try.prog 52 := ⟨_, Try.underlying52, Try.t52, by kernel_rfl⟩
noncomputable instance ti53 : TI Try.prog 53 := ⟨_, Try.underlying53, Try.t53, by kernel_rfl⟩
noncomputable instance ti54 : TI Try.prog 54 := ⟨_, Try.underlying54, Try.t54, by kernel_rfl⟩
noncomputable instance ti55 : TI Try.prog 55 := ⟨_, Try.underlying55, Try.t55, by kernel_rfl⟩
noncomputable instance ti56 : TI Try.prog 56 := ⟨_, Try.underlying56, Try.t56, by kernel_rfl⟩
noncomputable instance ti57 : TI Try.prog 57 := ⟨_, Try.underlying57, Try.t57, by kernel_rfl⟩
noncomputable instance ti58 : TI Try.prog 58 := ⟨_, Try.underlying58, Try.t58, by kernel_rfl⟩
noncomputable instance ti59 : TI Try.prog 59 := ⟨_, Try.underlying59, Try.t59, by kernel_rfl⟩
noncomputable instance ti60 : TI Try.prog 60 := ⟨_, Try.underlying60, Try.t60, by kernel_rfl⟩
noncomputable instance ti61 : TI Try.prog 61 := ⟨_, Try.underlying61, Try.t61, by kernel_rfl⟩
noncomputable instance ti62 : TI Try.prog 62 := ⟨_, Try.underlying62, Try.t62, by kernel_rfl⟩
noncomputable instance ti63 : TI Try.prog 63 := ⟨_, Try.underlying63, Try.t63, by kernel_rfl⟩
noncomputable instance ti64 : TI Try.prog 64 := ⟨_, Try.underlying64, Try.t64, by kernel_rfl⟩
noncomputable instance ti65 : TI Try.prog 65 := ⟨_, Try.underlying65, Try.t65, by kernel_rfl⟩
noncomputable instance ti66 : TI Try.prog 66 := ⟨_, Try.underlying66, Try.t66, by kernel_rfl⟩
noncomputable instance ti67 : TI Try.prog 67 := ⟨_, Try.underlying67, Try.t67, by kernel_rfl⟩
noncomputable instance ti68 : TI Try.prog 68 := ⟨_, Try.underlying68, Try.t68, by kernel_rfl⟩
noncomputable instance ti69 : TI Try.prog 69 := ⟨_, Try.underlying69, Try.t69, by kernel_rfl⟩
noncomputable instance ti70 : TI Try.prog 70 := ⟨_, Try.underlying70, Try.t70, by kernel_rfl⟩
noncomputable instance ti71 : TI Try.prog 71 := ⟨_, Try.underlying71, Try.t71, by kernel_rfl⟩
noncomputable instance ti72 : TI Try.prog 72 := ⟨_, Try.underlying72, Try.t72, by kernel_rfl⟩
noncomputable instance ti73 : TI Try.prog 73 := ⟨_, Try.underlying73, Try.t73, by kernel_rfl⟩
noncomputable instance ti74 : TI Try.prog 74 := ⟨_, Try.underlying74, Try.t74, by kernel_rfl⟩
noncomputable instance ti75 : TI Try.prog 75 := ⟨_, Try.underlying75, Try.t75, by kernel_rfl⟩
noncomputable instance ti76 : TI Try.prog 76 := ⟨_, Try.underlying76, Try.t76, by kernel_rfl⟩
noncomputable instance ti77 : TI Try.prog 77 := ⟨_, Try.underlying77, Try.t77, by kernel_rfl⟩
noncomputable instance ti78 : TI Try.prog 78 := ⟨_, Try.underlying78, Try.t78, by kernel_rfl⟩
noncomputable instance ti80 : TI Try.prog 80 := ⟨_, Try.underlying80, Try.t80, by kernel_rfl⟩
noncomputable instance ti81 : TI Try.prog 81 := ⟨_, Try.underlying81, Try.t81, by kernel_rfl⟩
noncomputable instance ti83 : TI Try.prog 83 := ⟨_, Try.underlying83, Try.t83, by kernel_rfl⟩
noncomputable instance ti84 : TI Try.prog 84 := ⟨_, Try.underlying84, Try.t84, by kernel_rfl⟩
noncomputable instance ti87 : TI Try.prog 87 := ⟨_, Try.underlying87, Try.t87, by kernel_rfl⟩
noncomputable instance ti88 : TI Try.prog 88 := ⟨_, Try.underlying88, Try.t88, by kernel_rfl⟩
noncomputable instance ti91 : TI Try.prog 91 := ⟨_, Try.underlying91, Try.t91, by kernel_rfl⟩
noncomputable instance ti93 : TI Try.prog 93 := ⟨_, Try.underlying93, Try.t93, by kernel_rfl⟩
noncomputable instance sl22 : SL Try.prog 22 := ⟨3, inferInstance, Try.underlying22⟩
noncomputable instance sl28 : SL Try.prog 28 := ⟨44, inferInstance, Try.underlying28⟩
noncomputable instance sl32 : SL Try.prog 32 := ⟨22, inferInstance, Try.underlying32⟩
instance fi3 : FI Try.prog 3 := ⟨fun args w => by kernel_rfl⟩
instance fi4 : FI Try.prog 4 := ⟨fun args w => by kernel_rfl⟩
instance fi5 : FI Try.prog 5 := ⟨fun args w => by kernel_rfl⟩
instance fi6 : FI Try.prog 6 := ⟨fun args w => by kernel_rfl⟩
instance fi7 : FI Try.prog 7 := ⟨fun args w => by kernel_rfl⟩
instance fi8 : FI Try.prog 8 := ⟨fun args w => by kernel_rfl⟩
instance fi9 : FI Try.prog 9 := ⟨fun args w => by kernel_rfl⟩
instance fi10 : FI Try.prog 10 := ⟨fun args w => by kernel_rfl⟩
instance fi11 : FI Try.prog 11 := ⟨fun args w => by kernel_rfl⟩
instance fi12 : FI Try.prog 12 := ⟨fun args w => by kernel_rfl⟩
instance fi13 : FI Try.prog 13 := ⟨fun args w => by kernel_rfl⟩
instance fi14 : FI Try.prog 14 := ⟨fun args w => by kernel_rfl⟩
instance fi15 : FI Try.prog 15 := ⟨fun args w => by kernel_rfl⟩
instance fi16 : FI Try.prog 16 := ⟨fun args w => by kernel_rfl⟩
instance fi17 : FI Try.prog 17 := ⟨fun args w => by kernel_rfl⟩
instance fi18 : FI Try.prog 18 := ⟨fun args w => by kernel_rfl⟩
instance fi19 : FI Try.prog 19 := ⟨fun args w => by kernel_rfl⟩
instance fi20 : FI Try.prog 20 := ⟨fun args w => by kernel_rfl⟩
instance fi21 : FI Try.prog 21 := ⟨fun args w => by kernel_rfl⟩
instance fi22 : FI Try.prog 22 := ⟨fun args w => by kernel_rfl⟩
instance fi23 : FI Try.prog 23 := ⟨fun args w => by kernel_rfl⟩
instance fi24 : FI Try.prog 24 := ⟨fun args w => by kernel_rfl⟩
instance fi25 : FI Try.prog 25 := ⟨fun args w => by kernel_rfl⟩
instance fi26 : FI Try.prog 26 := ⟨fun args w => by kernel_rfl⟩
instance fi27 : FI Try.prog 27 := ⟨fun args w => by kernel_rfl⟩
instance fi28 : FI Try.prog 28 := ⟨fun args w => by kernel_rfl⟩
instance fi29 : FI Try.prog 29 := ⟨fun args w => by kernel_rfl⟩
instance fi30 : FI Try.prog 30 := ⟨fun args w => by kernel_rfl⟩
instance fi31 : FI Try.prog 31 := ⟨fun args w => by kernel_rfl⟩
instance fi32 : FI Try.prog 32 := ⟨fun args w => by kernel_rfl⟩
instance fi33 : FI Try.prog 33 := ⟨fun args w => by kernel_rfl⟩
instance fi34 : FI Try.prog 34 := ⟨fun args w => by kernel_rfl⟩
instance fi35 : FI Try.prog 35 := ⟨fun args w => by kernel_rfl⟩
instance fi36 : FI Try.prog 36 := ⟨fun args w => by kernel_rfl⟩
instance fi37 : FI Try.prog 37 := ⟨fun args w => by kernel_rfl⟩
instance fi38 : FI Try.prog 38 := ⟨fun args w => by kernel_rfl⟩
instance fi39 : FI Try.prog 39 := ⟨fun args w => by kernel_rfl⟩
instance fi40 : FI Try.prog 40 := ⟨fun args w => by kernel_rfl⟩
instance fi41 : FI Try.prog 41 := ⟨fun args w => by kernel_rfl⟩
instance fi42 : FI Try.prog 42 := ⟨fun args w => by kernel_rfl⟩
instance fi43 : FI Try.prog 43 := ⟨fun args w => by kernel_rfl⟩
instance fi44 : FI Try.prog 44 := ⟨fun args w => by kernel_rfl⟩
instance fi45 : FI Try.prog 45 := ⟨fun args w => by kernel_rfl⟩
instance fi46 : FI Try.prog 46 := ⟨fun args w => by kernel_rfl⟩
instance fi47 : FI Try.prog 47 := ⟨fun args w => by kernel_rfl⟩
instance fi48 : FI Try.prog 48 := ⟨fun args w => by kernel_rfl⟩
instance fi49 : FI Try.prog 49 := ⟨fun args w => by kernel_rfl⟩
instance fi50 : FI Try.prog 50 := ⟨fun args w => by kernel_rfl⟩
instance fi51 : FI Try.prog 51 := ⟨fun args w => by kernel_rfl⟩
instance fi52 : FI Try.prog 52 := ⟨fun args w => by kernel_rfl⟩
instance fi53 : FI Try.prog 53 := ⟨fun args w => by kernel_rfl⟩
instance fi54 : FI Try.prog 54 := ⟨fun args w => by kernel_rfl⟩
instance fi55 : FI Try.prog 55 := ⟨fun args w => by kernel_rfl⟩
instance fi56 : FI Try.prog 56 := ⟨fun args w => by kernel_rfl⟩
instance fi57 : FI Try.prog 57 := ⟨fun args w => by kernel_rfl⟩
instance fi58 : FI Try.prog 58 := ⟨fun args w => by kernel_rfl⟩
instance fi59 : FI Try.prog 59 := ⟨fun args w => by kernel_rfl⟩
instance fi60 : FI Try.prog 60 := ⟨fun args w => by kernel_rfl⟩
instance fi61 : FI Try.prog 61 := ⟨fun args w => by kernel_rfl⟩
instance fi62 : FI Try.prog 62 := ⟨fun args w => by kernel_rfl⟩
noncomputable instance ts7 : TS Try.prog 7 := ⟨#[(0, 1), (1, 1), (2, 1), (3, 1)], fun w => by kernel_rfl⟩
noncomputable instance ts13 : TS Try.prog 13 := ⟨#[(0, 1), (1, 1)], fun w => by kernel_rfl⟩
noncomputable instance ts18 : TS Try.prog 18 := ⟨#[(0, 1)], fun w => by kernel_rfl⟩
noncomputable instance ts29 : TS Try.prog 29 := ⟨#[(0, 1), (1, 1)], fun w => by kernel_rfl⟩
noncomputable instance ts30 : TS Try.prog 30 := ⟨#[(0, 1), (1, 1)], fun w => by kernel_rfl⟩
noncomputable instance ts43 : TS Try.prog 43 := ⟨#[(0, 1), (1, 1)], fun w => by kernel_rfl⟩
noncomputable instance ts44 : TS Try.prog 44 := ⟨#[(0, 1), (1, 1)], fun w => by kernel_rfl⟩
noncomputable instance ts55 : TS Try.prog 55 := ⟨#[(0, 1), (1, 1)], fun w => by kernel_rfl⟩
noncomputable instance ts56 : TS Try.prog 56 := ⟨#[(0, 1), (1, 1)], fun w => by kernel_rfl⟩
noncomputable instance ts78 : TS Try.prog 78 := ⟨#[(0, 1), (1, 1), (2, 1), (3, 1)], fun w => by kernel_rfl⟩
noncomputable instance ts81 : TS Try.prog 81 := ⟨#[(0, 0)], fun w => by kernel_rfl⟩
noncomputable instance ts91 : TS Try.prog 91 := ⟨#[(0, 1), (1, 1), (2, 1), (3, 1), (4, 1), (5, 1), (6, 1), (7, 1), (8, 1), (9, 1), (10, 1)], fun w => by kernel_rfl⟩
end Go.Proofs.Ytjkkkjikhjfdnaa
