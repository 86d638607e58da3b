import Derived.Test.YtalkkcfojplmdaaGreatDoorMy8
import Derived.Deep.DeepWitnessRowRef
section
namespace Go.Proofs.YtalkkcfojplmdaaGreatDoor.checkMade
open Go.ChangeShapes Go.WideShapes Go.ChangeAt Go.RowKit Go.Vc Go.Joins
set_option maxRecDepth 100000 in
theorem contract (H:Type) (enc:TypeId × Value→H) (W:World) (base:Nat) (args:Array Value) (ds gs:List (DataW H)) (before:List MemPlace)
 (hval:∀ (j:Nat) t v,Tryz.f5.params[j]?=some t→args[j]?=some v→Value.okWide Tryz.prog W .any base t v)
 (hW:DataW.Whole enc Tryz.prog Tryz.f5.params.toList Rows.checkMadeSpec.vars false W args.toList ds gs before) (hL:laidMetH Tryz.prog Rows.checkMadeRow.laid W) :
 Calls Tryz.prog 5 args W fun e W'=>∃ v,e=.returned v∧Rows.checkMadeSpec.post enc Tryz.prog Tryz.f5 false true false false W args v W':=by
 have hW':=hW
 obtain ⟨p,q,hA0,hV,rfl,hfz,hnd⟩:=hW
 have hA:DataW.TrodAll enc Tryz.prog W 0 (fun _=>true) true Tryz.f5.params.toList args.toList ds p:=hA0
 rw [Tryz.params5] at hA hval
 obtain ⟨v0,vs0,d0,ds0,p0,q0,hargs,rfl,rfl,h0,r0⟩:=trodAll_cons hA
 obtain ⟨v1,vs1,d1,ds1,p1,q1,rfl,rfl,rfl,h1,r1⟩:=trodAll_cons r0
 obtain ⟨rfl,rfl,rfl⟩:=trodAll_nil r1
 obtain rfl:args=#[v0,v1]:=by cases args; simp_all
 obtain ⟨rfl,rfl⟩:=trodVars_none hV
 obtain ⟨L0,hL0,hwf0⟩:=rd_ints Tryz.underlying22 Tryz.underlying3 cells3 (okWide_slice Tryz.underlying22 (hval 0 22 v0 rfl rfl)) h0
 have hn0:∀ n ∈ L0,-9223372036854775808≤n∧n≤9223372036854775807:=fun n hn=>by simpa [Lit.wf,IntKind.min,IntKind.max,IntKind.signed,IntKind.bits] using hwf0 n hn
 obtain ⟨n1,rfl,rfl,rfl,w1⟩:=open_int Tryz.underlying3 (hval 1 3 v1 rfl rfl) h1
 have hn1:-9223372036854775808≤n1∧n1≤9223372036854775807:=by simpa [Lit.wf,IntKind.min,IntKind.max,IntKind.signed,IntKind.bits] using w1
 refine (con_run (vs:=[v0,.int .i64 n1]) (CheckMade_c L0 hn0 n1 hn1) ⟨_,_,rfl,hL0,_,_,rfl,⟨rfl,rfl⟩,rfl⟩ (gl_of hL)).mono ?_
 rintro e W' ⟨rfl,hb⟩
 exact ⟨_,rfl,law_post rfl hW' rfl rfl rfl rfl Tryz.underlying4 laidOut (by kernel_rfl) hb⟩
theorem reads (os:Os) {H:Type} (enc:TypeId × Value→H):∃ places,DataW.whole enc Tryz.prog ((laidWorld os).forCall (fun _ _=>0) ⟨#[],#[.slice none 0 0,.int .i64 0],[]⟩).memory Tryz.f5.params.toList Rows.checkMadeSpec.vars false #[Value.slice none 0 0,.int .i64 0].toList 8=some ([.nil,.lit (.int .i64 0)],[],places) :=
 ⟨[],by kernel_rfl⟩
set_option maxRecDepth 100000 in
theorem lifted (os:Os) (started:os.Started) (H:Type) (enc:TypeId × Value→H) (F:Stop.Interp) :
 ReturnsInHanded {} Tryz.checked os 5 .any ((OpenSpec.ofChange Rows.checkMadeSpec).preRow enc Tryz.prog Tryz.f5 Rows.checkMadeRow.domain false Rows.checkMadeRow.laid) (((OpenSpec.ofChange Rows.checkMadeSpec).at F).post enc Tryz.prog Tryz.f5 false true false false):=by
 obtain ⟨places,hx⟩:=reads os enc
 refine returnsInHanded_of_row (C:=Tryz.checked) (s:=OpenSpec.ofChange Rows.checkMadeSpec) own started (by kernel_rfl) Tryz.func5
  (witness_row_atRef (enc:=enc) (C:=Tryz.checked) false (laidWorld os) _ rfl (by kernel_rfl) (by kernel_rfl) (by kernel_rfl)
   (OpenSpec.preRow_of_cond 8 hx (by kernel_rfl) (fun k hk=>by cases hk) (by kernel_rfl) (laid_met os _))) ?_
 intro W base args ds gs before hval hW _ _ _ hL _ _
 exact contract H enc W base args ds gs before hval hW hL
end Go.Proofs.YtalkkcfojplmdaaGreatDoor.checkMade
end