import Derived.Test.YtalkkcfojplmdaaGreatDoorMn8
import Derived.Test.YtalkkcfojplmdaaGreatDoorCards
import Derived.Test.YtalkkcfojplmdaaGreatDoorTie
import Derived.SliceStrings
import Derived.WalkKit
import Derived.ProofKit
import Derived.OpenShut
import Derived.LaidMore
import Derived.Stop.Joined
import Derived.Stop.LaidErr
import Derived.Deep.DeepHandedRow
import Derived.Lib.LaidTab
import Derived.Lib.SmallJoins
import Derived.Carry
section
namespace Go.Proofs.YtalkkcfojplmdaaGreatDoor
open Go.Vc
attribute [local irreducible] JL JC JQ OpWp Con ConN HOk
attribute [local irreducible] StG BlG runO runF ckF
set_option maxHeartbeats 4000000
theorem mp_eq:aset (aset (aset ([]:List (ByteArray × ByteArray)) Ni Nv1) Nk Nv2) Nn Nv3=mpN:=by decide +kernel
theorem gSameO_c (o:Out):Con Tryz.prog 22 [.row (OutRow o),.row (OutRow o)] [] (fun K=>K (Bl true) []):=by
 have h:=rSame_c o
 refine con_intro Tryz.func22 O O b_ (fun c hc=>R_ (o_ O (ci_ O (fun bx=>o_ O (ci_ O (fun bx=>E_ O (T_ (R_ (A_ 1 O (A_ 0 O (o_ O (bm_ O (h) (E_ O (T_ (ar_ (jq_ret1 O O [] O (fun K h=>h)))))))))))))))))
theorem CheckNames_c (L:List Int) (hL:InR L) :
 Con Tryz.prog 3 [.cell (.list (L.map Irow))] [] (fun K=>K (Bl true) []):=by
 have ha:=awake5_c
 refine con_intro Tryz.func3 O O b_ (fun c hc=>?_)
 by_cases hLn:L.length≤400
 ·have hd:(!decide (L.length≤400))=false:=by simp [hLn]
  refine ZV ?_
  refine bm_ O (gFew_c _) (o_ O (ce_ O (T_ (ap_ O v_ (as_ (al_ (R_ (M_ O (o_ O (bt_ [] O O (gNewT_c L) (fun bd hbd=>E_ O ?_)))))))))))
  refine T_ (R_ (M_ O (o_ O (bt_ [0] O O (gProgram_c hL hLn 1) (fun p hp=>?_)))))
  rw [show (max 1 (min (1:Int) 6)).toNat=1 from rfl] at hp
  have hlen:=hp.len
  have h0:0 < p.tasks.length:=by omega
  have hck:=made_ck (by omega) (by omega) hp
  have hok:=made_ok (by omega) hp
  have hrn:=made_rn hp
  have hshz:=made_shz hp.shared
  have hiz:=made_inz (hp.tasks 0 h0)
  have hln:=hok.2 _ (List.getElem_mem h0)
  have hsz:=(hp.tasks 0 h0).sz.body
  obtain ⟨rck,rok,rrn,hbd2⟩:=ren_right (by omega) hp h0
  have hrr:=ren_run hp h0 (hrn hck _ (List.getElem_mem h0))
  have hRn:=renamed_c (p.tasks[0]).body hln hsz
  rw [hbd2] at hRn
  have hW1:=cWeight_c (p.tasks[0]).body
  have hW2:=cWeight_c (Sm.rens swN (p.tasks[0]).body)
  rw [wAll_ren] at hW2
  have hC1:=cProgram5_c p hok
  rw [hck] at hC1
  have hC2:=cProgram5_c _ rok
  rw [rck] at hC2
  have hE:∀ (ins:List Int) (ss:List (List Int)),fitB (p.tasks[0]).inputs ins=true→filB p.shared ss=true→Con Tryz.prog 19 [.row p.row,In .i64 0,.cell (.list (ins.map Irow)),.cell (.list (ss.map LRow))] [] (fun K=>K (.tup [.row (OutRow (runO p p.tasks[0] ins ss)),In .i64 0]) []):=fun ins ss h1 h2=>by
   have:=gRun_c p hok hrn ((0:Nat):Int) ins ss
   rwa [runF_in hck h0 h1 h2] at this
  have hE2:∀ (ins:List Int) (ss:List (List Int)),fitB (p.tasks[0]).inputs ins=true→filB p.shared ss=true→Con Tryz.prog 19 [.row (renP p p.tasks[0]).row,In .i64 0,.cell (.list (ins.map Irow)),.cell (.list (ss.map LRow))] [] (fun K=>K (.tup [.row (OutRow (runO p p.tasks[0] ins ss)),In .i64 0]) []):=fun ins ss h1 h2=>by
   have:=gRun_c _ rok (fun _=>rrn) ((0:Nat):Int) ins ss
   rw [runF_in rck (k:=0) (by show 0 < 1; omega) h1 h2] at this
   rw [← hrr]
   exact this
  clear hok hrn hck rok rrn rck hrr hln hsz hbd2
  obtain ⟨res,shd,tsk⟩:=p
  dsimp only at hlen h0
  obtain ⟨t,rfl⟩:∃ t,tsk=[t]:=by
   match tsk,hlen with
   | [t],_=>exact ⟨t,rfl⟩
  simp only [List.getElem_cons_zero] at hRn hW1 hW2 hC2 hE hE2 hiz
  clear hp hlen h0
  refine Yn (fun bl=>?_)
  refine am_ ?_
  generalize bl=bp at *
  refine an_ (A_ 0 O (Yn (fun bl=>?_)))
  refine am_ ?_
  generalize bl=bq at *
  refine an_ (F_ O (L_ 1 O (o_ O (ow_indexAddrN 0 O O O O O b_ (o_ O (cr_ O O O (Yn (fun bl=>?_))))))))
  refine am_ ?_
  generalize bl=bt at *
  refine an_ (YF ?_)
  refine F_ O (W_ 0 O (T_ (Yh ?_)))
  refine ow_makeMapE ByteArray ByteArray Value.string (fun bm hbm=>ag_ (ow_mapIns (κ:=ByteArray) (vv:=Value.string) 0 O O O O O (ag_ (ow_mapIns (κ:=ByteArray) (vv:=Value.string) 0 O O O O O (ag_ (ow_mapIns (κ:=ByteArray) (vv:=Value.string) 0 O O O O O (jl_freezeM 30 0 O O hbm ?_)))))))
  rw [mp_eq]
  refine M_ O (o_ O (bm_ O (hRn) (F_ O (W_ 0 O (T_ (R_ (A_ 0 O (YF ?_))))))))
  refine F_ O (W_ 2 O (T_ (am_ (jc_reset [(3,Ptr bd),(4,Ptr bp),(5,Ptr bq),(6,Ptr bt)] [.blk bp 31 (renP ⟨res,shd,[t]⟩ t).row,.blk bq 31 (Pg.row ⟨res,shd,[t]⟩),.blk bt 39 (renT t).row,Dk bd L] ?_ ?_ ?_))))
  ·exact Wv
  ·exact bc_ 0 O (bc_ 1 O (bc_ 0 O (bc_ 0 O sub_end)))
  refine jc_cut (ι:=List Int × List (List Int)) [] (fun i=>fitB t.inputs i.1=true∧filB shd i.2=true) (fun i=>[(4,Ptr bp),(5,Ptr bq),(6,Ptr bt),(7,.cell (.list (i.1.map Irow))),(8,.cell (.list (i.2.map LRow)))]) (fun i=>[.blk bp 31 (renP ⟨res,shd,[t]⟩ t).row,.blk bq 31 (Pg.row ⟨res,shd,[t]⟩),.blk bt 39 (renT t).row]) ?_ ?_
  ·have gI:=gInputsL_c (bd:=bd) hL hLn (renT t) hiz
   have gS:=gSharedL_c (bd:=bd) hL hLn (renP ⟨res,shd,[t]⟩ t) hshz
   refine jc_hpM2 7 (n:=8) O 0 2 k_ O O (fun cs1 cs2 hcs1 hv1 hcs2 hv2=>?_)
   obtain ⟨u10,u11,u12,rfl⟩:=len3 hcs1
   obtain ⟨u20,u21,u22,u23,u24,u25,u26,u27,u28,u29,u210,rfl⟩:=len11 hcs2
   obtain rfl:=Option.some.inj (hv2 0 _ rfl)
   obtain rfl:=Option.some.inj (hv2 1 _ rfl)
   obtain rfl:=Option.some.inj (hv2 2 _ rfl)
   obtain rfl:=Option.some.inj (hv2 3 _ rfl)
   obtain rfl:=Option.some.inj (hv2 4 _ rfl)
   refine hp_know 0 O mem0 ?_
   dsimp only [List.zipWith,know]
   refine hp_know 2 O mem1 ?_
   dsimp only [List.zipWith,know]
   refine hp_pani ZP (fun hPan=>?_)
   refine df_ (i:=0) O k_ k_ k_ b_ hPan (dk_ O) (df_ (i:=1) O k_ k_ k_ b_ hPan (hok_loadAllK 0 O O O mem1 O) (df_ (i:=3) O k_ k_ k_ b_ hPan (dk_ O) (df_ (i:=4) O k_ k_ k_ b_ hPan (hok_loadAllK 1 O O O mem0 O) (dg_ (i:=2) O k_ b_ (bt_ [3] O O (gI) (fun pp hpp=>⟨?_,?_⟩))))))
   exact keepK2 2 1 O O O O
   refine dg_ (i:=5) O k_ b_ (bt_ [0] O O (gS) (fun pp hpp=>⟨?_,?_⟩))
   exact keepK2 2 1 O O O O
   refine df_ (i:=6) O k_ k_ k_ b_ hPan (hok_assign O) (df_ (i:=7) O k_ k_ k_ b_ hPan (hok_assign O) (hp_done k_ ?_))
   clear hPan
   refine jq_unk [u10,u11,u12] 2 O O ?_
   dsimp only [List.map,unk]
   refine jq_unk [_,_,_,_,_,u25,u26,u27,u28,u29,u210] 2 O O ?_
   dsimp only [List.map,unk]
   rename_i pI hpI
   refine jq_cutS (pI,pp) ⟨hpI,hpp⟩ ?_ ?_
   ·exact bc_ 1 O (bc_ 2 O (bc_ 0 O sub_end))
   ·exact Wv
  rintro ⟨I,SS⟩ ⟨hf,hs⟩
  dsimp only at hf hs ⊢
  have hE:=hE I SS hf hs
  have hE2:=hE2 I SS hf hs
  generalize runO ⟨res,shd,[t]⟩ t I SS=o at hE hE2
  have hSO:=gSameO_c o
  obtain ⟨ov,oa,os,oc,ost⟩:=o
  dsimp only [OutRow] at hE hE2 hSO
  clear hf hs hL hLn hiz hshz
  refine R_ (A_ 0 O (M_ O (M_ O (o_ O (bm_ O (hE2) (M_ O (X_ O (X_ O (o_ O (bl_ O O (fun bl=>S_ 0 O (E_ O (T_ (am_ ?_))))))))))))))
  generalize bl=b1 at *
  refine an_ (A_ 2 O (M_ O (M_ O (o_ O (bm_ O (hE) (M_ O (X_ O (X_ O (o_ O (bl_ O O (fun bl=>S_ 0 O (E_ O (T_ (am_ ?_))))))))))))))
  generalize bl=b2 at *
  refine ao_ O O k_ k_ (aa_ (fun c=>bs_ 2 O O O O p_) (aa_ (fun c=>bm_ O (hC2) p_) (aa_ (fun c=>bn_ O O p_) (yM_ O (ab_ O O (fun c=>bs_ 3 O O O O p_) (ab_ O O (fun c=>bm_ O (hC1) p_) (ab_ O O (fun c=>bn_ O O p_) (aa_ (fun c=>bp_ O x_ O p_) (yM_ O (ab_ O O (fun c=>bf_ O O O b_ p_) (ab_ O O (fun c=>bg_ 4 O O O O p_) (ab_ O O (fun c=>bm_ O (hW2) p_) ?_))))))))))))
  refine ab_ O O (fun c=>bf_ O O O b_ p_) (ab_ O O (fun c=>bg_ 3 O O O O p_) (ab_ O O (fun c=>ow_indexAddrN 0 O O O O O b_ p_) (ab_ O O (fun c=>cf_ O O O b_ O b_ p_) (ab_ O O (fun c=>cb_ O O p_) (ab_ O O (fun c=>bm_ O (hW1) p_) (ab_ O O (fun c=>bn_ O O p_) (aa_ (fun c=>bp_ O x_ O p_) (yM_ O (ab_ O x_ (fun c=>bd_ O p_) (ab_ O x_ (fun c=>bn_ O O p_) ?_))))))))))
  refine aa_ (fun c=>bp_ O x_ O p_) (yM_ O (ab_ O x_ (fun c=>bd_ O p_) (ab_ O x_ (fun c=>bn_ O O p_) (aa_ (fun c=>bp_ O x_ O p_) (yM_ O (ab_ O x_ (fun c=>bs_ 1 O O O O p_) (ab_ O x_ (fun c=>bs_ 0 O O O O p_) (ab_ O x_ (fun c=>bm_ O (hSO) p_) (aa_ (fun c=>bp_ O x_ O p_) (yM_ O (ab_ O O (fun c=>bm_ O (ha) p_) (aa_ (fun c=>bp_ O O O p_) (yE_ O (ae_ (al_ ?_)))))))))))))))
  refine ar_ (jq_ret1 O O [] O (fun K h=>h))
 ·have hd:(!decide (L.length≤400))=true:=by simp [hLn]
  refine ZV ?_
  refine bm_ O (gFew_c _) (o_ O (ce_ O (T_ (aq_ O u_ (R_ (o_ O (bm_ O (ha) (E_ O (T_ (ar_ (aw_ ?_)))))))))))
  refine jq_ret1 O O [] O (fun K h=>h)
end Go.Proofs.YtalkkcfojplmdaaGreatDoor
end
section
namespace Go.Vc
open Go.ChangeShapes Go.WideShapes Go.ChangeAt Go.RowKit Go.Joins Go.Deep
theorem strs_inj {H:Type}:∀ {a b:List ByteArray},(strs a:List (DataW H))=strs b→a=b
 | [],[],_=>rfl
 | [],_ :: _,h=>by simp [strs] at h
 | _ :: _,[],h=>by simp [strs] at h
 | x :: a,y :: b,h=>by
  simp only [strs,List.map_cons,List.cons.injEq,DataW.lit.injEq,Lit.string.injEq] at h
  have e:x=y:=by
   cases x; cases y
   simp only at h
   congr 1
   exact Array.ext' h.1
  subst e
  rw [strs_inj (H:=H) (a:=a) (b:=b) h.2]
section
variable {H:Type} {enc:TypeId × Value→H} {P:Program}
theorem rd_strings {W:World} {t e:TypeId} (ht:P.underlying t=some (.slice e)) (he:P.underlying e=some .string) (hc:P.cellsOf e=1) {cs:List Value} {L:List ByteArray} {ps:List MemPlace} {base:Nat} {sp:Nat→Bool} {held:Bool} {fuel:Nat} (h0:0 < L.length)
 (h:DataW.trod enc P W base sp held fuel t cs=some ((.slice (strs L) []:DataW H),ps)):∃ v,cs=[v]∧Rd1 W (fun _=>False) (.list (L.map fun s=>[.val (.string s)])) v:=by
 rcases open_strings ht he hc h with ⟨_,hx⟩ | ⟨a,len,cap,ss,rfl,_,hle,hcap,hz,hx,hcell,_⟩
 ·cases hx
 ·simp only [Prod.mk.injEq,DataW.slice.injEq] at hx
  have hL:L=ss.take len:=strs_inj hx.1.1
  have hlen:L.length=len:=by
   rw [hL,List.length_take]
   have:len≤ss.length:=by rw [hz]; split <;> omega
   omega
  refine ⟨_,rfl,some a,cap,by rw [List.length_map,hlen],by rw [List.length_map,hlen]; exact hle,hcap,?_⟩
  have hss:len≤ss.length:=by rw [hz]; split <;> omega
  have h1:=hcell 0 (by omega)
  have hsp:a.spot=none:=by simpa [Addr.add] using World.cell?_spot h1
  obtain ⟨b,off,sp⟩:=a
  simp only at hsp
  subst hsp
  refine .inr ⟨b,off,L.map Value.string,1,rfl,id,?_,Nat.one_pos,?_⟩
  ·intro j u hj
   rw [List.getElem?_map,Option.map_eq_some_iff] at hj
   obtain ⟨z,hz1,rfl⟩:=hj
   have hjl:j < L.length:=(List.getElem?_eq_some_iff.1 hz1).1
   have:=hcell j (by omega)
   rw [add_at] at this
   rw [this]
   congr 2
   rw [List.getD_eq_getElem?_getD]
   rw [hL,List.getElem?_take] at hz1
   split at hz1
   ·rw [hz1]; rfl
   ·cases hz1
  ·clear hL hlen h0 h hx
   induction L with
   | nil=>rfl
   | cons s L ih=>exact ⟨[.string s],_,rfl,rfl,⟨.string s,[],rfl,⟨rfl,rfl⟩,rfl⟩,ih⟩
theorem cells_of_strs {w:World} {base:Nat} {sp:Nat→Bool} {held:Bool} {fuel:Nat} {t e:TypeId} {n:Nat} {cs:List Value} {L:List ByteArray} {p:List MemPlace}
 (ht:P.underlying t=some (.array n e)) (he:P.underlying e=some .string) (hce:P.cellsOf e=1) (hct:P.cellsOf t=n)
 (h:DataW.trod enc P w base sp held fuel t cs=some ((.agg (strs L):DataW H),p)):cs=L.map Value.string:=by
 cases fuel with
 | zero=>simp [DataW.trod] at h
 | succ fuel =>
  simp only [DataW.trod,ht,hce,hct,Nat.mul_one] at h
  split at h
  ·rename_i hl
   obtain ⟨xs,hm,hx⟩:=Option.map_eq_some_iff.1 h
   have hxs:xs.map (·.1)=(strs L:List (DataW H)):=by
    have:=congrArg Prod.fst hx
    simpa using this
   have hxl:xs.length=n:=by simpa using Lib.mapM_length hm
   have hzl:L.length=n:=by
    have:=congrArg List.length hxs
    simp [strs] at this
    omega
   apply List.ext_getElem?
   intro i
   by_cases hi:i < n
   ·obtain ⟨b,hb,hf⟩:=Lib.mapM_at hm i i (by simp [hi])
    obtain ⟨z,hc,rfl,_⟩:=DataW.trod_string he hf
    have h1:cs[i]?=some (.string z):=by
     have:=congrArg (·[0]?) hc
     simpa [List.getElem?_take,List.getElem?_drop] using this
    have h2:(xs.map (·.1))[i]?=some (DataW.lit (.string z.data.toList):DataW H):=by simp [hb]
    rw [hxs] at h2
    simp only [strs,List.getElem?_map,Option.map_eq_some_iff,DataW.lit.injEq,Lit.string.injEq] at h2
    obtain ⟨z',hz',e⟩:=h2
    have e2:z'=z:=by
     cases z; cases z'
     simp only at e
     congr 1
     exact Array.ext' e
    subst e2
    simp [h1,hz']
   ·rw [List.getElem?_eq_none (by omega),List.getElem?_eq_none (by simp; omega)]
  ·cases h
theorem gv_of_var {W:World} {name:String} {g:Nat} {cs:Array Value} {row:List C} (hg:P.globalNamed name=some g) (hvar:W.var? P name=some cs) (hr:RdRow W (fun _=>False) row cs.toList):GV W (fun _=>False) g row:=by
 unfold World.var? at hvar
 rw [hg] at hvar
 simp only [Option.bind_some] at hvar
 split at hvar
 ·rename_i cs' t f hh
  cases hvar
  exact ⟨id,_,t,f,hh,hr⟩
 ·cases hvar
end
theorem rdRow_strs {W:World} {A:Nat→Prop}:∀ L:List ByteArray,RdRow W A (L.map (fun s=>.val (.string s))) (L.map Value.string)
 | []=>rfl
 | s :: L=>⟨.string s,_,rfl,⟨rfl,rfl⟩,rdRow_strs L⟩
section
variable {H:Type} {enc:TypeId × Value→H} {P:Program}
end
end Go.Vc
end
section
namespace Go.Vc
open Go.RowKit Go.ChangeShapes Go.WideShapes
section
variable {H:Type} {enc:TypeId × Value→H} {P:Program}
theorem args_stay (hl:laidOutB P=true) {W W':World} (hb:Below W.heap.size W W'):∀ {ts:List TypeId} {vs:List Value} {ds:List (DataW H)} {ps:List MemPlace},ts.all (fun t=>P.readableRec t && decide (t < P.types.size))=true →
 DataW.TrodAll enc P W 0 (fun _=>true) true ts vs ds ps→(∀ p ∈ ps,p.block < W.heap.size)→DataW.TrodAll enc P W' 0 (fun b=>decide (b < W.heap.size)) true ts vs ds ps
 | [],vs,ds,ps,_,h,_=>by
  obtain ⟨rfl,rfl,rfl⟩:=trodAll_nil h
  rfl
 | t :: ts,vs,ds,ps,hr,h,hlt=>by
  simp only [List.all_cons,Bool.and_eq_true,decide_eq_true_eq] at hr
  obtain ⟨⟨h1,h2⟩,h3⟩:=hr
  obtain ⟨v,vr,d,dr,p,q,rfl,rfl,rfl,g1,g2⟩:=trodAll_cons h
  exact ⟨p,q,Below.trod hl h1 h2 g1 hb (fun x hx=>hlt x (List.mem_append.2 (.inl hx))),args_stay hl hb h3 g2 (fun x hx=>hlt x (List.mem_append.2 (.inr hx))),rfl⟩
theorem law_post {f:Func} {s:ChangeSpec} {W W':World} {args:Array Value} {ds:List (DataW H)} {before:List MemPlace} {bt:TypeId} (hv:s.vars=[]) (hW:DataW.Whole enc P f.params.toList s.vars false W args.toList ds [] before)
 (hr:(s.fn H (ds ++ [])).results=[.lit (.bool true)]) (ha:(s.fn H (ds ++ [])).args=ds) (hg:(s.fn H (ds ++ [])).vars=[]) (hrt:f.resultTypes=#[bt]) (hbt:P.underlying bt=some .bool)
 (hl:laidOutB P=true) (hrd:f.params.toList.all (fun t=>P.readableRec t && decide (t < P.types.size))=true) (hb:Below W.heap.size W W'):s.post enc P f false true false false W args (.bool true) W':=by
 have hlt:=hW.lt
 have hW':=hW
 obtain ⟨p,q,hA,hV,rfl,_,_⟩:=hW'
 rw [hv] at hV
 obtain ⟨_,rfl⟩:=trodVars_none hV
 refine ⟨ds,[],p ++ [],[],p,[],hW,?_,?_,?_,World.keptBut_mono (fun x hx=>⟨hx,.inr (.inl (by simpa using hx))⟩) (hb.frame (· ∈ p ++ [])),fun h=>by cases h⟩
 ·rw [hr,hrt]
  exact trodAll_mk1 (shut_bool hbt _)
 ·rw [ha]
  exact args_stay hl hb hrd hA (fun x hx=>hlt x (by simpa using hx))
 ·rw [hg,hv]
  rfl
theorem rd_ints {W:World} {t e:TypeId} {k:IntKind} (ht:P.underlying t=some (.slice e)) (he:P.underlying e=some (.int k)) (hc:P.cellsOf e=1) {v:Value} {d:DataW H} {ps:List MemPlace} (hs:∃ a len cap,v=.slice a len cap)
 (h:DataW.Trod enc P W 0 (fun _=>true) true t v d ps):∃ L:List Int,Rd1 W (fun _=>False) (.list (L.map (fun n=>[.val (.int k n)]))) v∧∀ n ∈ L,(Lit.int k n).wf=true:=by
 obtain ⟨a0,len0,cap0,rfl⟩:=hs
 obtain ⟨fuel,hf⟩:=h
 rcases open_ints ht he hc hf with ⟨hn,_⟩ | ⟨a,len,cap,zs,hcs,_,hle,hcap,hz,_,hcell,hwf⟩
 ·simp only [Value.cells,List.cons.injEq,Value.slice.injEq,and_true] at hn
  obtain ⟨rfl,rfl,rfl⟩:=hn
  exact ⟨[],⟨none,0,rfl,Nat.le_refl _,Nat.zero_le _,.inl rfl⟩,by simp⟩
 ·simp only [Value.cells,List.cons.injEq,Value.slice.injEq,and_true] at hcs
  obtain ⟨rfl,rfl,rfl⟩:=hcs
  simp only [if_true] at hz
  have hlen:(zs.take len0).length=len0:=by simp; omega
  refine ⟨zs.take len0,⟨some a,cap0,by rw [List.length_map,hlen],by rw [List.length_map,hlen]; exact hle,hcap,?_⟩,fun n hn=>hwf n (List.mem_of_mem_take hn)⟩
  by_cases h0:len0=0
  ·exact .inl (by rw [List.length_map,hlen]; exact h0)
  ·have h1:=hcell 0 (by omega)
   have hsp:a.spot=none:=by simpa [Addr.add] using World.cell?_spot h1
   obtain ⟨b,off,sp⟩:=a
   simp only at hsp
   subst hsp
   refine .inr ⟨b,off,(zs.take len0).map (Value.int k),1,rfl,id,?_,Nat.one_pos,?_⟩
   ·intro j u hj
    rw [List.getElem?_map,Option.map_eq_some_iff] at hj
    obtain ⟨z,hz1,rfl⟩:=hj
    rw [List.getElem?_take] at hz1
    split at hz1
    ·have hjl:j < zs.length:=by omega
     have:=hcell j hjl
     rw [add_at] at this
     rw [this]
     congr 2
     rw [List.getD_eq_getElem?_getD,hz1]
     rfl
    ·cases hz1
   ·generalize zs.take len0=L
    induction L with
    | nil=>rfl
    | cons n L ih=>exact ⟨[.int k n],L.map (Value.int k),rfl,rfl,⟨_,_,rfl,⟨rfl,rfl⟩,rfl⟩,ih⟩
theorem con_run [Gl P] {f:FuncId} {ss:List S} {vs:List Value} {W:World} (con:Con P f ss [] (fun K=>K (Bl true) [])) (hs:SOks W (fun _=>False) ss vs) (hgl:Gl.ok P W (fun _=>False):=by exact trivial):Calls P f vs.toArray W (fun e W'=>e=.returned (.bool true)∧Below W.heap.size W W'):=by
 refine (con vs W (fun _=>False) (fun _ h=>h.elim) (by simp [hb]) (by simp [hb]) hs (by simp) hgl).mono ?_
 rintro e W' ⟨v,s,Ho,rfl,hK,hv,_,_,_,hg⟩
 obtain ⟨rfl,rfl⟩:=hK (fun s' H'=>s'=Bl true∧H'=[]) ⟨rfl,rfl⟩
 obtain ⟨rfl,_⟩:=hv
 exact ⟨rfl,hg.os,hg.tape,hg.output,hg.size,fun k hk=>hg.block k hk (by simp [hb])⟩
end
end Go.Vc
end
section
namespace Go.Proofs.YtalkkcfojplmdaaGreatDoor
open Go.ChangeShapes Go.WideShapes Go.ChangeAt Go.RowKit Go.Vc Go.Joins Go.Deep
theorem own:ownKnob Tryz.prog.godebug=none:=by kernel_rfl
theorem laidOut:laidOutB Tryz.prog=true:=by kernel_rfl
theorem cells3:Tryz.prog.cellsOf 3=1:=by kernel_rfl
theorem cellsS:Tryz.prog.cellsOf 9=1:=by kernel_rfl
theorem gTab:Tryz.prog.globalNamed "internal/strconv.uint64pow10"=some 3:=by kernel_rfl
theorem gTabType:(Tryz.prog.globals[3]?).map (·.type)=some 239:=by kernel_rfl
theorem cellsTab:Tryz.prog.cellsOf 239=20:=by kernel_rfl
theorem cellsU64:Tryz.prog.cellsOf 202=1:=by kernel_rfl
theorem tabData_eq:(Rows.laid_internal_strconv_uint64pow10:DataW Unit)=Lib.tabData .u64 Lib.pow10Tab:=by kernel_rfl
theorem wordsData_eq:(Rows.laid_timebound_tree_words:DataW Unit)=.slice (strs words) []:=by kernel_rfl
theorem signsData_eq:(Rows.laid_timebound_tree_signs:DataW Unit)=.agg (strs signL):=by kernel_rfl
theorem gWords:Tryz.prog.globalNamed "timebound/tree.words"=some 0:=by kernel_rfl
theorem gWordsType:(Tryz.prog.globals[0]?).map (·.type)=some 27:=by kernel_rfl
theorem gSigns:Tryz.prog.globalNamed "timebound/tree.signs"=some 1:=by kernel_rfl
theorem gSignsType:(Tryz.prog.globals[1]?).map (·.type)=some 230:=by kernel_rfl
theorem cellsSigns:Tryz.prog.cellsOf 230=14:=by kernel_rfl
theorem gl_of {W:World} (h:laidMetH Tryz.prog Rows.evalCountsRow.laid W):Gl.ok Tryz.prog W (fun _=>False):=by
 have h1:laidMet Tryz.prog Rows.evalCountsRow.laid W:=h
 have h2:=laidMet.tail (laidMet.tail h1)
 have h3:=laidMet.tail h2
 have h4:=laidMet.tail h3
 rw [tabData_eq] at h2
 rw [wordsData_eq] at h3
 rw [signsData_eq] at h4
 refine ⟨⟨3,gTab,id,Lib.tabIs_of_head gTab gTabType Tryz.underlying239 Tryz.underlying202 cellsU64 cellsTab h2⟩,?_,?_⟩
 ·obtain ⟨ps,⟨g',t',cs,fuel,p,q,hg',ht',hvar,hd,_,_⟩,_⟩:=h3
  obtain rfl:=Option.some.inj (gWords.symm.trans hg')
  obtain rfl:=Option.some.inj (gWordsType.symm.trans ht')
  obtain ⟨v,hcs,hr⟩:=rd_strings Tryz.underlying27 Tryz.underlying9 cellsS (by decide) hd
  exact gv_of_var gWords hvar (by rw [hcs]; exact ⟨v,[],rfl,hr,rfl⟩)
 ·obtain ⟨ps,⟨g',t',cs,fuel,p,q,hg',ht',hvar,hd,_,_⟩,_⟩:=h4
  obtain rfl:=Option.some.inj (gSigns.symm.trans hg')
  obtain rfl:=Option.some.inj (gSignsType.symm.trans ht')
  have e:=cells_of_strs Tryz.underlying230 Tryz.underlying9 cellsS cellsSigns hd
  exact gv_of_var gSigns hvar (by rw [e]; exact rdRow_strs signL)
noncomputable def laidWorld (os:Os):World:=World.doorLaid Tryz.prog 400 os
theorem laid_met (os:Os) (args:Array Value):laidMet Tryz.prog Rows.evalCountsRow.laid ((laidWorld os).forCall (fun _ _=>0) ⟨#[],args,[]⟩).memory :=
 laidMet_of_run' 8 (by kernel_rfl) (by kernel_rfl)
end Go.Proofs.YtalkkcfojplmdaaGreatDoor
end