import Derived.Test.YtalkkcfojplmdaaGreatDoorMn7
section
namespace Go.Proofs.YtalkkcfojplmdaaGreatDoor
open Go.Vc
attribute [local irreducible] JL JC JQ OpWp Con ConN HOk
set_option maxHeartbeats 4000000
end Go.Proofs.YtalkkcfojplmdaaGreatDoor
end
section
namespace Go.Vc
open Go.RowKit
set_option maxHeartbeats 1000000
section
variable {P:Program} [Gl P] {nt:Nat} {c:Cx P nt} {env:Env} {H Hr:List Ch} {ops:Array Oper} {Q:Exit→Act→World→Prop}
theorem RowsLe.map {α:Type _} {f g:α→List C} (h:∀ a,RowLe (f a) (g a)):∀ l:List α,RowsLe (l.map f) (l.map g)
 | []=>RowsLe.nil
 | a :: l=>.cons (h a) (RowsLe.map h l)
end
end Go.Vc
end
section
namespace Go.Proofs.YtalkkcfojplmdaaGreatDoor
open Go.Vc
attribute [local irreducible] JL JC JQ OpWp Con ConN HOk
attribute [local irreducible] evJ evF Jb.arr
set_option maxHeartbeats 4000000
end Go.Proofs.YtalkkcfojplmdaaGreatDoor
end
section
namespace Go.Proofs.YtalkkcfojplmdaaGreatDoor
open Go.Vc
attribute [local irreducible] JL JC JQ OpWp Con ConN HOk
set_option maxHeartbeats 4000000
theorem SameInts_c (a b:List Int):Con Tryz.prog 39 [.cell (.list (a.map Irow)),.cell (.list (b.map Irow))] [] (fun K=>K (Bl (decide (a=b))) []):=by
 have eA:(a.map Irow).length=a.length:=List.length_map _
 have eB:(b.map Irow).length=b.length:=List.length_map _
 refine con_intro Tryz.func39 O O b_ (fun c hc=>ZV ?_)
 refine br_ O (fun hlen=>M_ O (o_ O (br_ O (fun hlen=>o_ O (bx_ O O (T_ (jc_condd O (fun hne=>?_) (fun heq=>?_))))))))
 ·refine R_ (E_ O (T_ (ar_ (aw_ (jq_ret1 O O [] O (fun K h=>?_))))))
  rw [show decide (a=b)=false from decide_eq_false (fun e=>hne (by rw [e]))] at h
  exact h
 refine as_ (al_ (am_ (R_ (E_ O (T_ (au_ ?_))))))
 have hab:a.length=b.length:=by omega
 refine jc_loop [0,1] (fun k=>k≤a.length∧a.take k=b.take k) (fun k=>[(5,In .i64 (k:Int))]) (fun _=>[]) (fun k=>a.length - k) 0 [] ⟨Nat.zero_le _,rfl⟩ O ?_ ?_
 ·exact Wv
 ·rintro k ⟨hk,hke⟩
  refine Yl (fun hlen=>?_)
  refine T_ (jc_condd O (fun hlt=>?_) (fun hge=>?_))
  ·have hlt:k < a.length:=by omega
   have hltb:k < b.length:=by omega
   refine as_ (al_ (B_ (am_ (ZM ?_))))
   refine aa_ (fun c=>cb_ O O p_) (yM_ O (yM_ O (Ys ?_)))
   refine aa_ (fun c=>bx_ O O p_) (ae_ (al_ ?_))
   refine jc_condd O (fun hne=>?_) (fun hee=>?_)
   ·refine Zr ?_
    refine aw_ (jq_ret1 O O [] O (fun K h=>?_))
    rw [show decide (a=b)=false from decide_eq_false (fun e=>hne (by subst e; rfl))] at h
    exact h
   ·have hee':a[k]=b[k]:=by omega
    refine as_ (Zj ?_)
    refine jq_again (k+1) [] ⟨hlt,by rw [List.take_succ_eq_append_getElem hlt,List.take_succ_eq_append_getElem hltb,hke,hee']⟩ g_ O ?_
    exact Wv
  ·rw [List.take_of_length_le (by omega),List.take_of_length_le (by omega)] at hke
   subst hke
   refine av_ (ax_ (ax_ (ba_ (al_ (R_ (E_ O (T_ (ar_ (jq_ret1 O O [] O (fun K h=>by simpa using h))))))))))
theorem SameLists_c (a b:List (List Int)):Con Tryz.prog 129 [.cell (.list (a.map LRow)),.cell (.list (b.map LRow))] [] (fun K=>K (Bl (decide (a=b))) []):=by
 have eA:(a.map LRow).length=a.length:=List.length_map _
 have eB:(b.map LRow).length=b.length:=List.length_map _
 refine con_intro Tryz.func129 O O b_ (fun c hc=>ZV ?_)
 refine br_ O (fun hlen=>M_ O (o_ O (br_ O (fun hlen=>o_ O (bx_ O O (T_ (jc_condd O (fun hne=>?_) (fun heq=>?_))))))))
 ·refine R_ (E_ O (T_ (ar_ (aw_ (jq_ret1 O O [] O (fun K h=>?_))))))
  rw [show decide (a=b)=false from decide_eq_false (fun e=>hne (by rw [e]))] at h
  exact h
 refine as_ (al_ (am_ (R_ (E_ O (T_ (au_ ?_))))))
 have hab:a.length=b.length:=by omega
 refine jc_loop [0,1] (fun k=>k≤a.length∧a.take k=b.take k) (fun k=>[(5,In .i64 (k:Int))]) (fun _=>[]) (fun k=>a.length - k) 0 [] ⟨Nat.zero_le _,rfl⟩ O ?_ ?_
 ·exact Wv
 ·rintro k ⟨hk,hke⟩
  refine Yl (fun hlen=>?_)
  refine T_ (jc_condd O (fun hlt=>?_) (fun hge=>?_))
  ·have hlt:k < a.length:=by omega
   have hltb:k < b.length:=by omega
   have hS:=SameInts_c a[k] b[k]
   refine as_ (al_ (B_ (am_ (ZM ?_))))
   refine aa_ (fun c=>cb_ O O p_) (yM_ O (yM_ O (Ys ?_)))
   refine aa_ (fun c=>bm_ O (hS) p_) (aa_ (fun c=>ce_ O p_) (ae_ ?_))
   refine al_ (jc_cond O (fun hne=>?_) (fun hee=>?_))
   ·refine Zr ?_
    refine aw_ (jq_ret1 O O [] O (fun K h=>?_))
    rw [show decide (a=b)=false from decide_eq_false (fun e=>by subst e; simp at hne)] at h
    exact h
   ·have hee':a[k]=b[k]:=by simpa using hee
    refine as_ (Zj ?_)
    refine jq_again (k+1) [] ⟨hlt,by rw [List.take_succ_eq_append_getElem hlt,List.take_succ_eq_append_getElem hltb,hke,hee']⟩ g_ O ?_
    exact Wv
  ·rw [List.take_of_length_le (by omega),List.take_of_length_le (by omega)] at hke
   subst hke
   refine av_ (ax_ (ax_ (ba_ (al_ (R_ (E_ O (T_ (ar_ (jq_ret1 O O [] O (fun K h=>by simpa using h))))))))))
theorem SameIX_c (a:List Int):Con Tryz.prog 39 [.cell (.list (a.map Irow)),.cell (.list (a.map Irow))] [] (fun K=>K (Bl true) []):=by
 have:=SameInts_c a a
 rwa [decide_eq_true rfl] at this
theorem SameLX_c (l:List (List Int)):Con Tryz.prog 129 [.cell (.list (l.map LRow)),.cell (.list (l.map LRow))] [] (fun K=>K (Bl true) []):=by
 have:=SameLists_c l l
 rwa [decide_eq_true rfl] at this
theorem rSameEnd_c (o:Out):Con Tryz.prog 75 [.row (OutRow o),.row (OutRow o)] [] (fun K=>K (Bl true) []):=by
 refine con_intro Tryz.func75 O O b_ (fun c hc=>R_ (o_ O (ci_ O (fun bx=>o_ O (ci_ O (fun bx=>E_ O (T_ (R_ (F_ O (L_ 1 O (F_ O (L_ 0 O (o_ O (bm_ O (SameIX_c _) (Yi ?_)))))))))))))))
 refine bg_ 1 O O O O (ah_ O O b_ (bf_ O O O b_ ?_))
 refine ah_ O O b_ (bg_ 0 O O O O (ah_ O O b_ (bm_ O (SameLX_c _) (o_ O (bp_ O O O (Yi ?_))))))
 refine bg_ 1 O O O O (Ze ?_)
 refine bm_ O (SameLX_c _) (o_ O (bp_ O O O (E_ O (T_ (ar_ (jq_ret1 O O [] O (fun K h=>h)))))))
theorem rSame_c (o:Out):Con Tryz.prog 41 [.row (OutRow o),.row (OutRow o)] [] (fun K=>K (Bl true) []):=by
 refine con_intro Tryz.func41 O O b_ (fun c hc=>R_ (o_ O (ci_ O (fun bx=>o_ O (ci_ O (fun bx=>E_ O (T_ (R_ (F_ O (L_ 1 O (YO ?_)))))))))))
 refine ah_ O x_ b_ (bs_ 1 O O O O (ah_ O x_ b_ (bs_ 0 O O O O (ah_ O x_ b_ (bm_ O (rSameEnd_c o) ?_)))))
 refine o_ O (bp_ O x_ O (Yi ?_))
 refine bg_ 1 O O O O (Ze ?_)
 refine bm_ O (SameIX_c _) (o_ O (bp_ O O O (E_ O (T_ (ar_ (jq_ret1 O O [] O (fun K h=>h)))))))
end Go.Proofs.YtalkkcfojplmdaaGreatDoor
end
section
namespace Go.Proofs.YtalkkcfojplmdaaGreatDoor
open Go.Vc
attribute [local irreducible] progT StG BlG
set_option maxHeartbeats 1000000
structure Ez (x:T):Prop where
 fm:Fm x
 use:useB VS [] x=true
 wd:wdT x=true
 txt:(textT x).size≤40
 wp:wPartsL [x] 20 0≤5
 fr:∀ h,freeB [] h x=true
structure Ql (n w z c:Nat) (labs:List Int) (l:List Sm):Prop where
 md:∀ s ∈ l,mdS n s
 txt:∀ sp:ByteArray,sp.size+2 * n≤20→(stsT sp l).size≤z
 szs:Sm.szs l≤c
 nms:Sm.nmss VS [] [] l=true
 wds:Sm.wdss l=true
 lbs:Sm.lbss isIW l=labs
 lck:∀ h,Sm.lcks [] h l=true
 wgt:∀ f (m:Int),n≤f→0≤m→wAll f l m≤m+w
theorem lim_le (n:Int):lim n≤n:=by unfold lim; omega
theorem wAll_app (f:Nat):∀ (l m:List Sm) (n:Int),wAll f (l ++ m) n=wAll f m (wAll f l n)
 | [],m,n=>by rw [List.nil_append,wAll]
 | s :: l,m,n=>by rw [List.cons_append,wAll,wAll,wAll_app f l m]
theorem wAll_nn (f:Nat):∀ (l:List Sm) (n:Int),0≤n→0≤wAll f l n
 | [],n,h=>by rw [wAll]; exact h
 | s :: l,n,h=>by rw [wAll]; exact wAll_nn f l _ (lim_bd _ (by have:=wOne_bd f s; omega)).1
theorem mdS_mono:∀ (n:Nat) (s:Sm),mdS n s→mdS (n+1) s
 | 0,_,h=>h.elim
 | n+1,s,h=>by
  unfold mdS at h ⊢
  rcases h with h | h | ⟨x,lab,t,e,hx,hl,ht,he,rfl⟩ | ⟨x,mx,lab,t,hx,hm,hl,ht,rfl⟩ | ⟨v,t,hv,ht,rfl⟩
  ·exact .inl h
  ·exact .inr (.inl h)
  ·exact .inr (.inr (.inl ⟨x,lab,t,e,hx,hl,fun u hu=>mdS_mono n u (ht u hu),fun u hu=>mdS_mono n u (he u hu),rfl⟩))
  ·exact .inr (.inr (.inr (.inl ⟨x,mx,lab,t,hx,hm,hl,fun u hu=>mdS_mono n u (ht u hu),rfl⟩)))
  ·exact .inr (.inr (.inr (.inr ⟨v,t,hv,fun u hu=>mdS_mono n u (ht u hu),rfl⟩)))
theorem Ql.nil (n:Nat):Ql n 0 0 0 [] []:=⟨by simp,fun _ _=>by rw [stsT]; exact Nat.le_refl _,Nat.le_refl _,rfl,rfl,rfl,fun _=>rfl,fun f m _ _=>by rw [wAll]; omega⟩
theorem Ql.app {n w1 z1 c1 w2 z2 c2:Nat} {la lb:List Int} {l m:List Sm} (h:Ql n w1 z1 c1 la l) (g:Ql n w2 z2 c2 lb m):Ql n (w1+w2) (z1+z2) (c1+c2) (la ++ lb) (l ++ m):=by
 refine ⟨fun s hs=>?_,fun sp hsp=>?_,?_,?_,?_,?_,fun hd=>?_,fun f k hf hk=>?_⟩
 ·rcases List.mem_append.1 hs with hs | hs
  ·exact h.md s hs
  ·exact g.md s hs
 ·rw [stsT_app,ByteArray.size_append]
  have:=h.txt sp hsp
  have:=g.txt sp hsp
  omega
 ·rw [Sm.szs_app]; have:=h.szs; have:=g.szs; omega
 ·have:=h.nms; have:=g.nms
  rw [Sm.nmss_all,List.all_append,← Sm.nmss_all,← Sm.nmss_all,h.nms,g.nms]; rfl
 ·rw [Sm.wdss_all,List.all_append,← Sm.wdss_all,← Sm.wdss_all,h.wds,g.wds]; rfl
 ·rw [Sm.lbss_app,h.lbs,g.lbs]
 ·rw [Sm.lcks_all,List.all_append,← Sm.lcks_all,← Sm.lcks_all,h.lck,g.lck]; rfl
 ·rw [wAll_app]
  have h1:=h.wgt f k hf hk
  have h2:=g.wgt f (wAll f l k) hf (wAll_nn f l k hk)
  omega
theorem Ql.up {n w z c:Nat} {la:List Int} {l:List Sm} (h:Ql n w z c la l):Ql (n+1) w z c la l :=
 ⟨fun s hs=>mdS_mono n s (h.md s hs),fun sp hsp=>h.txt sp (by omega),h.szs,h.nms,h.wds,h.lbs,h.lck,fun f m hf hm=>h.wgt f m (by omega) hm⟩
theorem Ql.mono {n w z c w' z' c':Nat} {la:List Int} {l:List Sm} (h:Ql n w z c la l) (hw:w≤w') (hz:z≤z') (hc:c≤c'):Ql n w' z' c' la l :=
 ⟨h.md,fun sp hsp=>Nat.le_trans (h.txt sp hsp) hz,Nat.le_trans h.szs hc,h.nms,h.wds,h.lbs,h.lck,fun f m hf hm=>by have:=h.wgt f m hf hm; omega⟩
theorem VS_ok {s:ByteArray} (h:s ∈ VS):nmOk s∧s.size=1∧hasB VS s=true:=by
 simp only [List.mem_cons,List.not_mem_nil,or_false] at h
 rcases h with rfl | rfl | rfl <;> exact ⟨nmOk_lit (by decide +kernel),by decide,by decide +kernel⟩
theorem one_le (f:Nat) (s:Sm) (m:Int):wAll f [s] m≤m+wOne f s:=by rw [wAll,wAll]; exact lim_le _
theorem Ql.set {v:ByteArray} {x:T} (n:Nat) (hv:v ∈ VS) (hx:Ez x):Ql (n+1) 6 66 1 [] [.mk 1 v [] [x] 0 0 [] []]:=by
 have hv:=VS_ok hv
 refine ⟨fun s hs=>?_,fun sp hsp=>?_,by simp [Sm.szs,Sm.sz],?_,?_,rfl,fun hd=>?_,fun f m hf hm=>?_⟩
 ·rw [List.mem_singleton.1 hs]; exact .inl ⟨v,x,hv.1,hx.fm,rfl⟩
 ·rw [stsT,stsT,stT_leaf sp (.inl rfl),ByteArray.size_append,ByteArray.size_append]
  have:=hx.txt
  simp only [hdT,Sm.kind,Sm.name,Sm.value,tx1,if_true,ByteArray.size_append,show Kst.size=3 from rfl,show Knl.size=1 from rfl,ba_lit,List.length_nil]
  omega
 ·simp [Sm.nmss,Sm.nms,hv.2.2,hx.use]
 ·simp [Sm.wdss,Sm.wds,hx.wd]
 ·simp [Sm.lcks,Sm.lck,hx.fr]
 ·obtain ⟨g,rfl⟩:∃ g,f=g+1:=⟨f - 1,by omega⟩
  refine Int.le_trans (one_le _ _ _) ?_
  rw [wOne,if_pos (.inl rfl)]
  have h1:=lim_le (1+wPartsL (Sm.mk 1 v [] [x] 0 0 [] []).index 20 0+wPartsL (Sm.mk 1 v [] [x] 0 0 [] []).value 20 0)
  have h2:wPartsL (Sm.mk 1 v [] [x] 0 0 [] []).index 20 0=0:=rfl
  have h3:wPartsL (Sm.mk 1 v [] [x] 0 0 [] []).value 20 0=wPartsL [x] 20 0:=rfl
  have:=hx.wp
  omega
def VEq (V V':List (ByteArray × Int)):Prop:=∀ s,(aget V s).getD 0=(aget V' s).getD 0
theorem VEq.set {V V':List (ByteArray × Int)} (h:VEq V V') (k:ByteArray) (v:Int):VEq (aset V k v) (aset V' k v):=fun s=>by
 rw [aget_aset,aget_aset]
 split
 ·rfl
 ·exact h s
end Go.Proofs.YtalkkcfojplmdaaGreatDoor
end
section
namespace Go.Vc
open Go.RowKit
section
variable {P:Program} [Gl P] {nt:Nat} {c:Cx P nt} {env:Env} {H Hr:List Ch} {L:List (Nat × List Value × TypeId)} {t ty:TypeId} {pos:String} {af:Array Edge} {x:Operand}
theorem hok_loadAllK {d:Option Tmp} {b:Nat} {row:List C} {bt:TypeId} {cs:List Value} [TI P t] (j:Nat) (ha:aggB (TI.u P t)=true) (hx:env.ev x=some (.cell (.val (.pointer (some ⟨b,0,none⟩))))) (hp:pick [j] H=some ([.blk b bt row],Hr))
 (hm:(b,cs,bt) ∈ L) (hz:(TI.i P t).size=row.length):HOk c (Keep L) env H ⟨d,.load t x,ty,pos,af,none⟩ (.row (row.map unk)) :=
 fun a w hst hS=>by
  obtain ⟨v,h1,cs',h2,h3⟩:=hok_loadAll (d:=d) (ty:=ty) (pos:=pos) (af:=af) j ha hx hp hm hz a w hst hS
  exact ⟨v,h1,cs',h2,rdRow_unk h3⟩
end
section
variable {P:Program} [Gl P] {nt:Nat} {c:Cx P nt} {env:Env} {H Hr:List Ch} {K:S→List Ch→Prop}
end
section
variable {P:Program} [Gl P] {nt:Nat} {c:Cx P nt} {env:Env} {H Hr:List Ch} {ops:Array Oper} {Q:Exit→Act→World→Prop} {Sw:World→Prop}
variable {m fuel:Nat} {listed:Array Bool} {i j d:Nat} {op:Op} {ty:TypeId} {pos:String} {af:Array Edge} {want b:Bool}
end
section
variable {P:Program} [Gl P] {nt:Nat} {c:Cx P nt} {env:Env} {H:List Ch} {Sw:World→Prop} {t ty:TypeId} {pos:String} {af:Array Edge} {x y:Operand} {d:Option Tmp}
theorem hok_indexMapE [SL P t] {α:Type} {f:α→List C} {l:List α} {k:Nat} {row:List C} (hx:env.ev x=some (.cell (.list (l.map f)))) (hy:env.ev y=some (In .i64 (k:Int)))
 (hlt:k < l.length) (hrow:f l[k]=row) (hz:(TI.i P (SL.e P t)).size=row.length) (hp:0 < row.length):HOk c Sw env H ⟨d,.indexAddr t x y,ty,pos,af,none⟩ (.cell (.place row)) :=
 hok_indexList hx hy (by omega) (by subst hrow; simp [List.getElem?_eq_getElem hlt]) hz hp
theorem hok_fieldAddrP {row r:List C} {f off size:Nat} [TI P t] [TS P t] (hs:structB (TI.u P t)=true) (hx:env.ev x=some (.cell (.place row))) (hf:(TS.pl P t)[f]?=some (off,size))
 (hz:0 < size) (hr:(row.drop off).take size=r) (hp:0 < r.length):HOk c Sw env H ⟨d,.fieldAddr t x f,ty,pos,af,none⟩ (.cell (.place r)) :=
 fun a w h _=>by
  obtain ⟨b,o,vs,he,hb,_,hc,hrow⟩:=ev_ok h hx
  subst hr
  refine ⟨.pointer (some ⟨b,o+off,none⟩),fun w' _=>?_,place_sub hb hc hrow _ _ hp⟩
  simp only [execOp,he,Sem.run_bind,run_fieldAt t hs hf hz,Result.andThen_ok,Sem.run_pure]
end
end Go.Vc
end
section
namespace Go.Proofs.YtalkkcfojplmdaaGreatDoor
open Go.Vc
attribute [local irreducible] JL JC JQ OpWp Con ConN HOk
set_option maxHeartbeats 4000000
abbrev Ni:ByteArray:=⟨#[105]⟩
end Go.Proofs.YtalkkcfojplmdaaGreatDoor
end
section
namespace Go.Proofs.YtalkkcfojplmdaaGreatDoor
open Go.Vc
attribute [local irreducible] progT
set_option maxHeartbeats 1000000
section
variable {σ ρ:ByteArray→ByteArray}
theorem rens_app (l m:List Sm):Sm.rens σ (l ++ m)=Sm.rens σ l ++ Sm.rens σ m:=by rw [rens_map,rens_map,rens_map,List.map_append]
theorem ExG.ren {V U:List ByteArray} (hU:∀ s ∈ U,σ s=s∧ρ s=s) (hV:∀ s ∈ V,ρ s=σ s):∀ {d:Nat} {t:T},ExG V U d t→ExG (V.map σ) U d (t.ren σ)∧t.ren ρ=t.ren σ:=by
 intro d t h
 induction h with
 | nu d n h=>exact ⟨.nu d n h,rfl⟩
 | nm d s h=>exact ⟨.nm d _ (List.mem_map_of_mem h),by rw [T.ren,T.ren,hV s h]⟩
 | ix d s t h _ ih =>
  rw [T.ren,T.ren,ih.2,(hU s h).1,(hU s h).2]
  exact ⟨.ix d s _ h ih.1,rfl⟩
 | bn d o a b ho _ _ ia ib =>
  rw [T.ren,T.ren,ia.2,ib.2]
  exact ⟨.bn d o _ _ ho ia.1 ib.1,rfl⟩
theorem pc_ren {St St':Int→Int→List Sm→Prop} (h:∀ a b l,St a b l→St' a b (Sm.rens σ l)∧Sm.rens ρ l=Sm.rens σ l) {k:Nat} {a b:Int} {l:List Sm} (hp:PcG St k a b l):PcG St' k a b (Sm.rens σ l)∧Sm.rens ρ l=Sm.rens σ l:=by
 induction hp with
 | nil lab=>exact ⟨.nil lab,rfl⟩
 | snoc n lab lab1 lab2 l l2 _ h2 ih =>
  obtain ⟨g1,g2⟩:=h _ _ _ h2
  rw [rens_app,rens_app,ih.2,g2]
  exact ⟨.snoc _ _ _ _ _ _ ih.1 g1,rfl⟩
theorem bl_ren {St St':Int→Int→List Sm→Prop} (h:∀ a b l,St a b l→St' a b (Sm.rens σ l)∧Sm.rens ρ l=Sm.rens σ l) {m a b:Int} {l:List Sm} (hp:BlG St m a b l):BlG St' m a b (Sm.rens σ l)∧Sm.rens ρ l=Sm.rens σ l:=by
 obtain ⟨k,hk,hp⟩:=hp
 obtain ⟨g1,g2⟩:=pc_ren h hp
 exact ⟨⟨k,hk,g1⟩,g2⟩
theorem StG.ren {V A:List ByteArray} {Sh:List Shd} (hE:σ E0=E0∧ρ E0=E0) (hV:∀ s ∈ V,ρ s=σ s) (hU:∀ hs,∀ s ∈ usableF A Sh hs,σ s=s∧ρ s=s) (hR:∀ x ∈ Sh,σ x.2.2=x.2.2∧ρ x.2.2=x.2.2):∀ (d:Nat) (il:Int) (hs:ByteArray) (a b:Int) (l:List Sm),StG V A Sh d il hs a b l→StG (V.map σ) A Sh d il hs a b (Sm.rens σ l)∧Sm.rens ρ l=Sm.rens σ l:=by
 have leaf:∀ {hs:ByteArray} {a b:Int} {l:List Sm},LeafG V (usableF A Sh hs) a b l→LeafG (V.map σ) (usableF A Sh hs) a b (Sm.rens σ l)∧Sm.rens ρ l=Sm.rens σ l:=by
  rintro hs a b l ⟨rfl,⟨s,e,h1,h2,rfl⟩ | ⟨s,e1,e2,h1,h2,h3,rfl⟩⟩
  ·obtain ⟨g1,g2⟩:=h2.ren (hU hs) hV
   simp only [Sm.rens,Sm.ren,List.map_cons,List.map_nil,g2,hV s h1]
   exact ⟨⟨rfl,.inl ⟨_,_,List.mem_map_of_mem h1,g1,rfl⟩⟩,trivial⟩
  ·obtain ⟨g1,g2⟩:=h2.ren (hU hs) hV
   obtain ⟨g3,g4⟩:=h3.ren (hU hs) hV
   simp only [Sm.rens,Sm.ren,List.map_cons,List.map_nil,g2,g4,(hU hs s h1).1,(hU hs s h1).2]
   exact ⟨⟨rfl,.inr ⟨s,_,_,h1,g1,g3,rfl⟩⟩,trivial⟩
 intro d
 induction d with
 | zero=>intro il hs a b l h; exact leaf h
 | succ d ih =>
  intro il hs a b l h
  rcases h with h | ⟨hl,c,l1,l2,lab1,hc,hb1,hb2,rfl⟩ | ⟨hi,hl,⟨c,mx,l1,hc,hm,hb,rfl⟩ | ⟨v,n,op,top,mx,l1,st,hv,hn,ho,ht,hm,hst,hb,rfl⟩⟩ | ⟨hs0,sh,hsh,l1,hb,rfl⟩
  ·obtain ⟨g1,g2⟩:=leaf h
   exact ⟨.leaf g1,g2⟩
  ·obtain ⟨g1,g2⟩:=bl_ren (ih il hs) hb1
   obtain ⟨g3,g4⟩:=hc.ren (hU hs) hV
   have g5:(Sm.rens σ l2=[]∧b=lab1 ∨ BlG (StG (V.map σ) A Sh d il hs) 2 lab1 b (Sm.rens σ l2))∧Sm.rens ρ l2=Sm.rens σ l2:=by
    rcases hb2 with ⟨rfl,rfl⟩ | hb2
    ·exact ⟨.inl ⟨rfl,rfl⟩,rfl⟩
    ·obtain ⟨k1,k2⟩:=bl_ren (ih il hs) hb2
     exact ⟨.inr k1,k2⟩
   simp only [Sm.rens,Sm.ren,List.map_cons,List.map_nil,g2,g4,g5.2,hE.1,hE.2]
   exact ⟨.inr (.inl ⟨hl,_,_,_,_,g3,g1,g5.1,rfl⟩),trivial⟩
  ·obtain ⟨g1,g2⟩:=bl_ren (ih (il+1) hs) hb
   obtain ⟨g3,g4⟩:=hc.ren (hU hs) hV
   simp only [Sm.rens,Sm.ren,List.map_cons,List.map_nil,g2,g4,hE.1,hE.2]
   exact ⟨.inr (.inr (.inl ⟨hi,hl,.inl ⟨_,_,_,g3,hm,g1,rfl⟩⟩)),trivial⟩
  ·obtain ⟨g1,g2⟩:=bl_ren (ih (il+1) hs) hb
   have g3:(((∃ t,(0≤t∧t≤5)∧top.ren σ=.nu t) ∨ ∃ s ∈ V.map σ,top.ren σ=.nm s))∧top.ren ρ=top.ren σ:=by
    rcases ht with ⟨t,ht,rfl⟩ | ⟨s,hs,rfl⟩
    ·exact ⟨.inl ⟨t,ht,rfl⟩,rfl⟩
    ·exact ⟨.inr ⟨_,List.mem_map_of_mem hs,rfl⟩,by rw [T.ren,T.ren,hV s hs]⟩
   simp only [Sm.rens,Sm.ren,List.map_cons,List.map_nil,rens_app,T.ren,g2,g3.2,hE.1,hE.2,hV v hv]
   exact ⟨.inr (.inr (.inl ⟨hi,hl,.inr ⟨_,n,op,_,mx,_,st,List.mem_map_of_mem hv,hn,ho,g3.1,hm,hst,g1,rfl⟩⟩)),trivial⟩
  ·obtain ⟨g1,g2⟩:=bl_ren (ih il sh.2.2) hb
   simp only [Sm.rens,Sm.ren,List.map_nil,g2,(hR sh hsh).1,(hR sh hsh).2]
   exact ⟨.inr (.inr (.inr ⟨hs0,sh,hsh,_,g1,rfl⟩)),trivial⟩
mutual
theorem sz_ren:∀ s:Sm,(s.ren σ).sz=s.sz
 | .mk k n i v m lb t e=>by rw [Sm.ren,Sm.sz,Sm.sz,szs_ren t,szs_ren e]
theorem szs_ren:∀ l:List Sm,Sm.szs (Sm.rens σ l)=Sm.szs l
 | []=>rfl
 | s :: l=>by rw [Sm.rens,Sm.szs,Sm.szs,sz_ren s,szs_ren l]
end
mutual
theorem lbs_ren (w:Int→Bool):∀ s:Sm,(s.ren σ).lbs w=s.lbs w
 | .mk k n i v m lb t e=>by rw [Sm.ren,Sm.lbs,Sm.lbs,lbss_ren w t,lbss_ren w e]
theorem lbss_ren (w:Int→Bool):∀ l:List Sm,Sm.lbss w (Sm.rens σ l)=Sm.lbss w l
 | []=>rfl
 | s :: l=>by rw [Sm.rens,Sm.lbss,Sm.lbss,lbs_ren w s,lbss_ren w l]
end
theorem czT_ren:∀ t:T,czT (t.ren σ)=czT t
 | .nu _=>rfl
 | .nm _=>rfl
 | .ix _ t=>by rw [T.ren,czT,czT,czT_ren t]
 | .bn _ a b=>by rw [T.ren,czT,czT,czT_ren a,czT_ren b]
theorem czTs_ren:∀ l:List T,czTs (l.map (T.ren σ))=czTs l
 | []=>rfl
 | t :: l=>by rw [List.map_cons,czTs,czTs,czT_ren t,czTs_ren l]
mutual
theorem cz_ren:∀ s:Sm,(s.ren σ).cz=s.cz
 | .mk k n i v m lb t e=>by rw [Sm.ren,Sm.cz,Sm.cz,czTs_ren,czTs_ren,czs_ren t,czs_ren e]
theorem czs_ren:∀ l:List Sm,Sm.czs (Sm.rens σ l)=Sm.czs l
 | []=>rfl
 | s :: l=>by rw [Sm.rens,Sm.czs,Sm.czs,cz_ren s,czs_ren l]
end
theorem wdT_ren:∀ t:T,wdT (t.ren σ)=wdT t
 | .nu _=>rfl
 | .nm _=>rfl
 | .ix _ t=>by rw [T.ren,wdT,wdT,wdT_ren t]
 | .bn _ a b=>by rw [T.ren,wdT,wdT,wdT_ren a,wdT_ren b]
theorem wdTs_ren (l:List T):(l.map (T.ren σ)).all wdT=l.all wdT:=by
 rw [List.all_map]
 congr 1
 exact funext wdT_ren
mutual
theorem wds_ren:∀ s:Sm,(s.ren σ).wds=s.wds
 | .mk k n i v m lb t e=>by rw [Sm.ren,Sm.wds,Sm.wds,wdTs_ren,wdTs_ren,wdss_ren t,wdss_ren e]
theorem wdss_ren:∀ l:List Sm,Sm.wdss (Sm.rens σ l)=Sm.wdss l
 | []=>rfl
 | s :: l=>by rw [Sm.rens,Sm.wdss,Sm.wdss,wds_ren s,wdss_ren l]
end
theorem wP_ren:∀ (f:Nat) (t:T),wP f (t.ren σ)=wP f t
 | 0,_=>rfl
 | f+1,.nu _=>rfl
 | f+1,.nm _=>rfl
 | f+1,.ix _ t=>by simp only [T.ren,wP,T.args,List.foldl,wP_ren f t]
 | f+1,.bn _ a b=>by simp only [T.ren,wP,T.args,List.foldl,wP_ren f a,wP_ren f b]
theorem wPartsL_ren (f:Nat):∀ (l:List T) (n:Int),wPartsL (l.map (T.ren σ)) f n=wPartsL l f n
 | [],n=>rfl
 | t :: l,n=>by
  show wPartsL (l.map (T.ren σ)) f (lim (n+wP f (t.ren σ)))=wPartsL l f (lim (n+wP f t))
  rw [wP_ren,wPartsL_ren f l]
mutual
theorem wOne_ren:∀ (f:Nat) (s:Sm),wOne f (s.ren σ)=wOne f s
 | 0,_=>by rw [wOne,wOne]
 | f+1,.mk k n i v m lb t e=>by
  have h1:=wAll_ren f t
  have h2:=wAll_ren f e
  rw [Sm.ren,wOne,wOne]
  simp only [Sm.kind,Sm.index,Sm.value,Sm.thn,Sm.els,Sm.max,wPartsL_ren,h1,h2]
  rfl
theorem wAll_ren:∀ (f:Nat) (l:List Sm) (n:Int),wAll f (Sm.rens σ l) n=wAll f l n
 | f,[],n=>rfl
 | f,s :: l,n=>by rw [Sm.rens,wAll,wAll,wOne_ren f s,wAll_ren f l]
end
end
abbrev Nk:ByteArray:=⟨#[107]⟩
abbrev Nn:ByteArray:=⟨#[110]⟩
abbrev Nv1:ByteArray:=⟨#[118,49]⟩
abbrev Nv2:ByteArray:=⟨#[118,50]⟩
abbrev Nv3:ByteArray:=⟨#[118,51]⟩
def swN (s:ByteArray):ByteArray:=if s=Ni then Nv1 else if s=Nk then Nv2 else if s=Nn then Nv3 else if s=Nv1 then Ni else if s=Nv2 then Nk else if s=Nv3 then Nn else s
theorem swN_inv (s:ByteArray):swN (swN s)=s:=by
 by_cases h1:s=Ni
 ·subst h1; decide +kernel
 by_cases h2:s=Nk
 ·subst h2; decide +kernel
 by_cases h3:s=Nn
 ·subst h3; decide +kernel
 by_cases h4:s=Nv1
 ·subst h4; decide +kernel
 by_cases h5:s=Nv2
 ·subst h5; decide +kernel
 by_cases h6:s=Nv3
 ·subst h6; decide +kernel
 have e:swN s=s:=by unfold swN; rw [if_neg h1,if_neg h2,if_neg h3,if_neg h4,if_neg h5,if_neg h6]
 rw [e,e]
theorem swN_inj (s t:ByteArray) (h:swN s=swN t):s=t:=by rw [← swN_inv s,h,swN_inv t]
def mpN:List (ByteArray × ByteArray):=[(Ni,Nv1),(Nk,Nv2),(Nn,Nv3)]
def reN (s:ByteArray):ByteArray:=if (aget mpN s).getD E0=E0 then s else (aget mpN s).getD E0
abbrev VS2:List ByteArray:=[Nv1,Nv2,Nv3]
def renT (t:Tk):Tk:={ t with vars:=VS2,body:=Sm.rens swN t.body }
def renP (p:Pg) (t:Tk):Pg:={ p with tasks:=[renT t] }
theorem in_names2 {l:List Inp} (h:l.length≤2∧InG l.length l):∀ s ∈ l.map (·.1),s=⟨#[120]⟩ ∨ s=⟨#[121]⟩:=by
 rw [h.2.1]
 intro s hs
 have:=List.mem_of_mem_take hs
 simpa using this
theorem res_names {R:List ByteArray} {n:Nat} {Sh:List Shd} (hR:R=RSl n) (hSh:ShG R Sh):∀ x ∈ Sh,x.1=Nbuf∧(x.2.2=Nr ∨ x.2.2=Ns):=by
 rcases hSh with rfl | ⟨r,k,hr,_,rfl⟩
 ·simp
 ·intro x hx
  rw [List.mem_singleton.1 hx]
  refine ⟨rfl,?_⟩
  have hm:r ∈ RSl n:=by rw [← hR]; exact List.mem_of_getElem? hr
  rcases n with _ | _ | n <;> simp [RSl] at hm
  ·exact .inr hm
  ·exact hm
theorem fx_a:swN Na=Na∧reN Na=Na:=by decide +kernel
theorem fx_buf:swN Nbuf=Nbuf∧reN Nbuf=Nbuf:=by decide +kernel
theorem fx_r:swN Nr=Nr∧reN Nr=Nr:=by decide +kernel
theorem fx_s:swN Ns=Ns∧reN Ns=Ns:=by decide +kernel
theorem fx_x:swN ⟨#[120]⟩=⟨#[120]⟩∧reN ⟨#[120]⟩=⟨#[120]⟩:=by decide +kernel
theorem fx_y:swN ⟨#[121]⟩=⟨#[121]⟩∧reN ⟨#[121]⟩=⟨#[121]⟩:=by decide +kernel
theorem fx_E:swN E0=E0∧reN E0=E0:=by decide +kernel
theorem vs_map:VS.map swN=VS2∧∀ s ∈ VS,reN s=swN s:=by decide +kernel
attribute [local irreducible] StG BlG ckF
theorem ren_body {R:List ByteArray} {n:Nat} {Sh:List Shd} {nm:ByteArray} {W:Int} {t:Tk} (hR:R=RSl n) (hSh:ShG R Sh) (h:TaskG Sh nm W t) :
 (∃ lab l n,BlG (StG (t.inputs.map (·.1) ++ VS2) (t.arrays.map (·.1)) Sh 3 0 E0) 5 0 lab l∧(renT t).body=l.take n)∧Sm.rens reN t.body=Sm.rens swN t.body:=by
 obtain ⟨lab,l,m,hl,hb⟩:=h.body
 have hi:=in_names2 h.inputs
 have hs:=res_names hR hSh
 have hV:∀ s ∈ t.inputs.map (·.1) ++ VS,reN s=swN s:=fun s hs=>by
  rcases List.mem_append.1 hs with hs | hs
  ·rcases hi s hs with rfl | rfl
   ·rw [fx_x.1,fx_x.2]
   ·rw [fx_y.1,fx_y.2]
  ·exact vs_map.2 s hs
 have hM:(t.inputs.map (·.1) ++ VS).map swN=t.inputs.map (·.1) ++ VS2:=by
  rw [List.map_append,vs_map.1]
  congr 1
  refine (List.map_congr_left (fun s hs=>?_)).trans (List.map_id _)
  rcases hi s hs with rfl | rfl
  ·exact fx_x.1
  ·exact fx_y.1
 have hU:∀ hs,∀ s ∈ usableF (t.arrays.map (·.1)) Sh hs,swN s=s∧reN s=s:=fun hs' s hm=>by
  unfold usableF at hm
  rcases List.mem_append.1 hm with hm | hm
  ·rcases h.arrays with e | ⟨k,_,e⟩
   ·rw [e] at hm; cases hm
   ·rw [e] at hm
    obtain rfl:s=Na:=List.mem_singleton.1 hm
    exact fx_a
  ·obtain ⟨x,hx,he⟩:=List.mem_filterMap.1 hm
   split at he
   ·obtain rfl:x.1=s:=Option.some.inj he
    rw [(hs x hx).1]
    exact fx_buf
   ·cases he
 have hL:∀ x ∈ Sh,swN x.2.2=x.2.2∧reN x.2.2=x.2.2:=fun x hx=>by
  rcases (hs x hx).2 with e | e <;> rw [e]
  ·exact fx_r
  ·exact fx_s
 obtain ⟨g1,g2⟩:=bl_ren (StG.ren fx_E hV hU hL 3 0 E0) hl
 rw [hM] at g1
 refine ⟨⟨lab,_,m,g1,?_⟩,?_⟩
 ·show Sm.rens swN t.body=_
  rw [hb,rens_map,rens_map,List.map_take]
 ·rw [hb,rens_map,rens_map,List.map_take,List.map_take,← rens_map,← rens_map,g2]
theorem ren_names {R:List ByteArray} {sh:List Shd} {nm:ByteArray} {W:Int} {t:Tk} (hSh:ShG R sh) (h:TaskG sh nm W t):dupB (scaL (renT t) ++ arrL sh (renT t))=false:=by
 show dupB ((t.inputs.map (·.1) ++ VS2) ++ (t.arrays.map (·.1) ++ sh.map (·.1)))=false
 rcases in_names h.inputs with e1 | e1 | e1 <;> rcases ar_names h.arrays with e2 | e2 <;> rcases sh_names hSh with e3 | e3 <;> rw [e1,e2,e3] <;> decide +kernel
theorem ren_task {R:List ByteArray} {n:Nat} {sh:List Shd} {i:Nat} {W:Int} {t:Tk} (hR:R=RSl n) (hSh:ShG R sh) (hW:W≤2000) (hi:i < 6) (h:TaskG sh (nmT i) W t) :
 (limT (renT t)=true∧namT R sh (renT t)=true∧ranT (renT t)=true∧labT (renT t)=true∧Sm.lcks sh ⟨#[]⟩ (renT t).body=true∧wAll 20 (renT t).body 0≤2000) ∧
 okTk (renT t)=true∧(tkT (renT t)).size≤3700∧(∀ s ∈ (renT t).body,mdS 4 s):=by
 obtain ⟨q1,q2,q3,q4,q5,q6⟩:=task_right hR hSh hW h
 obtain ⟨o1,o2⟩:=task_okT hR hSh hi h
 obtain ⟨⟨lab,l,m,hl,hb⟩,_⟩:=ren_body hR hSh h
 have hN:=nms_of hR hSh h
 have hZ:=nsz_of hR hSh h
 have hV2:∀ s ∈ t.inputs.map (·.1) ++ VS2,nmOk s∧s.size≤3:=fun s hs=>by
  rcases List.mem_append.1 hs with hs | hs
  ·exact ⟨hN.vars s (List.mem_append_left _ hs),hZ.vars s (List.mem_append_left _ hs)⟩
  ·simp only [List.mem_cons,List.not_mem_nil,or_false] at hs
   rcases hs with rfl | rfl | rfl <;> exact ⟨nmOk_lit (by decide +kernel),by decide⟩
 have hmd:∀ s ∈ (renT t).body,mdS 4 s:=fun s hs=>by
  obtain ⟨_,g⟩:=bl_all (StG.md (fun s hs=>(hV2 s hs).1) hN.usable hN.locks 3 0 E0) hl (Int.le_refl _)
  rw [hb] at hs
  exact g s (List.mem_of_mem_take hs)
 have htz:(stsT Ksp (renT t).body).size≤1680:=by
  obtain ⟨_,g⟩:=bl_all (StG.tz (fun s hs=>(hV2 s hs).2) hZ.usable hZ.locks 3 0 E0) hl (Int.le_refl _)
  have h1:=sts_tz (d:=3) (sp:=Ksp) (by decide) (l:=(renT t).body) (fun s hs=>g s (by rw [hb] at hs; exact List.mem_of_mem_take hs))
  have h2:=h.size.1
  have h3:Sm.czs (renT t).body=Sm.czs t.body:=czs_ren t.body
  omega
 have hRr:∀ x ∈ sh,x.2.2 ∈ R:=by
  rcases hSh with rfl | ⟨r,k,hr,_,rfl⟩
  ·simp
  ·intro x hx
   rw [List.mem_singleton.1 hx]
   exact List.mem_of_getElem? hr
 obtain ⟨_,g⟩:=bl_all (StG.rgt (vs:=scaL (renT t)) (ar:=arrL sh t) (rs:=R) (fun s hs=>hs) (sh_use hSh (ar_names h.arrays)) hRr 3 0 E0) hl (Int.le_refl _)
 obtain ⟨a1,a2,a3⟩:=rgt_all (l:=(renT t).body) (fun s hs=>g s (by rw [hb] at hs; exact List.mem_of_mem_take hs))
 have hvl:t.vars.length=3:=by rw [h.vars]; rfl
 refine ⟨⟨?_,?_,?_,?_,a3,?_⟩,?_,?_,hmd⟩
 ·unfold limT at q1 ⊢
  rw [hvl] at q1
  show (decide (t.inputs.length≤4) && decide (t.inputs.length+3≤12) && decide (t.arrays.length≤4) && decide (t.modes.length≤3) && decide (t.claims.length≤4) && decide (Sm.szs (Sm.rens swN t.body)≤60))=true
  rw [szs_ren]
  exact q1
 ·unfold namT at q2 ⊢
  simp only [Bool.and_eq_true,Bool.not_eq_true'] at q2 ⊢
  exact ⟨⟨⟨q2.1.1.1,q2.1.1.2⟩,ren_names hSh h⟩,a1⟩
 ·unfold ranT at q3 ⊢
  show (decide (1≤t.period) && decide (t.period≤1048576) && decide (1≤t.deadline) && decide (t.deadline≤t.period) && decide (1≤t.priority) && decide (t.priority≤15) && decide (0≤t.jitter) && decide (t.jitter≤t.period) && Sm.wdss (Sm.rens swN t.body) &&
  t.arrays.all (fun a=>sizeB a.2) && t.inputs.all (fun x=>decide (x.2.1≤x.2.2)) && t.modes.all (ranM t.inputs))=true
  rw [wdss_ren]
  exact q3
 ·unfold labT at q4 ⊢
  show ((Sm.lbss isIW (Sm.rens swN t.body)).all (fun n=>decide (1≤n) && decide (n≤12)) && !dupI (Sm.lbss isIW (Sm.rens swN t.body)) &&
   t.claims.all (fun c=>!decide (c.1=c.2) && hasI (Sm.lbss isIf (Sm.rens swN t.body)) c.1 && hasI (Sm.lbss isIf (Sm.rens swN t.body)) c.2))=true
  rw [lbss_ren,lbss_ren]
  exact q4
 ·show wAll 20 (Sm.rens swN t.body) 0≤2000
  rw [wAll_ren]
  exact q6
 ·unfold okTk at o1 ⊢
  simp only [Bool.and_eq_true] at o1 ⊢
  refine ⟨⟨⟨⟨⟨⟨o1.1.1.1.1.1.1,md_okS 4 20 (renT t).body (by omega) hmd⟩,o1.1.1.1.1.2⟩,?_⟩,o1.1.1.2⟩,o1.1.2⟩,o1.2⟩
  rw [List.all_eq_true]
  exact fun s hs=>nameB_ok.2 (hV2 s (List.mem_append_right _ hs)).1
 ·have z2:(catL vaT VS2).size≤VS2.length * 10:=catL_size (fun x hx=>by
   have:=(hV2 x (List.mem_append_right _ hx)).2
   simp only [vaT,ByteArray.size_append,ba_lit,List.length_cons,List.length_nil]
   omega)
  have e1:tkHd (renT t)=tkHd t:=rfl
  unfold tkT at o2 ⊢
  simp only [ByteArray.size_append,ba_lit,List.length_cons,List.length_nil] at o2 ⊢
  rw [e1]
  show (tkHd t).size+(catL inT t.inputs).size+(catL vaT VS2).size+(catL arT t.arrays).size+(catL mdT t.modes).size+(catL clT t.claims).size+5+(stsT Ksp (renT t).body).size+4≤3700
  simp only [List.length_cons,List.length_nil] at z2
  omega
theorem ren_right {W:Int} {p:Pg} (hW:W≤2000) (h:PgG 1 W p) (h0:0 < p.tasks.length) :
 ckF (renP p p.tasks[0])=0∧PgOk (renP p p.tasks[0])∧(∀ t ∈ (renP p p.tasks[0]).tasks,Rn (renP p p.tasks[0]) t)∧Sm.rens reN (p.tasks[0]).body=Sm.rens swN (p.tasks[0]).body:=by
 obtain ⟨n,hn,hR⟩:=h.res
 obtain ⟨tt,htt⟩:∃ t,t=p.tasks[0]:=⟨_,rfl⟩
 have g1:TaskG p.shared (nmT 0) W tt:=by rw [htt]; exact h.tasks 0 h0
 rw [← htt]
 obtain ⟨⟨q1,q2,q3,q4,q5,q6⟩,o1,o2,hmd⟩:=ren_task hR h.shared hW (by decide) g1
 have hr:=made_right (by decide) hW h
 have hp:=prog_szT (by decide) h
 have hsh:=shd_sz hR h.shared
 have hresl:p.res.length≤2:=by rw [hR]; rcases n with _ | _ | n <;> simp [RSl]
 have hm:∀ t ∈ (renP p tt).tasks,t=renT tt:=fun t ht=>List.mem_singleton.1 ht
 have hok:okPg (renP p tt)=true:=by
  have:=hp.1
  unfold okPg at this ⊢
  rw [Bool.and_eq_true] at this ⊢
  refine ⟨this.1,?_⟩
  show [renT tt].all okTk=true
  simp [o1]
 have hdp:(renP p tt).tasks.any (fun t=>dpF 8 t.body)=false:=by
  show [renT tt].any (fun t=>dpF 8 t.body)=false
  simp [md_deep 4 8 (renT tt).body (by omega) hmd]
 have hsz:(progT (renP p tt)).size≤8192:=by
  have hres:∀ x ∈ p.res,nmOk x∧x.size≤1:=fun x hx=>by rw [hR] at hx; exact ⟨RS_ok x hx,RS_sz x hx⟩
  have z1:(catL resT p.res).size≤p.res.length * 11:=catL_size (fun x hx=>by
   have:=hres x hx
   simp only [resT,ByteArray.size_append,ba_lit,List.length_cons,List.length_nil]
   omega)
  have z2:(catL shT p.shared).size≤p.shared.length * 30:=catL_size (fun x hx=>by
   have:=hsh.2 x hx
   have a1:=numS_11 (n:=x.2.1) (by omega) (by omega)
   simp only [shT,ByteArray.size_append,ba_lit,List.length_cons,List.length_nil]
   omega)
  have z3:(catL tkT [renT tt]).size≤[renT tt].length * 3700:=catL_size (fun t ht=>by rw [List.mem_singleton.1 ht]; exact o2)
  have l1:=hsh.1
  unfold progT
  simp only [ByteArray.size_append]
  simp only [List.length_cons,List.length_nil] at z3
  show (catL resT p.res).size+(catL shT p.shared).size+(catL tkT [renT tt]).size≤8192
  omega
 have hRt:Right (renP p tt):=by
  refine ⟨?_,?_,?_,fun t ht=>?_,fun t ht=>?_,fun t ht=>?_⟩
  ·have:=hr.lim
   unfold limB at this ⊢
   simp only [Bool.and_eq_true,decide_eq_true_eq] at this
   show (decide (p.res.length≤4) && decide (p.shared.length≤4) && decide (1≤1) && decide (1≤6) && [renT tt].all limT)=true
   simp [this.1.1.1.1,this.1.1.1.2,q1]
  ·have:=hr.nam
   unfold namB at this ⊢
   simp only [Bool.and_eq_true] at this
   show (!dupB p.res && !dupB [(renT tt).name] && p.shared.all (fun s=>hasB p.res s.2.2) && [renT tt].all (namT p.res p.shared))=true
   rw [show dupB [(renT tt).name]=false from rfl]
   simp [this.1.1.1,this.1.2,q2]
  ·have:=hr.ran
   unfold ranB at this ⊢
   rw [Bool.and_eq_true] at this ⊢
   refine ⟨this.1,?_⟩
   show [renT tt].all ranT=true
   simp [q3]
  ·rw [hm t ht]; exact q4
  ·rw [hm t ht]; exact q5
  ·rw [hm t ht]; exact q6
 have h1:=ck_right hok hdp hsz hRt
 refine ⟨h1,⟨⟨by show p.res.length≤1000; omega,by have:=hsh.1; show p.shared.length≤1000; omega,by show 1≤1000; omega,fun t ht=>?_⟩,fun t ht=>?_⟩,fun t ht=>?_,(ren_body hR h.shared g1).2⟩
 ·rw [hm t ht]
  have:=g1.sz
  exact ⟨this.inputs,by show (3:Nat)≤1000; omega,this.arrays,this.modes,this.claims,by show Sm.szs (Sm.rens swN tt.body)≤1000000; rw [szs_ren]; exact this.body⟩
 ·rw [hm t ht]
  exact md_lns 4 _ hmd
 ·rw [hm t ht]
  refine rn_of h1 (List.mem_singleton.2 O) ?_ (by show p.shared.length≤1; exact hsh.1)
  have hma:=made_arr g1
  exact hma
theorem mren_id {α:Type} {M:List (ByteArray × α)} (h:∀ e ∈ M,swN e.1=e.1):mren swN M=M:=by
 unfold mren
 exact (List.map_congr_left (fun e he=>by rw [h e he]; rfl)).trans (List.map_id _)
theorem fill_fix {α:Type}:∀ (l M:List (ByteArray × α)),(∀ e ∈ l,swN e.1=e.1)→mren swN M=M→mren swN (fillF M l)=fillF M l
 | [],M,_,hM=>hM
 | e :: l,M,h,hM=>by
  show mren swN (fillF (aset M e.1 e.2) l)=fillF (aset M e.1 e.2) l
  refine fill_fix l _ (fun x hx=>h x (List.mem_cons_of_mem _ hx)) ?_
  rw [← aset_ren swN_inj,hM,h e (List.mem_cons_self ..)]
theorem sca_ren {Sh:List Shd} {nm:ByteArray} {W:Int} {t:Tk} (h:TaskG Sh nm W t):scaL (renT t)=(scaL t).map swN:=by
 have hi:=in_names2 h.inputs
 show t.inputs.map (·.1) ++ VS2=(t.inputs.map (·.1) ++ t.vars).map swN
 rw [h.vars,List.map_append,vs_map.1]
 congr 1
 refine ((List.map_congr_left (fun s hs=>?_)).trans (List.map_id _)).symm
 rcases hi s hs with rfl | rfl
 ·exact fx_x.1
 ·exact fx_y.1
theorem ren_run {W:Int} {p:Pg} (h:PgG 1 W p) (h0:0 < p.tasks.length) (hr:Rn p p.tasks[0]) (ins:List Int) (ss:List (List Int)):runO (renP p p.tasks[0]) (renT p.tasks[0]) ins ss=runO p p.tasks[0] ins ss:=by
 obtain ⟨n,hn,hR⟩:=h.res
 have g1:=h.tasks 0 h0
 generalize p.tasks[0]=t at g1 hr ⊢
 have hi:=in_names2 g1.inputs
 have hA:mren swN (AMof p t)=AMof p t:=by
  rw [am_eq hr]
  refine mren_id (fun e he=>?_)
  rcases List.mem_append.1 he with he | he
  ·obtain ⟨x,hx,rfl⟩:=List.mem_map.1 he
   rcases g1.arrays with e | ⟨k,_,e⟩
   ·rw [e] at hx; cases hx
   ·rw [e] at hx
    rw [List.mem_singleton.1 hx]
    exact fx_a.1
  ·obtain ⟨x,hx,rfl⟩:=List.mem_map.1 he
   show swN x.1=x.1
   rw [(res_names hR h.shared x hx).1]
   exact fx_buf.1
 have hJ:(jb0 p t ins ss).ren swN=jb0 p t ins ss:=by
  have:mren swN (jb0 p t ins ss).V=(jb0 p t ins ss).V:=by
   refine fill_fix _ _ (fun e he=>?_) O
   have:=List.of_mem_zip (a:=e.1) (b:=e.2) he
   rcases hi e.1 this.1 with e | e <;> rw [e]
   ·exact fx_x.1
   ·exact fx_y.1
  unfold Jb.ren
  rw [this]
 have hrun:=runL_ren swN_inj (AMof p t) t.body (jb0 p t ins ss)
 rw [hA,hJ] at hrun
 have e1:runL (AMof (renP p t) (renT t)) (renT t).body (jb0 (renP p t) (renT t) ins ss)=(runL (AMof p t) t.body (jb0 p t ins ss)).ren swN:=hrun
 unfold runO
 rw [e1,sca_ren g1]
 generalize runL (AMof p t) t.body (jb0 p t ins ss)=j
 dsimp only [Jb.ren]
 congr 1
 rw [List.map_map]
 refine List.map_congr_left (fun s _=>?_)
 show (aget (mren swN j.V) (swN s)).getD 0=_
 rw [aget_ren swN_inj]
end Go.Proofs.YtalkkcfojplmdaaGreatDoor
end
section
namespace Go.Proofs.YtalkkcfojplmdaaGreatDoor
open Go.Vc
attribute [local irreducible] JL JC JQ OpWp Con ConN HOk
set_option maxHeartbeats 4000000
theorem fit_snoc {l:List Inp} {B:List Int} {k:Nat} (hk:k < l.length) (h:fitB (l.take k) B=true) {n:Int} (hn:(l[k]).2.1≤n∧n≤(l[k]).2.2):fitB (l.take (k+1)) (B ++ [n])=true:=by
 unfold fitB at *
 rw [Bool.and_eq_true,decide_eq_true_eq] at *
 obtain ⟨h1,h2⟩:=h
 rw [List.take_succ_eq_append_getElem hk]
 refine ⟨by rw [List.length_append,List.length_append,h1]; rfl,?_⟩
 rw [List.zip_append h1,List.all_append,h2]
 simp [hn]
theorem fil_snoc {l:List Shd} {B:List (List Int)} {k:Nat} (hk:k < l.length) (h:filB (l.take k) B=true) {a:List Int} (ha:(a.length:Int)=(l[k]).2.1) (hw:a.all wordB=true):filB (l.take (k+1)) (B ++ [a])=true:=by
 unfold filB at *
 rw [Bool.and_eq_true,decide_eq_true_eq] at *
 obtain ⟨h1,h2⟩:=h
 rw [List.take_succ_eq_append_getElem hk]
 refine ⟨by rw [List.length_append,List.length_append,h1]; rfl,?_⟩
 rw [List.zip_append h1,List.all_append,h2]
 simp only [List.zip_cons_cons,List.zip_nil_right,List.all_cons,List.all_nil,Bool.and_true,Bool.true_and,Bool.and_eq_true,decide_eq_true_eq]
 exact ⟨ha,hw⟩
theorem fit_len {l:List Inp} {B:List Int} (h:fitB l B=true):l.length=B.length:=by
 unfold fitB at h
 rw [Bool.and_eq_true,decide_eq_true_eq] at h
 exact h.1
theorem fil_len {l:List Shd} {B:List (List Int)} (h:filB l B=true):l.length=B.length:=by
 unfold filB at h
 rw [Bool.and_eq_true,decide_eq_true_eq] at h
 exact h.1
section
variable {L:List Int} {bd:Nat}
theorem gInputsL_c (hL:InR L) (hLn:L.length≤400) (t:Tk) (hz:InZ t.inputs) :
 Con Tryz.prog 17 [Ptr bd,.row t.row] [Dk bd L] (fun K=>∀ l:List Int,fitB t.inputs l=true→K (.cell (.list (l.map Irow))) [Dk bd L]):=by
 have hz1:=hz.1
 refine con_intro Tryz.func17 O O b_ (fun c hc=>Wu (fun bx=>?_))
 refine ZK ?_
 refine jc_ownNil 3 1 g_ ?_
 refine jc_loopS (ι:=Nat × Value × List Int) [] (fun i=>i.1≤(t.inputs).length∧i.2.1.oneCell'=true∧fitB (t.inputs.take i.1) i.2.2=true) (fun i=>(6,In .i64 (i.1:Int)) :: [(5,.cell (.val i.2.1)),(3,.cell (.val (.pointer (some ⟨bx,0,none⟩)))),(0,Ptr bd)]) (fun i=>[.own i.2.1 3 1 (i.2.2.map Irow),.blk bx 39 t.row,Dk bd L]) (fun i=>(t.inputs).length - i.1) (0,.slice none 0 0,[]) ⟨Nat.zero_le _,⟨rfl,rfl⟩⟩ ?_ ?_ ?_
 ·exact WF
 ·exact Wv
 rintro ⟨k,v,B⟩ hz
 dsimp only at hz ⊢
 obtain ⟨hk,⟨hv,hB⟩⟩:=hz
 have eLk:((t.inputs).map InRow).length=(t.inputs).length:=List.length_map _
 by_cases hltk:k < (t.inputs).length
 ·have hltk2:(k:Int) < (((t.inputs).map InRow).length:Int):=by omega
  have hBl:=fit_len hB
  rw [List.length_take] at hBl
  have hbz:=hz.2 t.inputs[k] (List.getElem_mem hltk)
  refine Z6 ?_
  refine Zb (fun hlen=>?_)
  refine R_ (F_ O (L_ 1 O (M_ O ?_)))
  refine Zm (fun bl=>?_)
  refine jc_hpM 14 (n:=15) O 0 k_ O (fun cs1 hcs1 hv1=>?_)
  obtain ⟨u10,u11,u12,rfl⟩:=len3 hcs1
  obtain rfl:=Option.some.inj (hv1 0 _ rfl)
  obtain rfl:=Option.some.inj (hv1 1 _ rfl)
  obtain rfl:=Option.some.inj (hv1 2 _ rfl)
  refine hp_know 0 O mem0 ?_
  dsimp only [List.zipWith,know]
  refine df_ (i:=0) O k_ k_ k_ b_ ZP (dk_ O) ?_
  refine df_ (i:=1) O k_ k_ k_ b_ ZP (dl_ O O O b_) ?_
  refine df_ (i:=2) O k_ k_ k_ b_ ZP (dm_ 0 O O O mem0 O) ?_
  refine df_ (i:=3) O k_ k_ k_ b_ ZP (dk_ O) ?_
  refine df_ (i:=4) O k_ k_ k_ b_ ZP (dl_ O O O b_) ?_
  refine df_ (i:=5) O k_ k_ k_ b_ ZP (dm_ 0 O O O mem0 O) ?_
  refine df_ (i:=6) O k_ k_ k_ b_ ZP (dl_ O O O b_) ?_
  refine df_ (i:=7) O k_ k_ k_ b_ ZP (dm_ 0 O O O mem0 O) ?_
  refine df_ (i:=8) O k_ k_ k_ b_ ZP (dp_ O O g_) ?_
  refine df_ (i:=9) O k_ k_ k_ b_ ZP (do_ O O g_) ?_
  refine dg_ (i:=10) O k_ b_ (bt_ [3] O O (Nx_c _ hL hLn g_) (fun pp hpp=>⟨?_,?_⟩))
  exact keepK 1 O O
  refine df_ (i:=11) O k_ k_ k_ b_ ZP (do_ O O g_) ?_
  refine dg_ (i:=12) O k_ b_ (bq_ O O b_ O O b_ ⟨?_,?_⟩)
  exact keepK 1 O O
  refine dg_ (i:=13) O k_ b_ (ow_append1 2 ((t.inputs[k]).2.1+pp) O O O O O O O (fun _=>O) (by show (_+1) * 8≤_;first | omega | (simp;done)) (by first | omega | (simp;done)) (fun v1 hv1=>⟨?_,?_⟩))
  exact keepK 2 O O
  refine df_ (i:=14) O k_ k_ k_ b_ ZP (hok_assign O) ?_
  refine hp_done k_ (jq_unk _ 2 O O ?_)
  dsimp only [List.map,unk]
  refine Zj ?_
  refine jq_againS (i:=(k,v,B)) (k+1,v1,B ++ [(t.inputs[k]).2.1+pp]) ⟨hltk,hv1,fit_snoc hltk hB g_⟩ (by dsimp only; omega) ?_ ?_
  ·exact bc_ 1 O (bc_ 2 O (bc_ 1 O sub_end))
  ·exact Wv
 ·have hltk2:¬ (k:Int) < (((t.inputs).map InRow).length:Int):=by omega
  rw [List.take_of_length_le (by omega)] at hB
  refine Z6 ?_
  refine Zh (fun hlen=>?_)
  refine al_ (R_ (M_ O ?_))
  refine E_ O (T_ (ar_ (jq_freeze 4 0 O O (by rw [hc]; simp [hb,Ch.bs]) (jq_ret1 O O [1] O (fun K h=>h B hB)))))
theorem gSharedL_c (hL:InR L) (hLn:L.length≤400) (p:Pg) (hz:ShZ p.shared) :
 Con Tryz.prog 18 [Ptr bd,.row p.row] [Dk bd L] (fun K=>∀ l:List (List Int),filB p.shared l=true→K (.cell (.list (l.map LRow))) [Dk bd L]):=by
 have hz1:=hz.1
 refine con_intro Tryz.func18 O O b_ (fun c hc=>Wu (fun bx=>?_))
 refine ZK ?_
 refine jc_ownNil 22 1 g_ ?_
 refine jc_loopS (ι:=Nat × Value × List (List Int)) [] (fun i=>i.1≤(p.shared).length∧i.2.1.oneCell'=true∧filB (p.shared.take i.1) i.2.2=true) (fun i=>(6,In .i64 (i.1:Int)) :: [(5,.cell (.val i.2.1)),(3,.cell (.val (.pointer (some ⟨bx,0,none⟩)))),(0,Ptr bd)]) (fun i=>[.own i.2.1 22 1 (i.2.2.map LRow),.blk bx 31 p.row,Dk bd L]) (fun i=>(p.shared).length - i.1) (0,.slice none 0 0,[]) ⟨Nat.zero_le _,⟨rfl,rfl⟩⟩ ?_ ?_ ?_
 ·exact WF
 ·exact Wv
 rintro ⟨k,v,B⟩ hz
 dsimp only at hz ⊢
 obtain ⟨hk,⟨hv,hB⟩⟩:=hz
 have eLk:((p.shared).map ShRow).length=(p.shared).length:=List.length_map _
 by_cases hltk:k < (p.shared).length
 ·have hltk2:(k:Int) < (((p.shared).map ShRow).length:Int):=by omega
  have hBl:=fil_len hB
  rw [List.length_take] at hBl
  have hbz:=hz.2 p.shared[k] (List.getElem_mem hltk)
  refine Z6 ?_
  refine Zb (fun hlen=>?_)
  refine R_ (E_ O (T_ (am_ ?_)))
  refine R_ (E_ O (T_ (au_ (jc_ownNil 3 1 g_ ?_))))
  obtain ⟨n,hn⟩:∃ n:Nat,(p.shared[k]).2.1=(n:Int):=⟨((p.shared[k]).2.1).toNat,by omega⟩
  have hn16:n≤16:=by omega
  refine jc_loopS (ι:=Nat × Value × List Int) [] (fun i=>i.1≤n∧i.2.2.length=i.1∧i.2.2.all wordB=true) (fun i=>[(8,In .i64 (i.1:Int)),(7,.cell (.val i.2.1)),(6,In .i64 (k:Int)),(5,.cell (.val v)),(3,.cell (.val (.pointer (some ⟨bx,0,none⟩)))),(0,Ptr bd)]) (fun i=>[.own i.2.1 3 1 (i.2.2.map Irow),.own v 22 1 (B.map LRow),.blk bx 31 p.row,Dk bd L]) (fun i=>n - i.1) (0,.slice none 0 0,[]) ⟨Nat.zero_le _,rfl,rfl⟩ ?_ ?_ ?_
  ·refine Y7 ?_
   exact Wx
  ·exact Wv
  rintro ⟨m,va,A⟩ hz2
  dsimp only at hz2 ⊢
  obtain ⟨hm,hAl,hA⟩:=hz2
  by_cases hltm:m < n
  ·have hltm2:(m:Int) < (p.shared[k]).2.1:=by omega
   refine am_ (R_ (M_ O (F_ O (L_ 2 O (M_ O (ZI ?_))))))
   refine cf_ O O O b_ O b_ (o_ O (Yt ?_))
   refine bw_ O O (T_ (aq_ O u_ (as_ (al_ (B_ ?_)))))
   refine an_ (M_ O (M_ O (o_ O (bt_ [3] O O (gWord_c hL hLn) (fun pp hpp=>YF ?_)))))
   refine o_ O (ow_append1 1 (pp) O O O O O O O (fun _=>O) (by show (_+1) * 8≤_;first | omega | (simp;done)) (by first | omega | (simp;done)) (fun v1 hv1=>E_ O (ak_ (Zj ?_))))
   refine jq_againS (i:=(m,va,A)) (m+1,v1,A ++ [pp]) ⟨hltm,by rw [List.length_append,hAl]; rfl,?_⟩ (by dsimp only; omega) ?_ ?_
   ·rw [List.all_append,hA]
    simp only [List.all_cons,List.all_nil,Bool.and_true,Bool.true_and]
    unfold wordB
    rw [Bool.and_eq_true,decide_eq_true_eq,decide_eq_true_eq]
    omega
   ·exact bc_ 0 O (bc_ 1 O (bc_ 1 O (bc_ 0 O sub_end)))
   ·exact Wv
  ·have hltm2:¬ (m:Int) < (p.shared[k]).2.1:=by omega
   refine am_ (R_ (M_ O (F_ O (L_ 2 O (M_ O (ZI ?_))))))
   refine cf_ O O O b_ O b_ (o_ O (Yt ?_))
   refine bw_ O O (T_ (ap_ O w_ (av_ (ax_ (ax_ ?_)))))
   refine ba_ (al_ (jc_freeze 7 0 O O (by rw [hc]; simp [hb,Ch.bs]) (an_ (M_ O (M_ O (YF ?_))))))
   refine o_ O (ow_append1 0 (A) O O O O O O O (fun _=>O) (by show (_+1) * 24≤_;first | omega | (simp;done)) (by first | omega | (simp;done)) (fun v1 hv1=>E_ O (ak_ (Ws ?_))))
   refine E_ O ?_
   refine ak_ (jq_againS (i:=(k,v,B)) (k+1,v1,B ++ [A]) ⟨hltk,hv1,fil_snoc hltk hB g_ hA⟩ (by dsimp only; omega) ?_ ?_)
   ·exact WF
   ·exact Wv
 ·have hltk2:¬ (k:Int) < (((p.shared).map ShRow).length:Int):=by omega
  rw [List.take_of_length_le (by omega)] at hB
  refine Z6 ?_
  refine Zh (fun hlen=>?_)
  refine al_ (R_ (M_ O ?_))
  refine E_ O (T_ (ar_ (jq_freeze 4 0 O O (by rw [hc]; simp [hb,Ch.bs]) (jq_ret1 O O [1] O (fun K h=>h B hB)))))
end
end Go.Proofs.YtalkkcfojplmdaaGreatDoor
end
section
namespace Go.Proofs.YtalkkcfojplmdaaGreatDoor
open Go.Vc
attribute [local irreducible] JL JC JQ OpWp Con ConN HOk
set_option maxHeartbeats 4000000
theorem rWord6_c (n:Int):Con Tryz.prog 131 [In .i64 n] [] (fun K=>K (Bl (wordB n)) []):=by
 refine con_intro Tryz.func131 O O b_ (fun c hc=>R_ (YU ?_))
 refine cn_ O O (M_ O (jl_and 2 2 O O O O (nb O) ?_))
 apply Exists.intro
 refine ⟨fun hb1=>?_,?_⟩
 refine Z8 ?_
 exact bw_ O O (ak_ (jq_seg 2 O O O (List.Perm.refl _)))
 refine E_ O (T_ (ar_ (jq_ret1 O O [] O (fun K h=>h))))
theorem rPoints6_c (t:Tk):Con Tryz.prog 81 [.row t.row] [] (fun K=>K (In .i64 39) []):=by
 refine con_intro Tryz.func81 O O b_ (fun c hc=>R_ (o_ O (ci_ O (fun bx=>E_ O (T_ (R_ (E_ O (T_ (ar_ (jq_ret1 O O [] O (fun K h=>h)))))))))))
theorem rInputs6_c (ins:List Inp) (vs:List Int):Con Tryz.prog 79 [.cell (.list (ins.map InRow)),.cell (.list (vs.map Irow))] [] (fun K=>K (Bl (fitB ins vs)) []):=by
 have eI:(ins.map InRow).length=ins.length:=List.length_map _
 have eV:(vs.map Irow).length=vs.length:=List.length_map _
 refine con_intro Tryz.func79 O O b_ (fun c hc=>?_)
 by_cases hl:ins.length=vs.length
 ·have hl2:¬ ((vs.map Irow).length:Int)≠((ins.map InRow).length:Int):=by omega
  have h0:fitB ins vs=(ins.zip vs).all (fun p=>decide (p.1.2.1≤p.2) && decide (p.2≤p.1.2.2)):=by unfold fitB; rw [decide_eq_true hl,Bool.true_and]
  have hz:(ins.zip vs).length=ins.length:=by rw [List.length_zip]; omega
  refine ZV ?_
  refine br_ O (fun hlen=>M_ O (o_ O (br_ O (fun hlen=>o_ O (bx_ O O (T_ (ap_ O w_ (as_ (al_ (am_ (R_ ?_)))))))))))
  refine E_ O (T_ (au_ (jc_loopS (ι:=Nat) [] (fun k=>k≤(ins).length∧((ins.zip vs).take k).all (fun p=>decide (p.1.2.1≤p.2) && decide (p.2≤p.1.2.2))=true) (fun k=>(5,In .i64 (k:Int)) :: [(1,.cell (.list (vs.map Irow))),(0,.cell (.list (ins.map InRow)))]) (fun k=>[]) (fun k=>(ins).length - k) 0 ⟨Nat.zero_le _,rfl⟩ ?_ ?_ ?_)))
  ·exact sub_end
  ·exact Wv
  rintro k ⟨hk,hI⟩
  have eLk:((ins).map InRow).length=(ins).length:=List.length_map _
  by_cases hltk:k < (ins).length
  ·have hltk2:(k:Int) < (((ins).map InRow).length:Int):=by omega
   have hkv:k < vs.length:=by omega
   have hkv2:(k:Int) < ((vs.map Irow).length:Int):=by omega
   have hkz:k < (ins.zip vs).length:=by omega
   have hg:(ins.zip vs)[k]=(ins[k],vs[k]):=List.getElem_zip
   by_cases h1:vs[k] < (ins[k]).2.1
   ·have hres:fitB ins vs=false:=by rw [h0]; exact all_no hkz (by rw [hg]; simp only [Bool.and_eq_false_iff,decide_eq_false_iff_not]; omega)
    refine YG ?_
    refine Zb (fun hlen=>?_)
    refine am_ (ZM ?_)
    refine aa_ (fun c=>cb_ O O p_) (yM_ O (yM_ O (Zl ?_)))
    refine aa_ (fun c=>bw_ O O p_) (yM_ O (ZL ?_))
    refine ac_ O u_ (ac_ O u_ (ac_ O u_ ?_))
    refine ac_ O u_ (ac_ O u_ (aa_ (fun c=>bp_ O u_ O p_) (ae_ (al_ (aq_ O O (Zr ?_))))))
    refine aw_ (jq_ret1 O O [] O (fun K h=>by rw [hres] at h; exact h))
   by_cases h2:vs[k] > (ins[k]).2.2
   ·have hres:fitB ins vs=false:=by rw [h0]; exact all_no hkz (by rw [hg]; simp only [Bool.and_eq_false_iff,decide_eq_false_iff_not]; omega)
    refine YG ?_
    refine Zb (fun hlen=>?_)
    refine am_ (ZM ?_)
    refine aa_ (fun c=>cb_ O O p_) (yM_ O (yM_ O (Zl ?_)))
    refine aa_ (fun c=>bw_ O O p_) (yM_ O (ZF ?_))
    refine ab_ O w_ (fun c=>bd_ O p_) (ab_ O w_ (fun c=>bd_ O p_) ?_)
    refine ab_ O w_ (fun c=>cc_ O O g_ O O b_ p_) (ab_ O w_ (fun c=>cf_ O O O b_ O b_ p_) (ab_ O w_ (fun c=>cb_ O O p_) (YZ ?_)))
    refine ae_ (al_ (aq_ O u_ (Zr ?_)))
    refine aw_ (jq_ret1 O O [] O (fun K h=>by rw [hres] at h; exact h))
   refine YG ?_
   refine Zb (fun hlen=>?_)
   refine am_ (ZM ?_)
   refine aa_ (fun c=>cb_ O O p_) (yM_ O (yM_ O (Zl ?_)))
   refine aa_ (fun c=>bw_ O O p_) (yM_ O (ZF ?_))
   refine ab_ O w_ (fun c=>bd_ O p_) (ab_ O w_ (fun c=>bd_ O p_) ?_)
   refine ab_ O w_ (fun c=>cc_ O O g_ O O b_ p_) (ab_ O w_ (fun c=>cf_ O O O b_ O b_ p_) (ab_ O w_ (fun c=>cb_ O O p_) (YZ ?_)))
   refine ae_ (al_ (ap_ O w_ (as_ (Zj ?_))))
   refine jq_againS (i:=k) (k+1) ⟨hltk,all_snoc hkz hI (by rw [hg]; simp only [Bool.and_eq_true,decide_eq_true_eq]; omega)⟩ g_ ?_ ?_
   ·exact sub_end
   ·exact Wv
  ·have hltk2:¬ (k:Int) < (((ins).map InRow).length:Int):=by omega
   rw [List.take_of_length_le (by omega)] at hI
   have hres:fitB ins vs=true:=by rw [h0]; exact hI
   refine YG ?_
   refine Zh (fun hlen=>?_)
   refine al_ (R_ (E_ O (T_ ?_)))
   refine ar_ (jq_ret1 O O [] O (fun K h=>by rw [hres] at h; exact h))
 ·have hl2:((vs.map Irow).length:Int)≠((ins.map InRow).length:Int):=by omega
  have hres:fitB ins vs=false:=by unfold fitB; rw [decide_eq_false hl]; rfl
  refine ZV ?_
  refine br_ O (fun hlen=>M_ O (o_ O (br_ O (fun hlen=>o_ O (bx_ O O (T_ (aq_ O u_ (R_ (E_ O (T_ (ar_ ?_)))))))))))
  refine aw_ (jq_ret1 O O [] O (fun K h=>by rw [hres] at h; exact h))
theorem rShared6_c (p:Pg) (ss:List (List Int)):Con Tryz.prog 80 [.row p.row,.cell (.list (ss.map LRow))] [] (fun K=>K (Bl (filB p.shared ss)) []):=by
 have eI:(p.shared.map ShRow).length=p.shared.length:=List.length_map _
 have eV:(ss.map LRow).length=ss.length:=List.length_map _
 refine con_intro Tryz.func80 O O b_ (fun c hc=>?_)
 by_cases hl:p.shared.length=ss.length
 ·have hl2:¬ ((ss.map LRow).length:Int)≠((p.shared.map ShRow).length:Int):=by omega
  have h0:filB p.shared ss=(p.shared.zip ss).all (fun q=>decide ((q.2.length:Int)=q.1.2.1) && q.2.all wordB):=by unfold filB; rw [decide_eq_true hl,Bool.true_and]
  have hz:(p.shared.zip ss).length=p.shared.length:=by rw [List.length_zip]; omega
  refine ZD (fun bx=>?_)
  refine M_ O (o_ O (br_ O (fun hlen=>F_ O (L_ 0 O (o_ O (br_ O (fun hlen=>o_ O (bx_ O O (T_ (ap_ O w_ (as_ (al_ ?_))))))))))))
  refine am_ (R_ (E_ O (T_ (au_ (jc_loopS (ι:=Nat) [] (fun k=>k≤(ss).length∧((p.shared.zip ss).take k).all (fun q=>decide ((q.2.length:Int)=q.1.2.1) && q.2.all wordB)=true) (fun k=>(5,In .i64 (k:Int)) :: [(1,.cell (.list (ss.map LRow))),(2,.cell (.val (.pointer (some ⟨bx,0,none⟩))))]) (fun k=>[.blk bx 31 p.row]) (fun k=>(ss).length - k) 0 ⟨Nat.zero_le _,rfl⟩ ?_ ?_ ?_)))))
  ·exact Wx
  ·exact Wv
  rintro k ⟨hk,hI⟩
  have eLk:((ss).map LRow).length=(ss).length:=List.length_map _
  by_cases hltk:k < (ss).length
  ·have hltk2:(k:Int) < (((ss).map LRow).length:Int):=by omega
   have hkv:k < p.shared.length:=by omega
   have hkv2:(k:Int) < ((p.shared.map ShRow).length:Int):=by omega
   have hkz:k < (p.shared.zip ss).length:=by omega
   have hg:(p.shared.zip ss)[k]=(p.shared[k],ss[k]):=List.getElem_zip
   have eK:((ss[k]).map Irow).length=(ss[k]).length:=List.length_map _
   by_cases h1:((ss[k]).length:Int)=(p.shared[k]).2.1
   ·have h1':¬ (((ss[k]).map Irow).length:Int)≠(p.shared[k]).2.1:=by omega
    refine YG ?_
    refine Zb (fun hlen=>?_)
    refine am_ (am_ (ao_ O O k_ k_ (yM_ O (yM_ O ?_))))
    refine Ys ?_
    refine aa_ (fun c=>br_ O (fun hlen=>p_)) (yF_ O (yL_ 0 O (yM_ O (aa_ (fun c=>cc_ O O g_ O O b_ p_) (aa_ (fun c=>cf_ O O O b_ O b_ p_) (aa_ (fun c=>cf_ O O O b_ O b_ p_) (aa_ (fun c=>cb_ O O p_) (aa_ (fun c=>bx_ O O p_) (ae_ (al_ (ap_ O w_ (as_ (al_ ?_)))))))))))))
    refine R_ (E_ O (T_ (au_ (jc_loopS (ι:=Nat) [] (fun m=>m≤(ss[k]).length∧((ss[k]).take m).all wordB=true) (fun m=>(6,In .i64 (m:Int)) :: [(5,In .i64 (k:Int)),(1,.cell (.list (ss.map LRow))),(2,.cell (.val (.pointer (some ⟨bx,0,none⟩))))]) (fun m=>[.blk bx 31 p.row]) (fun m=>(ss[k]).length - m) 0 ⟨Nat.zero_le _,rfl⟩ ?_ ?_ ?_))))
    ·exact Wx
    ·exact Wv
    rintro m ⟨hm,hW⟩
    have eLm:((ss[k]).map Irow).length=(ss[k]).length:=List.length_map _
    by_cases hltm:m < (ss[k]).length
    ·have hltm2:(m:Int) < (((ss[k]).map Irow).length:Int):=by omega
     have hC:=rWord6_c (ss[k])[m]
     cases hw:wordB (ss[k])[m] with
     | false =>
      rw [hw] at hC
      have hres:filB p.shared ss=false:=by rw [h0]; exact all_no hkz (by rw [hg]; dsimp only; rw [all_no hltm hw,Bool.and_false])
      refine YG ?_
      refine M_ O (ZI ?_)
      refine cb_ O O (Zb (fun hlen=>?_))
      refine R_ (M_ O ?_)
      refine M_ O (ZI ?_)
      refine cb_ O O (M_ O (ZI ?_))
      refine cb_ O O (o_ O (bm_ O (hC) (o_ O (cd_ O (ZO ?_)))))
      refine az_ (aw_ ?_)
      refine aw_ (az_ (az_ (aw_ (aw_ (az_ (aw_ (jq_ret1 O O [] O (fun K h=>by rw [hres] at h; exact h))))))))
     | true =>
      rw [hw] at hC
      refine YG ?_
      refine M_ O (ZI ?_)
      refine cb_ O O (Zb (fun hlen=>?_))
      refine R_ (M_ O ?_)
      refine M_ O (ZI ?_)
      refine cb_ O O (M_ O (ZI ?_))
      refine cb_ O O (o_ O (bm_ O (hC) (o_ O (cd_ O (T_ (ap_ O O (as_ (Ws ?_))))))))
      refine E_ O (ak_ (jq_againS (i:=m) (m+1) ⟨hltm,all_snoc hltm hW hw⟩ g_ ?_ ?_))
      ·exact Wx
      ·exact Wv
    ·have hltm2:¬ (m:Int) < (((ss[k]).map Irow).length:Int):=by omega
     rw [List.take_of_length_le (by omega)] at hW
     refine YG ?_
     refine M_ O (ZI ?_)
     refine cb_ O O (Zh (fun hlen=>?_))
     refine ay_ ?_
     refine al_ (an_ (YM ?_))
     refine jq_againS (i:=k) (k+1) ⟨hltk,all_snoc hkz hI (by rw [hg,decide_eq_true h1,hW]; rfl)⟩ g_ ?_ ?_
     ·exact Wx
     ·exact Wv
   ·have h1':(((ss[k]).map Irow).length:Int)≠(p.shared[k]).2.1:=by omega
    have hres:filB p.shared ss=false:=by rw [h0]; exact all_no hkz (by rw [hg,decide_eq_false h1]; rfl)
    refine YG ?_
    refine Zb (fun hlen=>?_)
    refine am_ (am_ (ao_ O O k_ k_ (yM_ O (yM_ O ?_))))
    refine Ys ?_
    refine aa_ (fun c=>br_ O (fun hlen=>p_)) (yF_ O (yL_ 0 O (yM_ O (aa_ (fun c=>cc_ O O g_ O O b_ p_) (aa_ (fun c=>cf_ O O O b_ O b_ p_) (aa_ (fun c=>cf_ O O O b_ O b_ p_) (aa_ (fun c=>cb_ O O p_) (aa_ (fun c=>bx_ O O p_) (ae_ (al_ (aq_ O u_ (R_ (E_ O ?_)))))))))))))
    refine T_ (ar_ (aw_ (az_ (aw_ (aw_ (az_ (aw_ (jq_ret1 O O [] O (fun K h=>by rw [hres] at h; exact h)))))))))
  ·have hltk2:¬ (k:Int) < (((ss).map LRow).length:Int):=by omega
   rw [List.take_of_length_le (by omega)] at hI
   have hres:filB p.shared ss=true:=by rw [h0]; exact hI
   refine YG ?_
   refine Zh (fun hlen=>?_)
   refine al_ (R_ (E_ O (T_ ?_)))
   refine ar_ (jq_ret1 O O [] O (fun K h=>by rw [hres] at h; exact h))
 ·have hl2:((ss.map LRow).length:Int)≠((p.shared.map ShRow).length:Int):=by omega
  have hres:filB p.shared ss=false:=by unfold filB; rw [decide_eq_false hl]; rfl
  refine ZD (fun bx=>?_)
  refine M_ O (o_ O (br_ O (fun hlen=>F_ O (L_ 0 O (o_ O (br_ O (fun hlen=>o_ O (bx_ O O (T_ (aq_ O u_ (R_ (E_ O ?_))))))))))))
  refine T_ (ar_ (aw_ (jq_ret1 O O [] O (fun K h=>by rw [hres] at h; exact h))))
end Go.Proofs.YtalkkcfojplmdaaGreatDoor
end
section
namespace Go.Vc
variable {P:Program} [Gl P] {nt:Nat} {c:Cx P nt} {env:Env} {H:List Ch} {ops:Array Oper} {Q:Exit→Act→World→Prop} {Sw:World→Prop} {m fuel:Nat} {listed:Array Bool}
theorem hp_pani (hQ:PanI Q) (h:PanI Q→HP c ops Q Sw m fuel listed env H):HP c ops Q Sw m fuel listed env H:=h hQ
end Go.Vc
end
section
namespace Go.Proofs.YtalkkcfojplmdaaGreatDoor
open Go.Vc
attribute [local irreducible] JL JC JQ OpWp Con ConN HOk
attribute [local irreducible] evJ evF Jb.arr
set_option maxHeartbeats 40000000
theorem rRunOk_c (p:Pg) (hp:PgOk p) (h0:ckF p=0) (n:Nat) (hn:n < p.tasks.length) (hRn:Rn p p.tasks[n]) (ins:List Int) (ss:List (List Int)) (hf:fitB (p.tasks[n]).inputs ins=true) (hfl:filB p.shared ss=true) :
 Con Tryz.prog 48 [.row p.row,In .i64 (n:Int),.cell (.list (ins.map Irow)),.cell (.list (ss.map LRow))] [] (fun K=>K (.tup [.row (OutRow (runO p p.tasks[n] ins ss)),In .i64 0]) []):=by
 have hC:=rProgram5_c p hp
 rw [h0] at hC
 have eT:(p.tasks.map Tk.row).length=p.tasks.length:=List.length_map _
 have hn1:¬ (n:Int) < 0:=by omega
 have hn2:¬ (n:Int) ≥ ((p.tasks.map Tk.row).length:Int):=by omega
 have htz:=hp.sz.tasks p.tasks[n] (List.getElem_mem hn)
 have hI:=rInputs6_c (p.tasks[n]).inputs ins
 have hS:=rShared6_c p ss
 rw [hf] at hI
 rw [hfl] at hS
 obtain ⟨OO,hres⟩:∃ OO,runO p p.tasks[n] ins ss=OO:=⟨_,rfl⟩
 rw [hres]
 refine con_intro Tryz.func48 O O b_ (fun c hc=>R_ (o_ O (ci_ O (fun bx=>Yz (fun bl=>?_)))))
 refine ap_ O O (as_ (al_ (am_ (R_ (M_ O (o_ O (bw_ O O (M_ O (Zs ?_)))))))))
 refine bf_ O O O b_ (ah_ O O b_ (bg_ 1 O O O O (ah_ O O b_ (br_ O (fun hlen=>ah_ O O b_ (cn_ O O (o_ O (bv_ O O O (T_ (ap_ O w_ ?_))))))))))
 refine as_ (al_ (R_ (F_ O (L_ 1 O (M_ O (Zm (fun bl=>?_)))))))
 refine am_ (am_ ?_)
 generalize p.tasks[n]=t at *
 refine an_ (F_ O (L_ 0 O (M_ O (o_ O (bm_ O (hI) (o_ O (cd_ O (Wj ?_))))))))
 refine R_ (A_ 2 O (M_ O (o_ O (bm_ O (hS) (o_ O (cd_ O ?_))))))
 refine Wj ?_
 rename_i bo
 generalize bx=bp at *
 refine an_ (o_ O (ow_makeMapE ByteArray Int (Value.int .i64) (fun bv hbv=>o_ O (ow_makeMapE ByteArray Int (Value.int .i64) (fun bv hbv=>A_ 2 O (o_ O (bm_ O (rPoints6_c _) (o_ O (ow_makeSliceI 39 O O O O O O g_ (fun vc hvc fvc=>o_ O (bu_ O O O O O (o_ O (ci_ O (fun bx=>E_ O (T_ (am_ (R_ (E_ O (T_ ?_)))))))))))))))))))
 rename_i bV hbV
 generalize bl=bt at *
 generalize bx=bj at *
 have zi:=htz.inputs
 have zv:=htz.vars
 have hA1:=hRn.a1
 have hS1:=hRn.s1
 have hfl2:t.inputs.length=ins.length:=by
  unfold fitB at hf
  simp only [Bool.and_eq_true,decide_eq_true_eq] at hf
  exact hf.1
 have hsl0:∀ h:0 < ss.length,(ss[0]).length≤1000000:=fil_hd hfl hRn.ssz
 have hsl:p.shared.length=ss.length:=by
  unfold filB at hfl
  rw [Bool.and_eq_true,decide_eq_true_eq] at hfl
  exact hfl.1
 refine au_ ?_
 refine jc_loopS (ι:=Nat) [] (fun k=>k≤(ins).length) (fun k=>(13,In .i64 (k:Int)) :: [(11,.cell (.val (.pointer (some ⟨bt,0,none⟩)))),(4,.cell (.val (.pointer (some ⟨bp,0,none⟩)))),(12,.cell (.val (.pointer (some ⟨bj,0,none⟩)))),(2,.cell (.list (ins.map Irow))),(3,.cell (.list (ss.map LRow))),(8,.cell (.val (.pointer (some ⟨bo,0,none⟩))))]) (fun k=>[.mapc bV (mapE (Value.int .i64) (fillF [] (((t.inputs.map (·.1)).zip ins).take k))),.mapc bv (mapE (fun v:Value=>v) ([]:List (ByteArray × Value))),.blk bj 126 [.val (.map (some bV)),.val (.map (some bv)),.val vc,.val (.int .i64 0)],.own vc 3 1 ((List.replicate 39 (0:Int)).map Irow),.blk bt 39 t.row,.blk bp 31 p.row,.blk bo 46 [.val (.slice none 0 0),.val (.slice none 0 0),.val (.slice none 0 0),.val (.slice none 0 0),.val (.int .i64 0)]]) (fun k=>(ins).length - k) 0 (Nat.zero_le _) ?_ ?_ ?_
 ·refine bc_ 3 O (bc_ 2 O (Y7 ?_))
  exact bc_ 1 O (bc_ 0 O sub_end)
 ·exact Wv
 rintro k hk
 have eLk:((ins).map Irow).length=(ins).length:=List.length_map _
 by_cases hltk:k < (ins).length
 ·have hltk2:(k:Int) < (((ins).map Irow).length:Int):=by omega
  have hkv:k < t.inputs.length:=by omega
  have hkv2:(k:Int) < ((t.inputs.map InRow).length:Int):=by rw [List.length_map]; omega
  have hkz:k < ((t.inputs.map (·.1)).zip ins).length:=by rw [List.length_zip,List.length_map]; omega
  have hgz:((t.inputs.map (·.1)).zip ins)[k]=((t.inputs[k]).1,ins[k]):=by rw [List.getElem_zip,List.getElem_map]
  refine YG ?_
  refine Zb (fun hlen=>?_)
  refine jc_anyB 14 none O k_ k_ (yM_ O (yN_ O (yF_ O (yL_ 2 O ?_))))
  refine yF_ O (yL_ 4 O (yM_ O (Zl ?_)))
  refine yM_ O (yM_ O (Ys ?_))
  refine ae_ (afin_none (ag_ (ow_mapPut (κ:=ByteArray) (vv:=Value.int .i64) (M:=fillF [] (((t.inputs.map (·.1)).zip ins).take k)) 0 O O O O O (ak_ (ay_ (al_ ?_))))))
  refine an_ (YM ?_)
  refine jq_againS (i:=k) (k+1) hltk g_ ?_ ?_
  ·rw [List.take_succ_eq_append_getElem hkz,hgz,fill_snoc]
   refine Zp ?_
   exact WF
  ·exact Wv
 ·have hltk2:¬ (k:Int) < (((ins).map Irow).length:Int):=by omega
  have hzl:((t.inputs.map (·.1)).zip ins).length≤k:=by rw [List.length_zip,List.length_map]; omega
  rw [List.take_of_length_le hzl]
  clear hzl
  refine YG ?_
  refine Zh (fun hlen=>?_)
  refine al_ (am_ (R_ (E_ O ?_)))
  refine T_ (au_ (jc_ownNil 3 1 g_ (jc_ownNil 3 1 g_ ?_)))
  skip
  refine jc_loopS (ι:=Nat × Value) [] (fun i=>i.1≤(t.arrays).length∧i.2.oneCell'=true) (fun i=>(14,In .i64 (i.1:Int)) :: [(11,.cell (.val (.pointer (some ⟨bt,0,none⟩)))),(4,.cell (.val (.pointer (some ⟨bp,0,none⟩)))),(12,.cell (.val (.pointer (some ⟨bj,0,none⟩)))),(2,.cell (.list (ins.map Irow))),(3,.cell (.list (ss.map LRow))),(8,.cell (.val (.pointer (some ⟨bo,0,none⟩))))]) (fun i=>(.own i.2 3 1 ((kIf i.1 (List.replicate (t.arrays.headD (⟨#[]⟩,0)).2.toNat (0:Int))).map Irow)) :: [.own (.slice none 0 0) 3 1 (([]:List Int).map Irow),.mapc bV (mapE (Value.int .i64) (fillF [] ((t.inputs.map (·.1)).zip ins))),.mapc bv (mapE (fun v:Value=>v) (fillF [] ((t.arrays.take i.1).map (fun x=>(x.1,i.2))))),.blk bj 126 [.val (.map (some bV)),.val (.map (some bv)),.val vc,.val (.int .i64 0)],.own vc 3 1 ((List.replicate 39 (0:Int)).map Irow),.blk bt 39 t.row,.blk bp 31 p.row,.blk bo 46 [.val (.slice none 0 0),.val (.slice none 0 0),.val (.slice none 0 0),.val (.slice none 0 0),.val (.int .i64 0)]]) (fun i=>(t.arrays).length - i.1) (0,.slice none 0 0) ⟨Nat.zero_le _,rfl⟩ ?_ ?_ ?_
  ·refine Zp ?_
   refine Zp ?_
   exact Wx
  ·exact Wv
  rintro ⟨k,v⟩ hz
  dsimp only at hz ⊢
  obtain ⟨hk,hva⟩:=hz
  have eLk:((t.arrays).map ArRow).length=(t.arrays).length:=List.length_map _
  by_cases hltk:k < (t.arrays).length
  ·have hltk2:(k:Int) < (((t.arrays).map ArRow).length:Int):=by omega
   obtain rfl:k=0:=by omega
   have hsz:(t.arrays[0]).2=(((t.arrays.headD (⟨#[]⟩,0)).2.toNat:Nat):Int)∧(t.arrays.headD (⟨#[]⟩,0)).2.toNat≤16:=by
    have h1:=hRn.asz t.arrays[0] (List.getElem_mem hltk)
    rw [hd_get hltk]
    omega
   obtain ⟨hsz,hszl⟩:=hsz
   have hone:∀ v:Value,fillF [] ((t.arrays.take 1).map (fun x=>(x.1,v)))=aset [] (t.arrays[0]).1 v:=by intro v; rw [one_take hltk]; rfl
   refine am_ (R_ (M_ O (F_ O (L_ 6 O (Zb (fun hlen=>?_))))))
   refine jc_hpM2 17 (n:=18) O 4 6 k_ O O (fun cs1 cs2 hcs1 hv1 hcs2 hv2=>?_)
   obtain ⟨u10,u11,u12,u13,rfl⟩:=len4 hcs1
   obtain ⟨u20,u21,u22,u23,u24,u25,u26,u27,u28,u29,u210,rfl⟩:=len11 hcs2
   obtain rfl:=Option.some.inj (hv1 0 _ rfl)
   obtain rfl:=Option.some.inj (hv1 1 _ rfl)
   obtain rfl:=Option.some.inj (hv1 2 _ rfl)
   obtain rfl:=Option.some.inj (hv1 3 _ rfl)
   obtain rfl:=Option.some.inj (hv2 0 _ rfl)
   obtain rfl:=Option.some.inj (hv2 1 _ rfl)
   obtain rfl:=Option.some.inj (hv2 2 _ rfl)
   obtain rfl:=Option.some.inj (hv2 3 _ rfl)
   obtain rfl:=Option.some.inj (hv2 4 _ rfl)
   refine hp_know 4 O mem0 ?_
   dsimp only [List.zipWith,know]
   refine hp_know 6 O mem1 ?_
   dsimp only [List.zipWith,know]
   refine hp_pani ZP (fun hPan=>?_)
   refine df_ (i:=0) O k_ k_ k_ b_ hPan (dk_ O) (df_ (i:=1) O k_ k_ k_ b_ hPan (dr_ O) (df_ (i:=2) O k_ k_ k_ b_ hPan (dl_ O O O b_) (df_ (i:=3) O k_ k_ k_ b_ hPan (dm_ 1 O O O mem0 O) (df_ (i:=4) O k_ k_ k_ b_ hPan (dl_ O O O b_) (df_ (i:=5) O k_ k_ k_ b_ hPan (hok_loadK 0 O O O mem1 O) (df_ (i:=6) O k_ k_ k_ b_ hPan (dk_ O) ?_))))))
   refine df_ (i:=7) O k_ k_ k_ b_ hPan (hok_indexMapE O O g_ O O b_) (df_ (i:=8) O k_ k_ k_ b_ hPan (hok_fieldAddrP O O O b_ O b_) (df_ (i:=10) O k_ k_ k_ b_ hPan (dl_ O O O b_) (df_ (i:=11) O k_ k_ k_ b_ hPan (hok_loadK 0 O O O mem1 O) (df_ (i:=12) O k_ k_ k_ b_ hPan (dk_ O) (df_ (i:=13) O k_ k_ k_ b_ hPan (hok_indexMapE O O g_ O O b_) ?_)))))
   refine df_ (i:=14) O k_ k_ k_ b_ hPan (hok_fieldAddrP O O O b_ O b_) (hp_br2 (i:=9) (j:=15) O O k_ O ?_ ?_)
   refine hs_v (cb_ O O ⟨?_,?_⟩)
   exact keepK2 1 0 O O O O
   refine dg_ (i:=15) O k_ b_ (cb_ O O ⟨?_,?_⟩)
   exact keepK2 1 0 O O O O
   refine dg_ (i:=16) O k_ b_ (ow_makeSliceI (t.arrays.headD (⟨#[]⟩,0)).2.toNat rfl O O O O hsz g_ (fun va1 hva1 fva1=>⟨?_,?_⟩))
   exact keepK2 2 1 O O O O
   refine Yr ?_
   clear hPan
   refine jq_unk [_,_,_,_,_,u25,u26,u27,u28,u29,u210] 2 O O ?_
   dsimp only [List.map,unk]
   rotate_left
   refine hs_v (cb_ O O ⟨?_,?_⟩)
   exact keepK2 1 0 O O O O
   refine hp_br2 (i:=9) (j:=16) O O k_ O ?_ ?_
   refine hs_v (cb_ O O ⟨?_,?_⟩)
   exact keepK2 1 0 O O O O
   refine dg_ (i:=16) O k_ b_ (ow_makeSliceI (t.arrays.headD (⟨#[]⟩,0)).2.toNat rfl O O O O hsz g_ (fun va1 hva1 fva1=>⟨?_,?_⟩))
   exact keepK2 2 1 O O O O
   refine Yr ?_
   clear hPan
   refine jq_unk [_,_,_,_,_,u25,u26,u27,u28,u29,u210] 2 O O ?_
   dsimp only [List.map,unk]
   rotate_left
   refine hs_v (ow_makeSliceI (t.arrays.headD (⟨#[]⟩,0)).2.toNat rfl O O O O hsz g_ (fun va1 hva1 fva1=>⟨?_,?_⟩))
   exact keepK2 2 1 O O O O
   refine dg_ (i:=9) O k_ b_ (cb_ O O ⟨?_,?_⟩)
   exact keepK2 2 1 O O O O
   refine Yr ?_
   clear hPan
   refine jq_unk [_,_,_,_,_,u25,u26,u27,u28,u29,u210] 2 O O ?_
   dsimp only [List.map,unk]
   rotate_left
   ·refine Zj ?_
    refine jq_againS (i:=(0,v)) (1,va1) ⟨by omega,hva1⟩ (by dsimp only; omega) ?_ ?_
    ·dsimp only
     rw [hone]
     exact WU
    ·exact Wv
   ·refine Zj ?_
    refine jq_againS (i:=(0,v)) (1,va1) ⟨by omega,hva1⟩ (by dsimp only; omega) ?_ ?_
    ·dsimp only
     rw [hone]
     exact WU
    ·exact Wv
   ·refine Zj ?_
    refine jq_againS (i:=(0,v)) (1,va1) ⟨by omega,hva1⟩ (by dsimp only; omega) ?_ ?_
    ·dsimp only
     rw [hone]
     exact WU
    ·exact Wv
  ·have hltk2:¬ (k:Int) < (((t.arrays).map ArRow).length:Int):=by omega
   rw [show t.arrays.take k=t.arrays from List.take_of_length_le (by omega)]
   obtain rfl:k=t.arrays.length:=by omega
   generalize v=va at *
   clear hltk hltk2 hk
   refine am_ (R_ (M_ O (F_ O (L_ 6 O (o_ O (br_ O (fun hlen=>o_ O (bw_ O O (T_ (ap_ O v_ (av_ (ax_ (ax_ (ba_ (al_ (am_ (R_ ?_)))))))))))))))))
   refine E_ O (T_ (au_ ?_))
   refine jc_loopS (ι:=Nat × Value) [] (fun i=>i.1≤(ss).length∧i.2.oneCell'=true) (fun i=>(15,In .i64 (i.1:Int)) :: [(11,.cell (.val (.pointer (some ⟨bt,0,none⟩)))),(4,.cell (.val (.pointer (some ⟨bp,0,none⟩)))),(12,.cell (.val (.pointer (some ⟨bj,0,none⟩)))),(2,.cell (.list (ins.map Irow))),(3,.cell (.list (ss.map LRow))),(8,.cell (.val (.pointer (some ⟨bo,0,none⟩))))]) (fun i=>(.own i.2 3 1 ((kIf i.1 (ss.headD [])).map Irow)) :: [.own va 3 1 ((ca0 t.arrays).map Irow),.mapc bV (mapE (Value.int .i64) (fillF [] ((t.inputs.map (·.1)).zip ins))),.mapc bv (mapE (fun v:Value=>v) (fillF (fillF [] (t.arrays.map (fun x=>(x.1,va)))) ((p.shared.take i.1).map (fun x=>(x.1,i.2))))),.blk bj 126 [.val (.map (some bV)),.val (.map (some bv)),.val vc,.val (.int .i64 0)],.own vc 3 1 ((List.replicate 39 (0:Int)).map Irow),.blk bt 39 t.row,.blk bp 31 p.row,.blk bo 46 [.val (.slice none 0 0),.val (.slice none 0 0),.val (.slice none 0 0),.val (.slice none 0 0),.val (.int .i64 0)]]) (fun i=>(ss).length - i.1) (0,.slice none 0 0) ⟨Nat.zero_le _,rfl⟩ ?_ ?_ ?_
   ·refine bc_ 1 O (Zp ?_)
    refine Y7 ?_
    exact Wx
   ·exact Wv
   rintro ⟨k,v⟩ hz
   dsimp only at hz ⊢
   obtain ⟨hk,hvb⟩:=hz
   have eLk:((ss).map LRow).length=(ss).length:=List.length_map _
   by_cases hltk:k < (ss).length
   ·have hltk2:(k:Int) < (((ss).map LRow).length:Int):=by omega
    obtain rfl:k=0:=by omega
    have hs0:0 < p.shared.length:=by omega
    have hhd:ss.headD []=ss[0]:=hd_get hltk
    have hone:∀ (M:List (ByteArray × Value)) (v:Value),fillF M ((p.shared.take 1).map (fun x=>(x.1,v)))=aset M (p.shared[0]).1 v:=by intro M v; rw [one_take hs0]; rfl
    have hz0:=hsl0 hltk
    refine YG ?_
    refine Zb (fun hlen=>?_)
    refine jc_hpM2 17 (n:=18) O 4 7 k_ O O (fun cs1 cs2 hcs1 hv1 hcs2 hv2=>?_)
    obtain ⟨u10,u11,u12,u13,rfl⟩:=len4 hcs1
    obtain ⟨u20,u21,u22,rfl⟩:=len3 hcs2
    obtain rfl:=Option.some.inj (hv1 0 _ rfl)
    obtain rfl:=Option.some.inj (hv1 1 _ rfl)
    obtain rfl:=Option.some.inj (hv1 2 _ rfl)
    obtain rfl:=Option.some.inj (hv1 3 _ rfl)
    refine hp_know 4 O mem0 ?_
    dsimp only [List.zipWith,know]
    refine hp_know 7 O mem1 ?_
    dsimp only [List.zipWith,know]
    refine hp_pani ZP (fun hPan=>?_)
    refine df_ (i:=0) O k_ k_ k_ b_ hPan (dk_ O) (df_ (i:=1) O k_ k_ k_ b_ hPan (dr_ O) (df_ (i:=2) O k_ k_ k_ b_ hPan (dl_ O O O b_) (df_ (i:=3) O k_ k_ k_ b_ hPan (dm_ 1 O O O mem0 O) (df_ (i:=4) O k_ k_ k_ b_ hPan (dl_ O O O b_) (df_ (i:=5) O k_ k_ k_ b_ hPan (hok_loadK 0 O O O mem1 O) (df_ (i:=6) O k_ k_ k_ b_ hPan (dk_ O) ?_))))))
    refine df_ (i:=7) O k_ k_ k_ b_ hPan (hok_indexMapE O O g_ O O b_) (df_ (i:=8) O k_ k_ k_ b_ hPan (hok_fieldAddrP O O O b_ O b_) (df_ (i:=9) O k_ k_ k_ b_ hPan (hok_fieldAddrP O O O b_ O b_) (df_ (i:=12) O k_ k_ k_ b_ hPan (dk_ O) (df_ (i:=13) O k_ k_ k_ b_ hPan (dk_ O) (df_ (i:=14) O k_ k_ k_ b_ hPan (hok_indexMapE O O g_ O O b_) ?_)))))
    refine hp_br3 (i:=10) (j:=11) (k:=15) O O O k_ O ?_ ?_ ?_
    refine hs_v (cb_ O O ⟨?_,?_⟩)
    exact keepK2 1 0 O O O O
    refine hp_br2 (i:=11) (j:=15) O O k_ O ?_ ?_
    refine hs_v (ow_buildSliceOwn (rows:=([]:List Int).map Irow) O O (nb O) O O (nb O) (fun v0 _ fv0=>⟨?_,?_⟩))
    exact keepK2 2 1 O O O O
    refine dg_ (i:=15) O k_ b_ (cb_ O O ⟨?_,?_⟩)
    exact keepK2 2 1 O O O O
    refine ZH (fun pp hpp=>?_)
    refine ⟨?_,?_⟩
    exact keepK2 2 1 O O O O
    refine Zv ?_
    clear hPan
    refine jq_unk [u20,u21,u22] 2 O O ?_
    dsimp only [List.map,unk]
    rotate_left
    refine hs_v (cb_ O O ⟨?_,?_⟩)
    exact keepK2 1 0 O O O O
    refine dg_ (i:=11) O k_ b_ (ow_buildSliceOwn (rows:=([]:List Int).map Irow) O O b_ O O b_ (fun v0 _ fv0=>⟨?_,?_⟩))
    exact keepK2 2 1 O O O O
    refine ZH (fun pp hpp=>?_)
    refine ⟨?_,?_⟩
    exact keepK2 2 1 O O O O
    refine Zv ?_
    clear hPan
    refine jq_unk [u20,u21,u22] 2 O O ?_
    dsimp only [List.map,unk]
    rotate_left
    refine hs_v (ow_buildSliceOwn (rows:=([]:List Int).map Irow) O O (nb O) O O (nb O) (fun v0 _ fv0=>⟨?_,?_⟩))
    exact keepK2 2 1 O O O O
    refine hp_br2 (i:=10) (j:=15) O O k_ O ?_ ?_
    refine hs_v (cb_ O O ⟨?_,?_⟩)
    exact keepK2 2 1 O O O O
    refine dg_ (i:=15) O k_ b_ (cb_ O O ⟨?_,?_⟩)
    exact keepK2 2 1 O O O O
    refine ZH (fun pp hpp=>?_)
    refine ⟨?_,?_⟩
    exact keepK2 2 1 O O O O
    refine Zv ?_
    clear hPan
    refine jq_unk [u20,u21,u22] 2 O O ?_
    dsimp only [List.map,unk]
    rotate_left
    refine hs_v (cb_ O O ⟨?_,?_⟩)
    exact keepK2 2 1 O O O O
    refine hp_br2 (i:=10) (j:=16) O O k_ O ?_ ?_
    refine hs_v (cb_ O O ⟨?_,?_⟩)
    exact keepK2 2 1 O O O O
    refine ZH (fun pp hpp=>?_)
    refine ⟨?_,?_⟩
    exact keepK2 2 1 O O O O
    refine Zv ?_
    clear hPan
    refine jq_unk [u20,u21,u22] 2 O O ?_
    dsimp only [List.map,unk]
    rotate_left
    refine hs_v (ow_appendM 0 (f:=Irow) (l1:=[]) (l2:=ss[0]) O O O O O O O (fun _=>O) (by show (0+_) * 8≤_;omega) (by show 0+_≤_;omega) (fun pp hpp=>⟨?_,?_⟩))
    exact keepK2 2 1 O O O O
    refine dg_ (i:=10) O k_ b_ (cb_ O O ⟨?_,?_⟩)
    exact keepK2 2 1 O O O O
    refine Zv ?_
    clear hPan
    refine jq_unk [u20,u21,u22] 2 O O ?_
    dsimp only [List.map,unk]
    rotate_left
    refine hs_v (cb_ O O ⟨?_,?_⟩)
    exact keepK2 1 0 O O O O
    refine hp_br2 (i:=10) (j:=11) O O k_ O ?_ ?_
    refine hs_v (cb_ O O ⟨?_,?_⟩)
    exact keepK2 1 0 O O O O
    refine dg_ (i:=11) O k_ b_ (ow_buildSliceOwn (rows:=([]:List Int).map Irow) O O b_ O O b_ (fun v0 _ fv0=>⟨?_,?_⟩))
    exact keepK2 2 1 O O O O
    refine ZH (fun pp hpp=>?_)
    refine ⟨?_,?_⟩
    exact keepK2 2 1 O O O O
    refine Zv ?_
    clear hPan
    refine jq_unk [u20,u21,u22] 2 O O ?_
    dsimp only [List.map,unk]
    rotate_left
    refine hs_v (ow_buildSliceOwn (rows:=([]:List Int).map Irow) O O (nb O) O O (nb O) (fun v0 _ fv0=>⟨?_,?_⟩))
    exact keepK2 2 1 O O O O
    refine hp_br2 (i:=10) (j:=16) O O k_ O ?_ ?_
    refine hs_v (cb_ O O ⟨?_,?_⟩)
    exact keepK2 2 1 O O O O
    refine ZH (fun pp hpp=>?_)
    refine ⟨?_,?_⟩
    exact keepK2 2 1 O O O O
    refine Zv ?_
    clear hPan
    refine jq_unk [u20,u21,u22] 2 O O ?_
    dsimp only [List.map,unk]
    rotate_left
    refine hs_v (ow_appendM 0 (f:=Irow) (l1:=[]) (l2:=ss[0]) O O O O O O O (fun _=>O) (by show (0+_) * 8≤_;omega) (by show 0+_≤_;omega) (fun pp hpp=>⟨?_,?_⟩))
    exact keepK2 2 1 O O O O
    refine dg_ (i:=10) O k_ b_ (cb_ O O ⟨?_,?_⟩)
    exact keepK2 2 1 O O O O
    refine Zv ?_
    clear hPan
    refine jq_unk [u20,u21,u22] 2 O O ?_
    dsimp only [List.map,unk]
    rotate_left
    ·refine Zj ?_
     refine jq_againS (i:=(0,v)) (1,pp) ⟨by omega,hpp⟩ (by dsimp only; omega) ?_ ?_
     ·dsimp only
      rw [hone,kIf,hhd]
      refine ZZ ?_
      exact WD
     ·exact Wv
    ·refine Zj ?_
     refine jq_againS (i:=(0,v)) (1,pp) ⟨by omega,hpp⟩ (by dsimp only; omega) ?_ ?_
     ·dsimp only
      rw [hone,kIf,hhd]
      refine ZZ ?_
      exact WD
     ·exact Wv
    ·refine Zj ?_
     refine jq_againS (i:=(0,v)) (1,pp) ⟨by omega,hpp⟩ (by dsimp only; omega) ?_ ?_
     ·dsimp only
      rw [hone,kIf,hhd]
      refine ZZ ?_
      exact WD
     ·exact Wv
    ·refine Zj ?_
     refine jq_againS (i:=(0,v)) (1,pp) ⟨by omega,hpp⟩ (by dsimp only; omega) ?_ ?_
     ·dsimp only
      rw [hone,kIf,hhd]
      refine ZZ ?_
      exact WD
     ·exact Wv
    ·refine Zj ?_
     refine jq_againS (i:=(0,v)) (1,pp) ⟨by omega,hpp⟩ (by dsimp only; omega) ?_ ?_
     ·dsimp only
      rw [hone,kIf,hhd]
      refine ZZ ?_
      exact WD
     ·exact Wv
    ·refine Zj ?_
     refine jq_againS (i:=(0,v)) (1,pp) ⟨by omega,hpp⟩ (by dsimp only; omega) ?_ ?_
     ·dsimp only
      rw [hone,kIf,hhd]
      refine ZZ ?_
      exact WD
     ·exact Wv
    ·refine Zj ?_
     refine jq_againS (i:=(0,v)) (1,pp) ⟨by omega,hpp⟩ (by dsimp only; omega) ?_ ?_
     ·dsimp only
      rw [hone,kIf,hhd]
      refine ZZ ?_
      exact WD
     ·exact Wv
    ·refine Zj ?_
     refine jq_againS (i:=(0,v)) (1,pp) ⟨by omega,hpp⟩ (by dsimp only; omega) ?_ ?_
     ·dsimp only
      rw [hone,kIf,hhd]
      refine ZZ ?_
      exact WD
     ·exact Wv
   ·have hltk2:¬ (k:Int) < (((ss).map LRow).length:Int):=by omega
    rw [show p.shared.take k=p.shared from List.take_of_length_le (by omega)]
    obtain rfl:k=p.shared.length:=by omega
    generalize v=vb at *
    clear hltk hltk2 hk
    have hV:=arV_eq p t va vb
    unfold arV at hV
    rw [hV]
    have hl39:(List.replicate 39 (0:Int)).length=39:=List.length_replicate
    refine Yl (fun hlen=>?_)
    refine T_ (ap_ O v_ (av_ (ax_ (ax_ (ba_ (al_ (R_ (M_ O (N_ O ?_)))))))))
    refine F_ O (L_ 4 O (o_ O (ow_indexI 5 O O O g_ O (ag_ (ow_storeI 5 O O O g_ O (T_ (am_ ?_)))))))
    refine jc_reset [(11,.cell (.val (.pointer (some ⟨bt,0,none⟩)))),(4,.cell (.val (.pointer (some ⟨bp,0,none⟩)))),(12,.cell (.val (.pointer (some ⟨bj,0,none⟩)))),(8,.cell (.val (.pointer (some ⟨bo,0,none⟩))))] (JobH bj bV bv va vb vc (AMof p t) (jb0 p t ins ss) ++ [.blk bt 39 t.row,.blk bp 31 p.row,.blk bo 46 [.val (.slice none 0 0),.val (.slice none 0 0),.val (.slice none 0 0),.val (.slice none 0 0),.val (.int .i64 0)]]) ?_ ?_ ?_
    ·exact Wv
    ·refine bc_ 5 O (bc_ 0 O (bc_ 2 O (bc_ 2 O (bc_ 1 O (Y7 ?_)))))
     exact Wx
    have cR:=rrun6_c (bj:=bj) (bv:=bV) (ba:=bv) (va:=va) (vb:=vb) (vc:=vc) (AM:=AMof p t) _ (am_has hRn hfl) (ca0_le hRn) (cb0_le hRn hfl) hva hvb t.body hRn.rok 1 (jb0 p t ins ss) jb0_ok (by have:=hRn.cst; omega)
    refine an_ (M_ O (F_ O (L_ 6 O (o_ O (bi_ [0,0,0,0,0,0] O O cR (T_ (am_ ?_)))))))
    refine jc_reset [(11,.cell (.val (.pointer (some ⟨bt,0,none⟩)))),(4,.cell (.val (.pointer (some ⟨bp,0,none⟩)))),(12,.cell (.val (.pointer (some ⟨bj,0,none⟩)))),(8,.cell (.val (.pointer (some ⟨bo,0,none⟩))))] (JobH bj bV bv va vb vc (AMof p t) (runL (AMof p t) t.body (jb0 p t ins ss)) ++ [.blk bt 39 t.row,.blk bp 31 p.row,.blk bo 46 [.val (.slice none 0 0),.val (.slice none 0 0),.val (.slice none 0 0),.val (.slice none 0 0),.val (.int .i64 0)]]) ?_ ?_ ?_
    ·exact Wv
    ·refine Zp ?_
     refine Zp ?_
     exact Wx
    have hrun:runO p t ins ss=⟨(scaL t).map (fun s=>(aget (runL (AMof p t) t.body (jb0 p t ins ss)).V s).getD 0),t.arrays.map (fun _=>(runL (AMof p t) t.body (jb0 p t ins ss)).ca),p.shared.map (fun _=>(runL (AMof p t) t.body (jb0 p t ins ss)).cb),(runL (AMof p t) t.body (jb0 p t ins ss)).cn,(runL (AMof p t) t.body (jb0 p t ins ss)).st⟩:=rfl
    rw [hrun] at hres
    clear cR hrun
    generalize (runL (AMof p t) t.body (jb0 p t ins ss))=J at hres ⊢
    have eNl:(scaL t).length=t.inputs.length+t.vars.length:=by unfold scaL; rw [List.length_append,List.length_map]
    refine jc_anyB 10 (some 9) O k_ k_ (yM_ O (yN_ O (yF_ O (yL_ 0 O (yM_ O (yN_ O (yF_ O (yL_ 0 O (aa_ (fun c=>bu_ O O O O O p_) (af_ (ae_ (afin_some O O O (fun bl=>S_ 0 O (T_ (R_ ?_)))))))))))))))
    refine A_ 7 O (o_ O (bm_ O (rScalars_c t zi zv) (E_ O (T_ (am_ (R_ (E_ O (T_ (au_ ?_)))))))))
    generalize bl=b2 at *
    refine jc_ownNil 3 1 g_ ?_
    refine jc_loopS (ι:=Nat × Value × List Int) [] (fun i=>i.1≤((scaL t)).length∧i.2.2=(((scaL t)).take i.1).map (fun s=>(aget J.V s).getD 0)) (fun i=>(18,In .i64 (i.1:Int)) :: (17,.cell (.list ((scaL t).map Wrow))) :: [(16,.cell (.val (.pointer (some ⟨b2,0,none⟩)))),(11,.cell (.val (.pointer (some ⟨bt,0,none⟩)))),(4,.cell (.val (.pointer (some ⟨bp,0,none⟩)))),(12,.cell (.val (.pointer (some ⟨bj,0,none⟩)))),(8,.cell (.val (.pointer (some ⟨bo,0,none⟩))))]) (fun i=>(.own i.2.1 3 1 (i.2.2.map Irow)) :: .blk b2 46 [.val i.2.1,.val (.slice none 0 0),.val (.slice none 0 0),.val vc,.val (.int .i64 J.st)] :: (JobH bj bV bv va vb vc (AMof p t) J ++ [.blk bt 39 t.row,.blk bp 31 p.row,.blk bo 46 [.val (.slice none 0 0),.val (.slice none 0 0),.val (.slice none 0 0),.val (.slice none 0 0),.val (.int .i64 0)]])) (fun i=>((scaL t)).length - i.1) (0,.slice none 0 0,[]) ⟨Nat.zero_le _,rfl⟩ ?_ ?_ ?_
    ·refine Zp ?_
     refine Zp ?_
     exact WF
    ·exact Wv
    rintro ⟨k,v,B⟩ hz
    dsimp only at hz ⊢
    obtain ⟨hk,hB⟩:=hz
    have eLk:(((scaL t)).map Wrow).length=((scaL t)).length:=List.length_map _
    by_cases hltk:k < ((scaL t)).length
    ·have hltk2:(k:Int) < ((((scaL t)).map Wrow).length:Int):=by omega
     have hBl:=congrArg List.length hB
     simp only [List.length_map,List.length_take] at hBl
     refine YG ?_
     refine Zb (fun hlen=>?_)
     refine jc_hpV2 13 (n:=15) O 1 1 [v,.slice none 0 0,.slice none 0 0,vc,.int .i64 J.st] [.map (some bV),.map (some bv),vc,.int .i64 J.st] k_ O O O (hp_pani ZP (fun hPan=>?_))
     refine df_ (i:=0) O k_ k_ k_ b_ hPan (dl_ O O O b_) (df_ (i:=1) O k_ k_ k_ b_ hPan (dm_ 1 O O O mem0 O) (YI ?_))
     refine df_ (i:=5) O k_ k_ k_ b_ hPan (dm_ 2 O O O mem1 O) (df_ (i:=6) O k_ k_ k_ b_ hPan (dk_ O) (df_ (i:=7) O k_ k_ k_ b_ hPan (dk_ O) ?_))
     refine df_ (i:=8) O k_ k_ k_ b_ hPan (hok_indexMapE O O g_ O O b_) (dg_ (i:=9) O k_ b_ (cb_ O O ⟨?_,?_⟩))
     exact keep2 1 2 O O
     refine dg_ (i:=10) O k_ b_ (ow_mapGetOI 4 O O O O O ⟨?_,?_⟩)
     exact keep2 1 2 O O
     refine dg_ (i:=11) O k_ b_ (bq_ O O b_ O O b_ ⟨?_,?_⟩)
     exact keep2 1 2 O O
     refine dg_ (i:=12) O k_ b_ (ow_append1 0 ((aget J.V ((scaL t))[k]).getD 0) O O O O O O O (fun _=>O) (by show (_+1) * 8≤_;first | omega | (simp;done)) (by first | omega | (simp;done)) (fun v1 hv1=>⟨?_,?_⟩))
     exact keep2 1 2 O O
     refine df_ (i:=13) O k_ k_ k_ b_ hPan (dl_ O O O b_) (hp_tail (dj_ (i:=14) O k_ (by decide) (ca_ 1 O O O O b_ (ht_done k_ ?_))))
     clear hPan
     refine Zj ?_
     refine jq_againS (i:=(k,v,B)) (k+1,v1,B ++ [(aget J.V ((scaL t))[k]).getD 0]) ⟨hltk,by dsimp only; rw [hB,List.take_succ_eq_append_getElem hltk,List.map_append]; rfl⟩ (by dsimp only; omega) ?_ ?_
     ·refine bc_ 1 O (Zp ?_)
      refine Zp ?_
      exact Ww
     ·exact Wv
    ·have hltk2:¬ (k:Int) < ((((scaL t)).map Wrow).length:Int):=by omega
     rw [show ((scaL t)).take k=(scaL t) from List.take_of_length_le (by omega)] at hB
     generalize v=vV at *
     refine YG ?_
     refine Zh (fun hlen=>?_)
     refine al_ (am_ (R_ (E_ O ?_)))
     refine T_ (au_ ?_)
     subst hB
     clear hltk hltk2 hk eLk
     refine jc_ownNil 22 1 g_ ?_
     refine jc_loopS (ι:=Nat × Value) [] (fun i=>i.1≤(t.arrays).length) (fun i=>(19,In .i64 (i.1:Int)) :: [(16,.cell (.val (.pointer (some ⟨b2,0,none⟩)))),(11,.cell (.val (.pointer (some ⟨bt,0,none⟩)))),(4,.cell (.val (.pointer (some ⟨bp,0,none⟩)))),(12,.cell (.val (.pointer (some ⟨bj,0,none⟩)))),(8,.cell (.val (.pointer (some ⟨bo,0,none⟩))))]) (fun i=>(.own i.2 22 1 ((t.arrays.take i.1).map (fun _=>[C.val va]))) :: .blk b2 46 [.val vV,.val i.2,.val (.slice none 0 0),.val vc,.val (.int .i64 J.st)] :: .own vV 3 1 (((scaL t).map (fun s=>(aget J.V s).getD 0)).map Irow) :: (JobH bj bV bv va vb vc (AMof p t) J ++ [.blk bt 39 t.row,.blk bp 31 p.row,.blk bo 46 [.val (.slice none 0 0),.val (.slice none 0 0),.val (.slice none 0 0),.val (.slice none 0 0),.val (.int .i64 0)]])) (fun i=>(t.arrays).length - i.1) (0,.slice none 0 0) (Nat.zero_le _) ?_ ?_ ?_
     ·refine bc_ 0 O (bc_ 1 O (Zp ?_))
      refine Zp ?_
      exact Ww
     ·exact Wv
     rintro ⟨k,v⟩ hz
     dsimp only at hz ⊢
     obtain hk:=hz
     have eLk:((t.arrays).map ArRow).length=(t.arrays).length:=List.length_map _
     by_cases hltk:k < (t.arrays).length
     ·have hltk2:(k:Int) < (((t.arrays).map ArRow).length:Int):=by omega
      obtain rfl:k=0:=by omega
      have hAM:=am_arr hRn hltk
      refine am_ (R_ (M_ O (F_ O (L_ 9 O (Zb (fun hlen=>?_))))))
      refine jc_hpM3 15 (n:=17) O 1 3 9 k_ O O O (fun cs1 cs2 cs3 hcs1 hv1 hcs2 hv2 hcs3 hv3=>?_)
      obtain ⟨u10,u11,u12,u13,u14,rfl⟩:=len5 hcs1
      obtain ⟨u20,u21,u22,u23,rfl⟩:=len4 hcs2
      obtain ⟨u30,u31,u32,u33,u34,u35,u36,u37,u38,u39,u310,rfl⟩:=len11 hcs3
      obtain rfl:=Option.some.inj (hv1 0 _ rfl)
      obtain rfl:=Option.some.inj (hv1 1 _ rfl)
      obtain rfl:=Option.some.inj (hv1 2 _ rfl)
      obtain rfl:=Option.some.inj (hv1 3 _ rfl)
      obtain rfl:=Option.some.inj (hv1 4 _ rfl)
      obtain rfl:=Option.some.inj (hv2 0 _ rfl)
      obtain rfl:=Option.some.inj (hv2 1 _ rfl)
      obtain rfl:=Option.some.inj (hv2 2 _ rfl)
      obtain rfl:=Option.some.inj (hv2 3 _ rfl)
      obtain rfl:=Option.some.inj (hv3 0 _ rfl)
      obtain rfl:=Option.some.inj (hv3 1 _ rfl)
      obtain rfl:=Option.some.inj (hv3 2 _ rfl)
      obtain rfl:=Option.some.inj (hv3 3 _ rfl)
      obtain rfl:=Option.some.inj (hv3 4 _ rfl)
      refine hp_know 1 O mem0 ?_
      dsimp only [List.zipWith,know]
      refine hp_know 3 O mem1 ?_
      dsimp only [List.zipWith,know]
      refine hp_know 9 O mem2 ?_
      dsimp only [List.zipWith,know]
      refine hp_pani ZP (fun hPan=>?_)
      refine df_ (i:=0) O k_ k_ k_ b_ hPan (dl_ O O O b_) (df_ (i:=1) O k_ k_ k_ b_ hPan (dm_ 2 O O O mem0 O) (YI ?_))
      refine df_ (i:=5) O k_ k_ k_ b_ hPan (dm_ 1 O O O mem1 O) (df_ (i:=6) O k_ k_ k_ b_ hPan (dl_ O O O b_) ?_)
      refine df_ (i:=7) O k_ k_ k_ b_ hPan (hok_loadK 0 O O O mem2 O) (df_ (i:=8) O k_ k_ k_ b_ hPan (dk_ O) (df_ (i:=9) O k_ k_ k_ b_ hPan (hok_indexMapE O O g_ O O b_) (df_ (i:=10) O k_ k_ k_ b_ hPan (hok_fieldAddrP O O O b_ O b_) (dg_ (i:=11) O k_ b_ (cb_ O O ⟨?_,?_⟩)))))
      refine keepK3 ?_ ?_ ?_
      exact keepAt 2 O O
      exact keepAt 1 O O
      exact keepAt 0 O O
      refine dg_ (i:=12) O k_ b_ (ow_mapGetOW (κ:=ByteArray) (vv:=fun q=>cond q va vb) (M:=AMof p t) (w:=true) (u:=va) 7 O O hAM O hva O O O ⟨?_,?_⟩)
      refine keepK3 ?_ ?_ ?_
      exact keepAt 2 O O
      exact keepAt 1 O O
      exact keepAt 0 O O
      refine dg_ (i:=13) O k_ b_ (bq_ O O b_ O O b_ ⟨?_,?_⟩)
      refine keepK3 ?_ ?_ ?_
      exact keepAt 2 O O
      exact keepAt 1 O O
      exact keepAt 0 O O
      refine dg_ (i:=14) O k_ b_ (ow_append1 3 (t.arrays[0]) O O O O O O O (fun _=>O) (by show (_+1) * 24≤_;first | omega | (simp;done)) (by first | omega | (simp;done)) (fun v1 hv1=>⟨?_,?_⟩))
      refine keepK3 ?_ ?_ ?_
      exact keepAt 3 O O
      exact keepAt 2 O O
      exact keepAt 1 O O
      refine df_ (i:=15) O k_ k_ k_ b_ hPan (dl_ O O O b_) (hp_tail (dj_ (i:=16) O k_ (by decide) (ca_ 3 O O O O b_ (ht_done k_ ?_))))
      clear hPan
      refine jq_unk [_,_,_,_,_,u35,u36,u37,u38,u39,u310] 2 O O ?_
      dsimp only [List.map,unk]
      ·refine Zj ?_
       refine jq_againS (i:=(0,v)) (1,v1) (by first | omega | (dsimp only; omega)) (by first | omega | (dsimp only; omega)) ?_ ?_
       ·dsimp only
        rw [one_take hltk]
        refine bc_ 2 O (bc_ 1 O (bc_ 2 O (YB ?_)))
        exact bc_ 1 O (bc_ 1 O (bc_ 0 O (bc_ 0 O (bc_ 0 O sub_end))))
       ·exact Wv
     ·have hltk2:¬ (k:Int) < (((t.arrays).map ArRow).length:Int):=by omega
      rw [show t.arrays.take k=t.arrays from List.take_of_length_le (by omega)]
      generalize v=vA at *
      refine am_ (R_ (M_ O (F_ O (L_ 9 O (Zh (fun hlen=>?_))))))
      refine al_ (am_ (R_ ?_))
      refine E_ O (T_ (au_ (jc_ownNil 22 1 g_ ?_)))
      refine jc_loopS (ι:=Nat × Value) [] (fun i=>i.1≤(p.shared).length) (fun i=>(20,In .i64 (i.1:Int)) :: [(16,.cell (.val (.pointer (some ⟨b2,0,none⟩)))),(11,.cell (.val (.pointer (some ⟨bt,0,none⟩)))),(4,.cell (.val (.pointer (some ⟨bp,0,none⟩)))),(12,.cell (.val (.pointer (some ⟨bj,0,none⟩)))),(8,.cell (.val (.pointer (some ⟨bo,0,none⟩))))]) (fun i=>(.own i.2 22 1 ((p.shared.take i.1).map (fun _=>[C.val vb]))) :: .blk b2 46 [.val vV,.val vA,.val i.2,.val vc,.val (.int .i64 J.st)] :: .own vA 22 1 (t.arrays.map (fun _=>[C.val va])) :: .own vV 3 1 (((scaL t).map (fun s=>(aget J.V s).getD 0)).map Irow) :: (JobH bj bV bv va vb vc (AMof p t) J ++ [.blk bt 39 t.row,.blk bp 31 p.row,.blk bo 46 [.val (.slice none 0 0),.val (.slice none 0 0),.val (.slice none 0 0),.val (.slice none 0 0),.val (.int .i64 0)]])) (fun i=>(p.shared).length - i.1) (0,.slice none 0 0) (Nat.zero_le _) ?_ ?_ ?_
      ·refine bc_ 0 O (bc_ 1 O (Zp ?_))
       refine Zp ?_
       exact WF
      ·exact Wv
      rintro ⟨k,v⟩ hz
      dsimp only at hz ⊢
      obtain hk:=hz
      have eLk:((p.shared).map ShRow).length=(p.shared).length:=List.length_map _
      by_cases hltk:k < (p.shared).length
      ·have hltk2:(k:Int) < (((p.shared).map ShRow).length:Int):=by omega
       obtain rfl:k=0:=by omega
       have hAM:=am_shr hRn hltk
       refine am_ (R_ (M_ O (F_ O (L_ 11 O (Zb (fun hlen=>?_))))))
       refine jc_hpM3 16 (n:=18) O 1 4 11 k_ O O O (fun cs1 cs2 cs3 hcs1 hv1 hcs2 hv2 hcs3 hv3=>?_)
       obtain ⟨u10,u11,u12,u13,u14,rfl⟩:=len5 hcs1
       obtain ⟨u20,u21,u22,u23,rfl⟩:=len4 hcs2
       obtain ⟨u30,u31,u32,rfl⟩:=len3 hcs3
       obtain rfl:=Option.some.inj (hv1 0 _ rfl)
       obtain rfl:=Option.some.inj (hv1 1 _ rfl)
       obtain rfl:=Option.some.inj (hv1 2 _ rfl)
       obtain rfl:=Option.some.inj (hv1 3 _ rfl)
       obtain rfl:=Option.some.inj (hv1 4 _ rfl)
       obtain rfl:=Option.some.inj (hv2 0 _ rfl)
       obtain rfl:=Option.some.inj (hv2 1 _ rfl)
       obtain rfl:=Option.some.inj (hv2 2 _ rfl)
       obtain rfl:=Option.some.inj (hv2 3 _ rfl)
       refine hp_know 1 O mem0 ?_
       dsimp only [List.zipWith,know]
       refine hp_know 4 O mem1 ?_
       dsimp only [List.zipWith,know]
       refine hp_know 11 O mem2 ?_
       dsimp only [List.zipWith,know]
       refine hp_pani ZP (fun hPan=>?_)
       refine df_ (i:=0) O k_ k_ k_ b_ hPan (dl_ O O O b_) (df_ (i:=1) O k_ k_ k_ b_ hPan (dm_ 2 O O O mem0 O) (YI ?_))
       refine df_ (i:=5) O k_ k_ k_ b_ hPan (dm_ 1 O O O mem1 O) (df_ (i:=6) O k_ k_ k_ b_ hPan (dl_ O O O b_) ?_)
       refine df_ (i:=7) O k_ k_ k_ b_ hPan (hok_loadK 0 O O O mem2 O) (df_ (i:=8) O k_ k_ k_ b_ hPan (dk_ O) (df_ (i:=9) O k_ k_ k_ b_ hPan (hok_indexMapE O O g_ O O b_) (df_ (i:=10) O k_ k_ k_ b_ hPan (hok_fieldAddrP O O O b_ O b_) (df_ (i:=11) O k_ k_ k_ b_ hPan (hok_fieldAddrP O O O b_ O b_) (dg_ (i:=12) O k_ b_ (cb_ O O ⟨?_,?_⟩))))))
       refine keepK3 ?_ ?_ ?_
       exact keepAt 2 O O
       exact keepAt 1 O O
       exact keepAt 0 O O
       refine dg_ (i:=13) O k_ b_ (ow_mapGetOW (κ:=ByteArray) (vv:=fun q=>cond q va vb) (M:=AMof p t) (w:=false) (u:=vb) 8 O O hAM O hvb O O O ⟨?_,?_⟩)
       refine keepK3 ?_ ?_ ?_
       exact keepAt 2 O O
       exact keepAt 1 O O
       exact keepAt 0 O O
       refine dg_ (i:=14) O k_ b_ (bq_ O O b_ O O b_ ⟨?_,?_⟩)
       refine keepK3 ?_ ?_ ?_
       exact keepAt 2 O O
       exact keepAt 1 O O
       exact keepAt 0 O O
       refine dg_ (i:=15) O k_ b_ (ow_append1 3 (p.shared[0]) O O O O O O O (fun _=>O) (by show (_+1) * 24≤_;first | omega | (simp;done)) (by first | omega | (simp;done)) (fun v1 hv1=>⟨?_,?_⟩))
       refine keepK3 ?_ ?_ ?_
       exact keepAt 3 O O
       exact keepAt 2 O O
       exact keepAt 1 O O
       refine df_ (i:=16) O k_ k_ k_ b_ hPan (dl_ O O O b_) (hp_tail (dj_ (i:=17) O k_ (by decide) (ca_ 3 O O O O b_ (ht_done k_ ?_))))
       clear hPan
       refine jq_unk [u30,u31,u32] 2 O O ?_
       dsimp only [List.map,unk]
       ·refine Zj ?_
        refine jq_againS (i:=(0,v)) (1,v1) (by first | omega | (dsimp only; omega)) (by first | omega | (dsimp only; omega)) ?_ ?_
        ·dsimp only
         rw [one_take hltk]
         refine bc_ 2 O (bc_ 1 O (bc_ 2 O (bc_ 2 O (YB ?_))))
         exact bc_ 1 O (bc_ 1 O (bc_ 1 O (bc_ 0 O (bc_ 0 O sub_end))))
        ·exact Wv
      ·have hltk2:¬ (k:Int) < (((p.shared).map ShRow).length:Int):=by omega
       rw [show p.shared.take k=p.shared from List.take_of_length_le (by omega)]
       generalize v=vS at *
       refine am_ (R_ (M_ O (F_ O (L_ 11 O (Zh (fun hlen=>?_))))))
       refine al_ (am_ (jc_freezeO1 (l:=p.shared) hRn.s1 9 0 O (by rw [hc]; simp [hb]) ?_))
       refine jc_freezeO1 (l:=t.arrays) hRn.a1 8 2 O (by rw [hc]; simp [hb]) ?_
       rw [show t.arrays.map (fun _=>[C.list (J.ca.map Irow)])=(t.arrays.map (fun _=>J.ca)).map LRow by rw [List.map_map]; rfl,show p.shared.map (fun _=>[C.list (J.cb.map Irow)])=(p.shared.map (fun _=>J.cb)).map LRow by rw [List.map_map]; rfl]
       exact jc_freezeBi 0 1 1 O O O (by rw [hc]; simp [hb]) (jc_freezeBi 1 0 2 O O O (by rw [hc]; simp [hb]) (jc_freezeBi 1 0 0 O O O (by rw [hc]; simp [hb]) (jc_freezeBi 2 0 3 O O O (by rw [hc]; simp [hb]) (an_ (A_ 0 O (S_ 6 O (E_ O (T_ (ar_ (jq_retRowT O O O O O 0 O (fun K h=>by rw [← hres] at h; exact h) sub_end))))))))))
theorem rRun_c (p:Pg) (hp:PgOk p) (hr:ckF p=0→∀ t ∈ p.tasks,Rn p t) (task:Int) (ins:List Int) (ss:List (List Int)) :
 Con Tryz.prog 48 [.row p.row,In .i64 task,.cell (.list (ins.map Irow)),.cell (.list (ss.map LRow))] [] (fun K=>K (.tup [.row (OutRow (runF p task ins ss).1),In .i64 (runF p task ins ss).2]) []):=by
 have hC:=rProgram5_c p hp
 by_cases hne:ckF p≠0
 ·have hres:runF p task ins ss=(outZ,ckF p):=by unfold runF; rw [if_pos hne]
  refine con_intro Tryz.func48 O O b_ (fun c hc=>R_ (o_ O (ci_ O (fun bx=>Yz (fun bl=>?_)))))
  refine aq_ O u_ (R_ (o_ O (bu_ O O O O O (M_ O (S_ 0 O (E_ O (T_ (ar_ (aw_ (jq_row 0 (OutRow outZ) O ?_ ?_))))))))))
  ·(repeat (first | exact RowLe.nil | refine RowLe.cons (CLe.refl _) ?_ | refine RowLe.cons CLe.nil ?_))
  ·exact WV
 have h0:ckF p=0:=Classical.not_not.1 hne
 have eT:(p.tasks.map Tk.row).length=p.tasks.length:=List.length_map _
 by_cases ht:¬ (0≤task∧task < (p.tasks.length:Int))
 ·have hres:runF p task ins ss=(outZ,8):=by unfold runF; rw [if_neg hne,if_neg ht]
  by_cases ht0:task < 0
  ·refine con_intro Tryz.func48 O O b_ (fun c hc=>R_ (o_ O (ci_ O (fun bx=>Yz (fun bl=>?_)))))
   refine ap_ O w_ (as_ (al_ (am_ (R_ (M_ O (o_ O (bw_ O O (M_ O (Yg ?_)))))))))
   refine ai_ O u_ b_ (ai_ O u_ b_ (o_ O (bp_ O u_ O (T_ (aq_ O O ?_)))))
   refine R_ (o_ O (bu_ O O O O O (S_ 0 O (E_ O (T_ (ar_ (aw_ (jq_row 0 (OutRow outZ) O ?_ ?_))))))))
   ·(repeat (first | exact RowLe.nil | refine RowLe.cons (CLe.refl _) ?_ | refine RowLe.cons CLe.nil ?_))
   ·exact WV
  ·have ht1:task ≥ ((p.tasks.map Tk.row).length:Int):=by omega
   refine con_intro Tryz.func48 O O b_ (fun c hc=>R_ (o_ O (ci_ O (fun bx=>Yz (fun bl=>?_)))))
   refine ap_ O w_ (as_ (al_ (am_ (R_ (M_ O (o_ O (YR ?_)))))))
   refine bf_ O O O b_ (ah_ O w_ b_ (bg_ 1 O O O O (ah_ O w_ b_ (br_ O (fun hlen=>ah_ O w_ b_ (cn_ O O (o_ O (bv_ O w_ O (T_ (aq_ O u_ ?_))))))))))
   refine R_ (o_ O (bu_ O O O O O (S_ 0 O (E_ O (T_ (ar_ (aw_ (jq_row 0 (OutRow outZ) O ?_ ?_))))))))
   ·(repeat (first | exact RowLe.nil | refine RowLe.cons (CLe.refl _) ?_ | refine RowLe.cons CLe.nil ?_))
   ·exact WV
 have ht:=Classical.not_not.1 ht
 obtain ⟨n,rfl⟩:∃ n:Nat,task=(n:Int):=⟨task.toNat,by omega⟩
 have hn:n < p.tasks.length:=by omega
 have hn1:¬ (n:Int) < 0:=by omega
 have hn2:¬ (n:Int) ≥ ((p.tasks.map Tk.row).length:Int):=by omega
 have hRn:=hr h0 p.tasks[n] (List.getElem_mem hn)
 have htz:=hp.sz.tasks p.tasks[n] (List.getElem_mem hn)
 have hF:runF p (n:Int) ins ss=if fitB (p.tasks[n]).inputs ins=false then (outZ,9) else if filB p.shared ss=false then (outZ,10) else (runO p p.tasks[n] ins ss,0):=by
  unfold runF
  rw [if_neg hne,if_pos ht,show ((n:Int)).toNat=n by omega,List.getD_eq_getElem?_getD,List.getElem?_eq_getElem hn]
  rfl
 have hI:=rInputs6_c (p.tasks[n]).inputs ins
 have hS:=rShared6_c p ss
 cases hf:fitB (p.tasks[n]).inputs ins with
 | false =>
  rw [hf] at hI
  have hres:runF p (n:Int) ins ss=(outZ,9):=by rw [hF,if_pos hf]
  refine con_intro Tryz.func48 O O b_ (fun c hc=>R_ (o_ O (ci_ O (fun bx=>Yz (fun bl=>?_)))))
  refine ap_ O w_ (as_ (al_ (am_ (R_ (M_ O (o_ O (YR ?_)))))))
  refine bf_ O O O b_ (ah_ O w_ b_ (bg_ 1 O O O O (ah_ O w_ b_ (br_ O (fun hlen=>ah_ O w_ b_ (cn_ O O (o_ O (bv_ O O O (T_ (ap_ O w_ ?_))))))))))
  refine as_ (al_ (R_ (F_ O (L_ 1 O (M_ O (Zm (fun bl=>?_)))))))
  refine am_ (YY ?_)
  refine o_ O (bm_ O (hI) (o_ O (cd_ O (T_ (aq_ O O (R_ (o_ O (bu_ O O O O O (S_ 1 O (E_ O (T_ (ar_ (aw_ (jq_row 0 (OutRow outZ) O ?_ ?_))))))))))))))
  ·(repeat (first | exact RowLe.nil | refine RowLe.cons (CLe.refl _) ?_ | refine RowLe.cons CLe.nil ?_))
  ·exact WV
 | true =>
  rw [hf] at hI
  cases hfl:filB p.shared ss with
  | false =>
   rw [hfl] at hS
   have hres:runF p (n:Int) ins ss=(outZ,10):=by rw [hF,if_neg (by rw [hf]; decide),if_pos hfl]
   refine con_intro Tryz.func48 O O b_ (fun c hc=>R_ (o_ O (ci_ O (fun bx=>Yz (fun bl=>?_)))))
   refine ap_ O w_ (as_ (al_ (am_ (R_ (M_ O (o_ O (YR ?_)))))))
   refine bf_ O O O b_ (ah_ O w_ b_ (bg_ 1 O O O O (ah_ O w_ b_ (br_ O (fun hlen=>ah_ O w_ b_ (cn_ O O (o_ O (bv_ O O O (T_ (ap_ O w_ ?_))))))))))
   refine as_ (al_ (R_ (F_ O (L_ 1 O (M_ O (Zm (fun bl=>?_)))))))
   refine am_ (YY ?_)
   refine o_ O (bm_ O (hI) (o_ O (cd_ O (Wj ?_))))
   refine R_ (A_ 2 O (M_ O (o_ O (bm_ O (hS) (o_ O (cd_ O (T_ (aq_ O O (R_ (o_ O (bu_ O O O O O ?_)))))))))))
   refine S_ 1 O (E_ O (T_ (ar_ (aw_ (jq_row 0 (OutRow outZ) O ?_ ?_)))))
   ·(repeat (first | exact RowLe.nil | refine RowLe.cons (CLe.refl _) ?_ | refine RowLe.cons CLe.nil ?_))
   ·exact WV
  | true =>
   rw [hfl] at hS
   have hres:runF p (n:Int) ins ss=(runO p p.tasks[n] ins ss,0):=by rw [hF,if_neg (by rw [hf]; decide),if_neg (by rw [hfl]; decide)]
   rw [hres]
   exact rRunOk_c p hp h0 n hn hRn ins ss hf hfl
end Go.Proofs.YtalkkcfojplmdaaGreatDoor
end
section
namespace Go.Proofs.YtalkkcfojplmdaaGreatDoor
open Go.Vc
attribute [local irreducible] JL JC JQ OpWp Con ConN HOk
attribute [local irreducible] StG BlG runO ckF runF findF
set_option maxHeartbeats 4000000
def aw5:List Sm:=[.mk 4 E0 [] [.nm Ni] 10 3 [.mk 1 Ni [] [.bn 1 (.nm Ni) (.nu 1)] 0 0 [] []] []]
theorem aw5_w:wAll 20 aw5 0=79:=by
 show wAll 20 [.mk 4 E0 [] [.nm Ni] 10 3 [.mk 1 Ni [] [.bn 1 (.nm Ni) (.nu 1)] 0 0 [] []] []] 0=79
 simp [wAll,wOne,wPartsL,wParts,wP,T.args,Sm.kind,Sm.index,Sm.value,Sm.thn,Sm.max,lim]
 decide
theorem aw5_l:LB aw5=[3]:=by decide +kernel
theorem awake5_c:Con Tryz.prog 13 [] [] (fun K=>K (Bl true) []):=by
 have hW:=cWeight_c aw5
 have hL:=cLabels_c aw5 (by decide)
 rw [aw5_w] at hW
 rw [aw5_l] at hL
 have hS:=SameIX_c [3]
 refine con_intro Tryz.func13 O O b_ (fun c hc=>R_ (E_ O (T_ (R_ (o_ O (bm_ O (gName_c _) (Yn (fun bl=>?_))))))))
 refine am_ (jc_anyB 10 none O k_ k_ (aa_ (fun c=>bs_ 0 O O O O p_) (aa_ (fun c=>bq_ O O b_ O O b_ p_) (aa_ (fun c=>bs_ 0 O O O O p_) (aa_ (fun c=>bm_ O (gNum_c _) p_) (aa_ (fun c=>bm_ O (gBin_c _ _ _) p_) ?_))))))
 refine aa_ (fun c=>bq_ O O b_ O O b_ p_) (aa_ (fun c=>bu_ O O O O O p_) (aa_ (fun c=>bq_ O O b_ O O b_ p_) (aa_ (fun c=>bu_ O O O O O p_) (Z7 ?_))))
 refine E_ O (T_ (am_ (jc_sle 2 O (s':=.cell (.list (aw5.map Sm.row))) (SLe.cell (CLe.list (.cons ?_ .nil))) ?_)))
 ·(repeat (first | exact RowLe.nil | exact RowsLe.nil | exact CLe.nil | exact CLe.refl _ | refine RowLe.cons ?_ ?_ | refine RowsLe.cons ?_ ?_ | refine CLe.list ?_))
 refine an_ (M_ O (o_ O (bm_ O (hW) (o_ O (bn_ O O (M_ O (Zs ?_)))))))
 refine bm_ O (hL) (ah_ O O b_ (bq_ O O b_ O O b_ (ah_ O O b_ (bm_ O (hS) (o_ O (bp_ O x_ O (E_ O (T_ (ar_ (jq_ret1 O O [] O (fun K h=>h)))))))))))
theorem gRun_c (p:Pg) (hok:PgOk p) (hrn:ckF p=0→∀ t ∈ p.tasks,Rn p t) (task:Int) (ins:List Int) (ss:List (List Int)):Con Tryz.prog 19 [.row p.row,In .i64 task,.cell (.list (ins.map Irow)),.cell (.list (ss.map LRow))] [] (fun K=>K (.tup [.row (OutRow (runF p task ins ss).1),In .i64 (runF p task ins ss).2]) []):=by
 have h1:=rRun_c p hok hrn task ins ss
 generalize runF p task ins ss=R at h1 ⊢
 refine con_intro Tryz.func19 O O b_ (fun c hc=>R_ (o_ O (ci_ O (fun bx=>o_ O (bl_ O O (fun bl=>E_ O (T_ (R_ (A_ 1 O (M_ O (M_ O (M_ O (o_ O (bm_ O (h1) (X_ O (X_ O (S_ 0 O (E_ O ?_))))))))))))))))))
 exact T_ (ar_ (jq_retRowT O O O O O 0 O (fun K h=>h) sub_end))
end Go.Proofs.YtalkkcfojplmdaaGreatDoor
end
section
namespace Go.Proofs.YtalkkcfojplmdaaGreatDoor
open Go.Vc
attribute [local irreducible] JL JC JQ OpWp Con ConN HOk
set_option maxHeartbeats 4000000
abbrev MpS:S:=.cell (.map (mapE Value.string mpN))
theorem reN_E:reN E0=E0:=fx_E.2
theorem tren_row (t:T):(t.ren reN).row=[.val (.int .i64 t.kind),.val (.int .i64 t.num),.val (.string (reN t.name)),.val (.int .i64 t.op),.list ((t.args.map (T.ren reN)).map T.row)]:=by
 rw [T.row_eq]
 cases t <;> simp [T.ren,T.kind,T.num,T.name,T.op,T.args,reN_E]
theorem sren_row (s:Sm):(s.ren reN).row=[.val (.int .i64 s.kind),.val (.string (reN s.name)),.list ((s.index.map (T.ren reN)).map T.row),.list ((s.value.map (T.ren reN)).map T.row),.val (.int .i64 s.max),.val (.int .i64 s.label),.list ((Sm.rens reN s.thn).map Sm.row),.list ((Sm.rens reN s.els).map Sm.row)]:=by
 rw [Sm.row_eq]
 cases s
 simp [Sm.ren,Sm.kind,Sm.name,Sm.index,Sm.value,Sm.max,Sm.label,Sm.thn,Sm.els]
theorem lexprs_step (l:List T) (hl:l.length≤1000) (ih:∀ u ∈ l,Con Tryz.prog 45 [.cell (.list (u.args.map T.row)),MpS] [] (fun K=>K (.cell (.list ((u.args.map (T.ren reN)).map T.row))) [])):Con Tryz.prog 45 [.cell (.list (l.map T.row)),MpS] [] (fun K=>K (.cell (.list ((l.map (T.ren reN)).map T.row))) []):=by
 refine con_intro Tryz.func45 O O b_ (fun c hc=>R_ (E_ O (T_ (ZK ?_))))
 refine jc_ownNil 69 5 g_ ?_
 refine jc_loopS (ι:=Nat × Value × List T) [] (fun i=>i.1≤l.length∧i.2.2=(l.take i.1).map (T.ren reN)) (fun i=>(6,In .i64 (i.1:Int)) :: (5,.cell (.val i.2.1)) :: [(0,.cell (.list (l.map T.row))),(1,MpS)]) (fun i=>[.own i.2.1 69 5 (i.2.2.map T.row)]) (fun i=>l.length - i.1) (0,.slice none 0 0,[]) ⟨Nat.zero_le _,rfl⟩ ?_ ?_ ?_
 ·exact Wx
 ·exact Wv
 rintro ⟨k,v,R⟩ hz
 dsimp only at hz ⊢
 obtain ⟨hk,hR⟩:=hz
 have eL:(l.map T.row).length=l.length:=List.length_map _
 by_cases hlt:k < l.length
 ·have hlt2:(k:Int) < ((l.map T.row).length:Int):=by omega
  have hRl:(R.map T.row).length=k:=by rw [hR]; simp; omega
  have hR2:R.map T.row ++ [[.val (.int .i64 l[k].kind),.val (.int .i64 l[k].num),.val (.string (reN l[k].name)),.val (.int .i64 l[k].op),.list ((l[k].args.map (T.ren reN)).map T.row)]]=(R ++ [T.ren reN l[k]]).map T.row:=by
   rw [List.map_append,List.map_cons,List.map_nil,tren_row]
  have hR3:R ++ [T.ren reN l[k]]=(l.take (k+1)).map (T.ren reN):=by
   rw [hR,List.take_succ_eq_append_getElem hlt,List.map_append,List.map_cons,List.map_nil]
  have hI:=ih l[k] (List.getElem_mem hlt)
  by_cases hn:(aget mpN l[k].name).getD ⟨#[]⟩=⟨#[]⟩
  ·have hn2:¬ ¬ (aget mpN l[k].name).getD ⟨#[]⟩=⟨#[]⟩:=fun h=>h hn
   have hr:reN l[k].name=l[k].name:=if_pos hn
   rw [hr] at hR2
   refine YG ?_
   refine Zb (fun hlen=>?_)
   refine R_ (M_ O (M_ O (Zy ?_)))
   refine Yn (fun bl=>?_)
   refine ZA ?_
   refine o_ O (ow_mapGetS (M:=mpN) (k:=l[k].name) O O O O (YU ?_))
   refine ct_ O O (T_ (ap_ O w_ ?_))
   refine as_ (al_ (YY ?_))
   refine o_ O (bm_ O (hI) (F_ O (W_ 0 O (T_ (an_ (M_ O (A_ 0 O (YF ?_))))))))
   refine o_ O (ow_append (rows:=R.map T.row) (rows2:=[[.val (.int .i64 l[k].kind),.val (.int .i64 l[k].num),.val (.string (l[k].name)),.val (.int .i64 l[k].op),.list ((l[k].args.map (T.ren reN)).map T.row)]]) 1 O O O O O O O (fun row h=>by rw [List.mem_singleton.1 h]; rfl) (by show (_+1) * 64≤_; omega) (by show _+1≤_; omega) (fun v1 hv1=>?_))
   rw [hR2]
   refine E_ O (ak_ (Zj ?_))
   refine jq_againS (i:=(k,v,R)) (k+1,v1,R ++ [T.ren reN l[k]]) ⟨hlt,hR3⟩ (by dsimp only; omega) ?_ ?_
   ·exact Wx
   ·exact Wv
  ·have hr:reN l[k].name=(aget mpN l[k].name).getD ⟨#[]⟩:=if_neg hn
   rw [hr] at hR2
   refine YG ?_
   refine Zb (fun hlen=>?_)
   refine R_ (M_ O (M_ O (Zy ?_)))
   refine Yn (fun bl=>?_)
   refine ZA ?_
   refine o_ O (ow_mapGetS (M:=mpN) (k:=l[k].name) O O O O (YU ?_))
   refine ct_ O O (T_ (aq_ O u_ ?_))
   refine an_ (M_ O (F_ O (W_ 0 O (T_ (YY ?_)))))
   refine o_ O (bm_ O (hI) (F_ O (W_ 0 O (T_ (an_ (M_ O (A_ 0 O ?_)))))))
   refine YF ?_
   refine o_ O (ow_append (rows:=R.map T.row) (rows2:=[[.val (.int .i64 l[k].kind),.val (.int .i64 l[k].num),.val (.string ((aget mpN l[k].name).getD ⟨#[]⟩)),.val (.int .i64 l[k].op),.list ((l[k].args.map (T.ren reN)).map T.row)]]) 1 O O O O O O O (fun row h=>by rw [List.mem_singleton.1 h]; rfl) (by show (_+1) * 64≤_; omega) (by show _+1≤_; omega) (fun v1 hv1=>?_))
   rw [hR2]
   refine E_ O (ak_ (Zj ?_))
   refine jq_againS (i:=(k,v,R)) (k+1,v1,R ++ [T.ren reN l[k]]) ⟨hlt,hR3⟩ (by dsimp only; omega) ?_ ?_
   ·exact Wx
   ·exact Wv
 ·have hlt2:¬ (k:Int) < ((l.map T.row).length:Int):=by omega
  rw [List.take_of_length_le (by omega)] at hR
  subst hR
  refine YG ?_
  refine Zh (fun hlen=>?_)
  refine al_ (R_ (M_ O (E_ O ?_)))
  refine T_ (ar_ (jq_freeze 4 0 O O (by rw [hc]; simp [hb]) (jq_ret1 O O [] O (fun K h=>h))))
theorem lexprs_args (t:T):Con Tryz.prog 45 [.cell (.list (t.args.map T.row)),MpS] [] (fun K=>K (.cell (.list ((t.args.map (T.ren reN)).map T.row))) []):=by
 revert t
 refine T.ind (fun t ih=>lexprs_step t.args ?_ ih)
 cases t <;> simp [T.args]
theorem lexprs_c (l:List T) (hl:l.length≤1000):Con Tryz.prog 45 [.cell (.list (l.map T.row)),MpS] [] (fun K=>K (.cell (.list ((l.map (T.ren reN)).map T.row))) []):=lexprs_step l hl (fun u _=>lexprs_args u)
theorem szs_len:∀ l:List Sm,l.length≤Sm.szs l
 | []=>Nat.zero_le _
 | s :: l=>by
  have:=szs_len l
  have:=Sm.sz_eq s
  rw [Sm.szs,List.length_cons]
  omega
theorem renamed_c:∀ l:List Sm,Sm.lnss l→Sm.szs l≤1000000→Con Tryz.prog 16 [.cell (.list (l.map Sm.row)),MpS] [] (fun K=>K (.cell (.list ((Sm.rens reN l).map Sm.row))) []):=by
 refine Sms.ind (fun l ih hl hs=>?_)
 have hll:=szs_len l
 refine con_intro Tryz.func16 O O b_ (fun c hc=>R_ (E_ O (T_ (ZK ?_))))
 refine jc_ownNil 66 8 g_ ?_
 refine jc_loopS (ι:=Nat × Value × List Sm) [] (fun i=>i.1≤l.length∧i.2.2=(l.take i.1).map (Sm.ren reN)) (fun i=>(6,In .i64 (i.1:Int)) :: (5,.cell (.val i.2.1)) :: [(0,.cell (.list (l.map Sm.row))),(1,MpS)]) (fun i=>[.own i.2.1 66 8 (i.2.2.map Sm.row)]) (fun i=>l.length - i.1) (0,.slice none 0 0,[]) ⟨Nat.zero_le _,rfl⟩ ?_ ?_ ?_
 ·exact Wx
 ·exact Wv
 rintro ⟨k,v,R⟩ hz
 dsimp only at hz ⊢
 obtain ⟨hk,hR⟩:=hz
 have eL:(l.map Sm.row).length=l.length:=List.length_map _
 by_cases hlt:k < l.length
 ·have hlt2:(k:Int) < ((l.map Sm.row).length:Int):=by omega
  have hRl:(R.map Sm.row).length=k:=by rw [hR]; simp; omega
  have hR2:R.map Sm.row ++ [[.val (.int .i64 l[k].kind),.val (.string (reN l[k].name)),.list ((l[k].index.map (T.ren reN)).map T.row),.list ((l[k].value.map (T.ren reN)).map T.row),.val (.int .i64 l[k].max),.val (.int .i64 l[k].label),.list ((Sm.rens reN l[k].thn).map Sm.row),.list ((Sm.rens reN l[k].els).map Sm.row)]]=(R ++ [Sm.ren reN l[k]]).map Sm.row:=by
   rw [List.map_append,List.map_cons,List.map_nil,sren_row]
  have hR3:R ++ [Sm.ren reN l[k]]=(l.take (k+1)).map (Sm.ren reN):=by
   rw [hR,List.take_succ_eq_append_getElem hlt,List.map_append,List.map_cons,List.map_nil]
  obtain ⟨i1,i2⟩:=ih l[k] (List.getElem_mem hlt)
  obtain ⟨z1,z2,z3,z4⟩:=Sm.lnss_mem hl l[k] (List.getElem_mem hlt)
  have z5:=sz_mem (List.getElem_mem hlt)
  have z6:=Sm.sz_eq l[k]
  have c1:=i1 z3 (by omega)
  have c2:=i2 z4 (by omega)
  have c3:=lexprs_c l[k].index z1
  have c4:=lexprs_c l[k].value z2
  clear z1 z2 z3 z4 i1 i2 hl ih
  by_cases hn:(aget mpN l[k].name).getD ⟨#[]⟩=⟨#[]⟩
  ·have hn2:¬ ¬ (aget mpN l[k].name).getD ⟨#[]⟩=⟨#[]⟩:=fun h=>h hn
   have hr:reN l[k].name=l[k].name:=if_pos hn
   rw [hr] at hR2
   refine YG ?_
   refine Zb (fun hlen=>?_)
   refine R_ (M_ O (M_ O (Zq ?_)))
   refine Yn (fun bl=>?_)
   refine ZA ?_
   refine o_ O (ow_mapGetS (M:=mpN) (k:=l[k].name) O O O O (YU ?_))
   refine ct_ O O (T_ (ap_ O w_ ?_))
   refine as_ (al_ (am_ (jc_anyB 9 none O k_ k_ (yF_ O (yL_ 0 O (yM_ O (aa_ (fun c=>bm_ O (c3) p_) (yF_ O (yL_ 0 O (yM_ O (aa_ (fun c=>bm_ O (c4) p_) (yF_ O (ae_ (afin_none (W_ 0 O ?_)))))))))))))))
   refine F_ O (W_ 0 O (T_ (am_ (jc_anyB 9 none O k_ k_ (yF_ O (yL_ 0 O (yM_ O (aa_ (fun c=>bm_ O (c1) p_) (yF_ O (yL_ 0 O (yM_ O (aa_ (fun c=>bm_ O (c2) p_) (yF_ O (ae_ (afin_none ?_)))))))))))))))
   refine W_ 0 O (F_ O (W_ 0 O (T_ (an_ (M_ O (A_ 0 O (YF ?_)))))))
   refine o_ O (ow_append (rows:=R.map Sm.row) (rows2:=[[.val (.int .i64 l[k].kind),.val (.string (l[k].name)),.list ((l[k].index.map (T.ren reN)).map T.row),.list ((l[k].value.map (T.ren reN)).map T.row),.val (.int .i64 l[k].max),.val (.int .i64 l[k].label),.list ((Sm.rens reN l[k].thn).map Sm.row),.list ((Sm.rens reN l[k].els).map Sm.row)]]) 1 O O O O O O O (fun row h=>by rw [List.mem_singleton.1 h]; rfl) (by show (_+1) * 136≤_; omega) (by show _+1≤_; omega) (fun v1 hv1=>?_))
   rw [hR2]
   refine E_ O (ak_ (Zj ?_))
   refine jq_againS (i:=(k,v,R)) (k+1,v1,R ++ [Sm.ren reN l[k]]) ⟨hlt,hR3⟩ (by dsimp only; omega) ?_ ?_
   ·exact Wx
   ·exact Wv
  ·have hr:reN l[k].name=(aget mpN l[k].name).getD ⟨#[]⟩:=if_neg hn
   rw [hr] at hR2
   refine YG ?_
   refine Zb (fun hlen=>?_)
   refine R_ (M_ O (M_ O (Zq ?_)))
   refine Yn (fun bl=>?_)
   refine ZA ?_
   refine o_ O (ow_mapGetS (M:=mpN) (k:=l[k].name) O O O O (YU ?_))
   refine ct_ O O (T_ (aq_ O u_ ?_))
   refine an_ (M_ O (F_ O (W_ 0 O (T_ (am_ (jc_anyB 9 none O k_ k_ (yF_ O (yL_ 0 O (yM_ O (aa_ (fun c=>bm_ O (c3) p_) (yF_ O (yL_ 0 O (yM_ O (aa_ (fun c=>bm_ O (c4) p_) (yF_ O ?_)))))))))))))))
   refine ae_ (afin_none (W_ 0 O (F_ O (W_ 0 O (T_ (am_ (jc_anyB 9 none O k_ k_ (yF_ O (yL_ 0 O (yM_ O (aa_ (fun c=>bm_ O (c1) p_) (yF_ O (yL_ 0 O (yM_ O (aa_ (fun c=>bm_ O (c2) p_) ?_)))))))))))))))
   refine yF_ O (ae_ (afin_none (W_ 0 O (F_ O (W_ 0 O (T_ (an_ (M_ O (A_ 0 O (YF ?_))))))))))
   refine o_ O (ow_append (rows:=R.map Sm.row) (rows2:=[[.val (.int .i64 l[k].kind),.val (.string ((aget mpN l[k].name).getD ⟨#[]⟩)),.list ((l[k].index.map (T.ren reN)).map T.row),.list ((l[k].value.map (T.ren reN)).map T.row),.val (.int .i64 l[k].max),.val (.int .i64 l[k].label),.list ((Sm.rens reN l[k].thn).map Sm.row),.list ((Sm.rens reN l[k].els).map Sm.row)]]) 1 O O O O O O O (fun row h=>by rw [List.mem_singleton.1 h]; rfl) (by show (_+1) * 136≤_; omega) (by show _+1≤_; omega) (fun v1 hv1=>?_))
   rw [hR2]
   refine E_ O (ak_ (Zj ?_))
   refine jq_againS (i:=(k,v,R)) (k+1,v1,R ++ [Sm.ren reN l[k]]) ⟨hlt,hR3⟩ (by dsimp only; omega) ?_ ?_
   ·exact Wx
   ·exact Wv
 ·have hlt2:¬ (k:Int) < ((l.map Sm.row).length:Int):=by omega
  rw [List.take_of_length_le (by omega)] at hR
  subst hR
  refine YG ?_
  refine Zh (fun hlen=>?_)
  refine al_ (R_ (M_ O (E_ O ?_)))
  refine T_ (ar_ (jq_freeze 4 0 O O (by rw [hc]; simp [hb]) (jq_ret1 O O [] O (fun K h=>by rw [rens_map] at h; exact h))))
end Go.Proofs.YtalkkcfojplmdaaGreatDoor
end