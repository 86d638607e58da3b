import Derived.Test.YtalkkcfojplmdaaGreatDoorMy5
section
namespace Go.Proofs.YtalkkcfojplmdaaGreatDoor
open Go.Vc
attribute [local irreducible] JL JC JQ OpWp Con ConN HOk
attribute [local irreducible] byteAt runLen isL isD isName hasW
set_option maxHeartbeats 4000000
def lbSelf (w:Int→Bool) (s:Sm):List Int:=if w s.kind=true then [s.label] else []
def lbF (w:Int→Bool):Nat→Sm→List Int
 | 0,_=>[]
 | f+1,s=>lbSelf w s ++ s.thn.flatMap (lbF w f) ++ s.els.flatMap (lbF w f)
theorem lb_zero (w:Int→Bool) (l:List Sm):l.flatMap (lbF w 0)=[]:=by
 induction l with
 | nil=>rfl
 | cons s l ih=>simp [lbF]
theorem lb_rl:∀ (f:Nat) (s:Sm),rlOne f s=lbF isIf f s
 | 0,_=>rfl
 | f+1,s=>by
  have h:∀ l:List Sm,l.flatMap (rlOne f)=l.flatMap (lbF isIf f):=fun l=>by
   induction l with
   | nil=>rfl
   | cons u l ih=>rw [List.flatMap_cons,List.flatMap_cons,ih,lb_rl f u]
  rw [rlOne,lbF,h,h]
  unfold rlSelf lbSelf isIf
  by_cases hk:s.kind=3 <;> simp [hk]
theorem lbF_le (w:Int→Bool):∀ (f:Nat) (s:Sm),(lbF w f s).length≤s.sz
 | 0,s=>by simp [lbF]
 | f+1,s=>by
  have h1:=flat_szs (lbF_le w f) s.thn
  have h2:=flat_szs (lbF_le w f) s.els
  have h3:(lbSelf w s).length≤1:=by unfold lbSelf; split <;> simp
  rw [lbF,Sm.sz_eq,List.length_append,List.length_append]
  omega
theorem lb_lbs (w:Int→Bool):∀ (n f:Nat) (l:List Sm),dpF n l=false→n≤f→l.flatMap (lbF w f)=Sm.lbss w l
 | 0,f,l,h,_=>by
  cases l with
  | nil=>rfl
  | cons s l=>cases h
 | n+1,0,l,_,h=>by omega
 | n+1,f+1,l,h,hf=>by
  rw [Sm.lbss_flat]
  have h':∀ s ∈ l,dpS (dpF n) s=false:=fun s hs=>by simpa using List.any_eq_false.1 h s hs
  clear h
  induction l with
  | nil=>rfl
  | cons s l ih =>
   rw [List.flatMap_cons,List.flatMap_cons,ih (fun t ht=>h' t (List.mem_cons_of_mem _ ht))]
   have hs:=h' s (List.mem_cons_self ..)
   unfold dpS at hs
   simp only [Bool.or_eq_false_iff] at hs
   rw [lbF,lb_lbs w n f _ hs.1.1.1 (by omega),lb_lbs w n f _ hs.1.1.2 (by omega)]
   cases s
   rfl
def LB (l:List Sm):List Int:=l.flatMap (lbF isIW 20)
theorem LB_le (l:List Sm):(LB l).length≤Sm.szs l:=flat_szs (lbF_le isIW 20) l
theorem rlabelsB_c:∀ (f:Nat) (l:List Sm) (depth:Int),0≤depth→depth+f=21→(l.flatMap (lbF isIW f)).length≤1000000 →
 Con Tryz.prog 74 [.cell (.list (l.map Sm.row)),In .i64 depth,In .i64 0] [] (fun K=>K (.cell (.list ((l.flatMap (lbF isIW f)).map Irow))) []):=by
 intro f
 induction f with
 | zero =>
  intro l depth h0 h1 hlim
  refine con_intro Tryz.func74 O O b_ (fun c hc=>R_ (E_ O (T_ (ZO ?_))))
  refine jc_loop [0,1,2,6,7] (fun _:Nat=>True) (fun _=>[(8,In .i64 0)]) (fun _=>[]) (fun _=>0) 0 [] trivial O ?_ ?_
  ·exact Ww
  ·intro k _
   refine am_ (am_ (jc_cut (ι:=Unit) [6,7] (fun _=>True) (fun _=>[(17,Bl false)]) (fun _=>[]) ?_ ?_))
   ·by_cases hl:(0:Int) < ((l.map Sm.row).length:Int)
    ·refine an_ (M_ O (M_ O (o_ O (br_ O (fun hlen=>o_ O (bw_ O O (M_ O (Yq ?_))))))))
     refine cu_ O O (o_ O (bp_ O u_ O (ak_ (jq_cut () [] trivial O ?_))))
     rw [show decide (depth≤20)=false from decide_eq_false (by omega)]
     exact Ww
    ·refine an_ (M_ O (M_ O (o_ O (br_ O (fun hlen=>o_ O (bw_ O O (M_ O (ai_ O w_ b_ (YA ?_)))))))))
     refine ak_ (jq_cut () [] trivial O ?_)
     exact Ww
   ·intro _ _
    skip
    refine jc_cond rfl (fun h=>by cases h) (fun _=>Yp ?_)
    refine ar_ ?_
    rw [lb_zero]
    refine jq_sle 6 O (SLe.cell CLe.nil) (jq_ret1 O O [] O (fun K h=>h))
 | succ f ih =>
  intro l depth h0 h1 hlim
  refine con_intro Tryz.func74 O O b_ (fun c hc=>R_ (E_ O (T_ (ZO ?_))))
  refine jc_ownNil 3 1 g_ ?_
  refine jc_loop (ι:=Nat × Value) [0,1,2] (fun i=>i.1≤l.length) (fun i=>[(7,.cell (.val i.2)),(8,In .i64 (i.1:Int))]) (fun i=>[.own i.2 3 1 (((l.take i.1).flatMap (lbF isIW (f+1))).map Irow)]) (fun i=>l.length - i.1) (0,.slice none 0 0) [0] (Nat.zero_le _) O ?_ ?_
  ·exact Ww
  ·rintro ⟨k,v⟩ hk
   dsimp only at hk ⊢
   by_cases hlt:(k:Int) < ((l.map Sm.row).length:Int)
   ·refine Yr (fun hlen=>?_)
    refine M_ O (Yq ?_)
    refine cu_ O O (o_ O (bp_ O u_ O (T_ (jc_condd O (fun _=>?_) (fun h=>absurd (show depth≤20 by omega) h)))))
    have hmax:l.length≤9223372036854775807:=by simpa using hlen
    simp only [List.length_map,Int.ofNat_lt] at hlt
    have hle:=flat_le (f:=lbF isIW (f+1)) hlt
    have e2:lbF isIW (f+1) l[k]=lbSelf isIW l[k] ++ l[k].thn.flatMap (lbF isIW f) ++ l[k].els.flatMap (lbF isIW f):=rfl
    have hl2:=congrArg List.length e2
    simp only [List.length_append] at hl2
    refine as_ (al_ (B_ (R_ (M_ O (M_ O (Zq ?_))))))
    refine Yt (fun bl=>?_)
    refine am_ (am_ (jc_cut (ι:=Unit) [0,1,2,7,8,9] (fun _=>True) (fun _=>[(41,Bl (isIW l[k].kind))]) (fun _=>[.own v 3 1 (((l.take k).flatMap (lbF isIW (f+1))).map Irow),.blk bl 66 l[k].row']) ?_ ?_))
    ·by_cases h3:l[k].kind=3
     ·rw [show isIW l[k].kind=true by unfold isIW; rw [decide_eq_true h3]; rfl]
      refine an_ (YT ?_)
      refine Yg ?_
      refine o_ O (bp_ O u_ O (M_ O (Zs ?_)))
      refine Yf ?_
      refine ai_ O O b_ (ai_ O O b_ (ai_ O O b_ ?_))
      refine ai_ O O b_ (ah_ O O b_ (bp_ O x_ O (o_ O (bp_ O O O (ak_ (jq_cut () [1,0] trivial O ?_))))))
      exact Ww
     ·by_cases h4:l[k].kind=4
      ·rw [show isIW l[k].kind=true by unfold isIW; rw [decide_eq_true h4,Bool.or_true]]
       refine an_ (F_ O (L_ 0 O (o_ O (bn_ O O (ZJ ?_)))))
       refine ah_ O w_ b_ (bn_ O O (o_ O (bv_ O w_ O (M_ O (Yq ?_)))))
       refine bn_ O O (ah_ O u_ b_ (bd_ O (ai_ O O b_ (ai_ O O b_ (ai_ O O b_ ?_)))))
       refine ai_ O O b_ (ah_ O u_ b_ (bp_ O x_ O (o_ O (bp_ O u_ O (ak_ (jq_cut () [1,0] trivial O ?_))))))
       exact Ww
      ·rw [show isIW l[k].kind=false by unfold isIW; rw [decide_eq_false h3,decide_eq_false h4]; rfl]
       refine an_ (F_ O (L_ 0 O (o_ O (bn_ O O (ZJ ?_)))))
       refine ah_ O w_ b_ (bn_ O O (o_ O (bv_ O w_ O (M_ O (ai_ O w_ b_ (ai_ O w_ b_ (ai_ O w_ b_ (Wd ?_))))))))
       refine aj_ O b_ (YA ?_)
       refine ak_ (jq_cut () [1,0] trivial O ?_)
       exact Ww
    intro _ _
    refine jc_cut (ι:=Value) [0,1,2,8,9] (fun _=>True) (fun v=>[(7,.cell (.val v))]) (fun v=>[.own v 3 1 (((l.take k).flatMap (lbF isIW (f+1)) ++ lbSelf isIW l[k]).map Irow),.blk bl 66 l[k].row']) ?_ ?_
    ·have hself:(lbSelf isIW l[k]).length≤(lbF isIW (f+1) l[k]).length:=by rw [e2]; simp only [List.length_append]; omega
     refine jc_cond O (fun hw=>?_) (fun hw=>?_)
     ·have e1:lbSelf isIW l[k]=[l[k].label]:=by simp [lbSelf,hw]
      rw [e1] at hself ⊢
      simp only [List.length_cons,List.length_nil] at hself
      refine an_ (M_ O (F_ O (L_ 1 O (YK ?_))))
      refine ow_append1 0 (l[k].label) O O O O O O O (fun _=>O) (by show (_+_) * 8≤_; first | omega | (simp only [List.length_append]; omega)) (by first | omega | (simp only [List.length_append]; omega)) (fun v1 hv1=>E_ O (ak_ (jq_cut v1 [0,0] trivial O ?_)))
      exact Ww
     ·have e1:lbSelf isIW l[k]=[]:=by simp [lbSelf,hw]
      rw [e1,List.append_nil]
      refine as_ (jq_cut v [0,0] trivial O ?_)
      exact Ww
    ·intro v1 _
     refine R_ (M_ O (F_ O (L_ 1 O (M_ O (Wr ?_)))))
     refine o_ O (bm_ O (ih _ _ g_ g_ g_) (o_ O (YL (fun v2 hv2=>?_))))
     refine Wr ?_
     refine o_ O (bm_ O (ih _ _ g_ g_ g_) (o_ O (Z4 (fun v3 hv3=>?_))))
     refine Zk ?_
     refine jq_again (i:=(k,v)) (k+1,v3) [0] hlt (by dsimp only; omega) (own_eq (congrArg (List.map Irow) ?_)) ?_
     ·rw [flat_take hlt,e2]
      simp only [List.append_assoc]
     ·exact Ww
   ·refine Yr (fun hlen=>?_)
    refine M_ O (ai_ O w_ b_ (YA ?_))
    refine T_ (jc_cond rfl (fun h=>by cases h) (fun _=>av_ (ax_ (ax_ (ba_ ?_)))))
    refine al_ (R_ (M_ O (E_ O (T_ (ar_ ?_)))))
    simp only [List.length_map,Int.ofNat_lt] at hlt
    rw [List.take_of_length_le (Nat.le_of_not_lt hlt)]
    refine jq_freeze 6 0 O O (by rw [hc]; simp [hb]) (jq_ret1 O O [] O (fun K h=>h))
theorem rLabels_c (l:List Sm) (h:Sm.szs l≤1000000):Con Tryz.prog 62 [.cell (.list (l.map Sm.row))] [] (fun K=>K (.cell (.list ((LB l).map Irow))) []):=by
 have hb0:=LB_le l
 have hB:=rlabelsB_c 20 l 1 (by omega) (by omega) (by unfold LB at hb0; omega)
 refine con_intro Tryz.func62 O O b_ (fun c hc=>R_ (E_ O (T_ (R_ (M_ O (o_ O (bm_ O (hB) (E_ O (T_ (ar_ (jq_ret1 O O [] O (fun K h=>h))))))))))))
def clmB (fs:List Int) (c:Clm):Bool:=!decide (c.1=c.2) && hasI fs c.1 && hasI fs c.2
def labF (t:Tk):Bool:=(LB t.body).all (fun n=>decide (1≤n) && decide (n≤12)) && !dupI (LB t.body) && t.claims.all (clmB (ifsOf t.body))
theorem labF_labT {t:Tk} (h:dpF 8 t.body=false):labF t=labT t:=by
 have e1:LB t.body=Sm.lbss isIW t.body:=lb_lbs isIW 8 20 _ h (by omega)
 have e2:ifsOf t.body=Sm.lbss isIf t.body:=by
  rw [← lb_lbs isIf 8 20 _ h (by omega)]
  unfold ifsOf
  congr 1
  funext x
  exact lb_rl 20 x
 unfold labF labT clmB
 rw [e1,e2]
theorem rlabelled_c (t:Tk) (hz:Sm.szs t.body≤1000000):Con Tryz.prog 116 [.row t.row] [] (fun K=>K (Bl (labF t)) []):=by
 have hL:=rLabels_c t.body hz
 have hF:=Ifs_c t.body (by have:=ifs_le t.body; omega)
 have e0:labF t=((LB t.body).all (fun n=>decide (1≤n) && decide (n≤12)) && !dupI (LB t.body) && t.claims.all (clmB (ifsOf t.body))):=rfl
 generalize LB t.body=L at hL e0
 generalize ifsOf t.body=F at hF e0
 refine con_intro Tryz.func116 O O b_ (fun c hc=>Wv (fun bx=>?_))
 refine Yh ?_
 refine bm_ O (hL) (E_ O (T_ (am_ (R_ (E_ O (T_ (au_ ?_)))))))
 refine jc_loopS (ι:=Nat) [] (fun k=>k≤(L).length∧(L.take k).all (fun n=>decide (1≤n) && decide (n≤12))=true∧dupI (L.take k)=false) (fun k=>(4,In .i64 (k:Int)) :: [(3,.cell (.list (L.map Irow))),(1,.cell (.val (.pointer (some ⟨bx,0,none⟩))))]) (fun k=>[.blk bx 39 t.row]) (fun k=>(L).length - k) 0 ⟨Nat.zero_le _,⟨rfl,rfl⟩⟩ ?_ ?_ ?_
 ·exact Wy
 ·exact Ww
 rintro k ⟨hk,⟨hI,hd⟩⟩
 have eLk:((L).map Irow).length=(L).length:=List.length_map _
 by_cases hltk:k < (L).length
 ·have hltk2:(k:Int) < (((L).map Irow).length:Int):=by omega
  by_cases b1:L[k] < 1
  ·have hres:labF t=false:=by rw [e0]; rw [all_no hltk (by rw [decide_eq_false (show ¬ 1≤L[k] by omega)]; rfl)]; rfl
   refine Yu ?_
   refine Zb (fun hlen=>?_)
   refine ZM ?_
   refine aa_ (fun c=>cb_ O O p_) (aa_ (fun c=>bw_ O O p_) (yM_ O (ZL ?_)))
   refine aa_ (fun c=>bp_ O u_ O p_) (yM_ O (ac_ O O (ac_ O O (ac_ O O (ac_ O O (ac_ O O (ac_ O O ?_)))))))
   refine ac_ O O (ac_ O O (aa_ (fun c=>bp_ O O O p_) (ae_ (al_ (aq_ O O (Zr ?_))))))
   refine aw_ (jq_ret1 O O [] O (fun K h=>by rw [hres] at h; exact h))
  by_cases b2:L[k] > 12
  ·have hres:labF t=false:=by rw [e0]; rw [all_no hltk (by rw [decide_eq_false (show ¬ L[k]≤12 by omega),Bool.and_false])]; rfl
   refine Yu ?_
   refine Zb (fun hlen=>?_)
   refine ZM ?_
   refine aa_ (fun c=>cb_ O O p_) (aa_ (fun c=>bw_ O O p_) (yM_ O (ZF ?_)))
   refine YY ?_
   refine yM_ O (ZL ?_)
   refine ac_ O u_ ?_
   refine ac_ O u_ (ac_ O u_ (aa_ (fun c=>bp_ O u_ O p_) (ae_ (al_ (aq_ O O (Zr ?_))))))
   refine aw_ (jq_ret1 O O [] O (fun K h=>by rw [hres] at h; exact h))
  have hH:=rhasI_c (L.take k) L[k]
  cases h3:hasI (L.take k) L[k] with
  | true =>
   rw [h3] at hH
   have hres:labF t=false:=by rw [e0]; rw [dupI_yes hltk h3,Bool.not_true,Bool.and_false]; rfl
   refine Yu ?_
   refine Zb (fun hlen=>?_)
   refine ZM ?_
   refine aa_ (fun c=>cb_ O O p_) (aa_ (fun c=>bw_ O O p_) (yM_ O (ZF ?_)))
   refine YY ?_
   refine yM_ O (ab_ O w_ (fun c=>bd_ O p_) (ab_ O w_ (fun c=>bd_ O p_) (ab_ O w_ (fun c=>ow_prefixMap O O g_ p_) ?_)))
   refine ZF ?_
   refine ab_ O w_ (fun c=>bm_ O (hH) p_) (aa_ (fun c=>bv_ O w_ O p_) (ae_ (al_ (aq_ O O (R_ (E_ O (T_ (ar_ (az_ (aw_ (aw_ ?_)))))))))))
   refine az_ (aw_ (jq_ret1 O O [] O (fun K h=>by rw [hres] at h; exact h)))
  | false =>
   rw [h3] at hH
   have hd2:dupI (L.take (k+1))=false:=by rw [List.take_succ_eq_append_getElem hltk,dupI_snoc,hd,h3]; rfl
   refine Yu ?_
   refine Zb (fun hlen=>?_)
   refine ZM ?_
   refine aa_ (fun c=>cb_ O O p_) (aa_ (fun c=>bw_ O O p_) (yM_ O (ZF ?_)))
   refine YY ?_
   refine yM_ O (ab_ O w_ (fun c=>bd_ O p_) (ab_ O w_ (fun c=>bd_ O p_) (ab_ O w_ (fun c=>ow_prefixMap O O g_ p_) ?_)))
   refine ZF ?_
   refine ab_ O w_ (fun c=>bm_ O (hH) p_) (aa_ (fun c=>bv_ O w_ O p_) (ae_ (al_ (ap_ O O (as_ (Wt ?_))))))
   refine E_ O ?_
   refine ak_ (jq_againS (i:=k) (k+1) ⟨hltk,all_snoc hltk hI (by rw [decide_eq_true (show 1≤L[k] by omega),decide_eq_true (show L[k]≤12 by omega)]; rfl),hd2⟩ g_ ?_ ?_)
   ·exact Wy
   ·exact Ww
 ·have hltk2:¬ (k:Int) < (((L).map Irow).length:Int):=by omega
  rw [List.take_of_length_le (by omega)] at hI hd
  rw [hI,hd,Bool.not_false,Bool.true_and,Bool.true_and] at e0
  refine Yu ?_
  refine Zh (fun hlen=>?_)
  refine al_ (R_ (F_ O (L_ 0 O ?_)))
  refine o_ O (bm_ O (hF) (E_ O (T_ (am_ (R_ (E_ O (T_ (au_ (jc_loopS (ι:=Nat) [] (fun m=>m≤(t.claims).length∧((t.claims).take m).all (clmB F)=true) (fun m=>(6,In .i64 (m:Int)) :: [(5,.cell (.list (F.map Irow))),(1,.cell (.val (.pointer (some ⟨bx,0,none⟩))))]) (fun m=>[.blk bx 39 t.row]) (fun m=>(t.claims).length - m) 0 ⟨Nat.zero_le _,rfl⟩ ?_ ?_ ?_)))))))))
  ·exact Wy
  ·exact Ww
  rintro m ⟨hm,hI⟩
  have eLm:((t.claims).map ClRow).length=(t.claims).length:=List.length_map _
  by_cases hltm:m < (t.claims).length
  ·have hltm2:(m:Int) < (((t.claims).map ClRow).length:Int):=by omega
   refine ZB ?_
   refine Zb (fun hlen=>?_)
   refine Y6 ?_
   refine Zm (fun bl=>?_)
   refine R_ (F_ O (L_ 0 O (YT ?_)))
   refine jl_or 5 5 O O O O (nb O) ?_
   apply Exists.intro
   refine ⟨fun hb1=>?_,?_⟩
   refine ah_ O h_ b_ (bd_ O (Za ?_))
   exact bm_ O (rhasI_c _ _) (ah_ O h_ b_ (cd_ O (ak_ (jq_seg 5 O O O (List.Perm.refl _)))))
   refine M_ O (jl_or 5 12 O O O O (nb O) ?_)
   apply Exists.intro
   refine ⟨fun hb1=>?_,?_⟩
   refine ah_ O h_ b_ (bd_ O (Za ?_))
   exact bm_ O (rhasI_c _ _) (ah_ O h_ b_ (cd_ O (ak_ (jq_seg 5 O O O (List.Perm.refl _)))))
   refine T_ (jc_cond O (fun hn=>?_) (fun hy=>?_))
   ·have hp:(clmB F) (t.claims)[m]=false:=by
     unfold clmB
     cases h1:decide ((t.claims[m]).1=(t.claims[m]).2) <;> cases h2:hasI F (t.claims[m]).1 <;> cases h3:hasI F (t.claims[m]).2 <;> first | rfl | (rw [h1,h2,h3] at hn; cases hn)
    have hno:(t.claims).all (clmB F)=false:=all_no hltm hp
    have hres:labF t=false:=by
     rw [e0]; exact hno
    refine Zr ?_
    refine aw_ (jq_ret1 O O [] O (fun K h=>by rw [hres] at h; exact h))
   ·have hp:(clmB F) (t.claims)[m]=true:=by
     unfold clmB
     cases h1:decide ((t.claims[m]).1=(t.claims[m]).2) <;> cases h2:hasI F (t.claims[m]).1 <;> cases h3:hasI F (t.claims[m]).2 <;> first | rfl | (rw [h1,h2,h3] at hy; cases hy)
    refine as_ (Zk ?_)
    refine jq_againS (i:=m) (m+1) ⟨hltm,all_snoc hltm hI hp⟩ g_ ?_ ?_
    ·exact WE
    ·exact Ww
  ·have hltm2:¬ (m:Int) < (((t.claims).map ClRow).length:Int):=by omega
   rw [List.take_of_length_le (by omega)] at hI
   have hres:labF t=true:=by rw [e0]; exact hI
   refine ZB ?_
   refine Zh (fun hlen=>?_)
   refine al_ (R_ (E_ O ?_))
   refine T_ (ar_ (jq_ret1 O O [] O (fun K h=>by rw [hres] at h; exact h)))
theorem lck_eq (sh:List Shd) (h:ByteArray) (s:Sm):s.lck sh h=((s.index ++ s.value).all (freeB sh h) && (!decide (s.kind=5) || decide (h=⟨#[]⟩)) && (!decide (s.kind=2) || allowB sh h s.name) && Sm.lcks sh (if s.kind=5 then s.name else h) s.thn && Sm.lcks sh (if s.kind=5 then s.name else h) s.els):=by
 cases s
 simp only [Sm.lck,Sm.kind,Sm.name,Sm.index,Sm.value,Sm.thn,Sm.els,List.all_append,Bool.and_assoc]
 rfl
theorem rlocked_c (p:Pg):∀ l:List Sm,Sm.lnss l→∀ hd:ByteArray,Con Tryz.prog 117 [.row p.row,.cell (.list (l.map Sm.row)),Str hd] [] (fun K=>K (Bl (Sm.lcks p.shared hd l)) []):=by
 refine Sms.ind (fun l ih hl hd=>?_)
 have e0:=Sm.lcks_all p.shared hd l
 refine con_intro Tryz.func117 O O b_ (fun c hc=>ZD (fun bx=>?_))
 refine E_ O (T_ (au_ ?_))
 refine jc_loopS (ι:=Nat) [] (fun k=>k≤(l).length∧(l.take k).all (Sm.lck p.shared hd)=true) (fun k=>(7,In .i64 (k:Int)) :: [(1,.cell (.list (l.map Sm.row))),(2,Str hd),(3,.cell (.val (.pointer (some ⟨bx,0,none⟩))))]) (fun k=>[.blk bx 31 p.row]) (fun k=>(l).length - k) 0 ⟨Nat.zero_le _,rfl⟩ ?_ ?_ ?_
 ·exact Wy
 ·exact Ww
 rintro k ⟨hk,hI⟩
 have eLk:((l).map Sm.row).length=(l).length:=List.length_map _
 by_cases hltk:k < (l).length
 ·have hltk2:(k:Int) < (((l).map Sm.row).length:Int):=by omega
  obtain ⟨i1,i2⟩:=ih l[k] (List.getElem_mem hltk)
  obtain ⟨z1,z2,z3,z4⟩:=Sm.lnss_mem hl l[k] (List.getElem_mem hltk)
  have e1:=lck_eq p.shared hd l[k]
  refine Yu ?_
  refine Zb (fun hlen=>?_)
  refine R_ (M_ O (M_ O (Zq ?_)))
  refine Yt (fun bl=>?_)
  refine am_ (jc_hpM 7 (n:=8) O 0 k_ O (fun cs1 hcs1 hv1=>?_))
  obtain ⟨u10,u11,u12,u13,u14,u15,u16,u17,rfl⟩:=len8 hcs1
  obtain rfl:=Option.some.inj (hv1 0 _ rfl)
  obtain rfl:=Option.some.inj (hv1 1 _ rfl)
  obtain rfl:=Option.some.inj (hv1 4 _ rfl)
  obtain rfl:=Option.some.inj (hv1 5 _ rfl)
  refine hp_know 0 O mem0 ?_
  dsimp only [List.zipWith,know]
  refine df_ (i:=1) O k_ k_ k_ b_ ZP (dl_ O O O b_) ?_
  refine df_ (i:=2) O k_ k_ k_ b_ ZP (hok_loadK 0 O O O mem0 O) ?_
  refine df_ (i:=4) O k_ k_ k_ b_ ZP (dl_ O O O b_) ?_
  refine df_ (i:=5) O k_ k_ k_ b_ ZP (hok_loadK 0 O O O mem0 O) ?_
  refine dg_ (i:=0) O k_ b_ (ow_buildSliceOwn (rows:=([]:List T).map T.row) O O b_ O O b_ (fun v0 _ fv0=>⟨?_,?_⟩))
  exact keepK 1 O O
  refine dg_ (i:=3) O k_ b_ (ow_appendM 0 (f:=T.row) (l1:=[]) (l2:=l[k].index) O O O O O O O (fun x=>by rw [T.row_eq];rfl) (by show (0+_) * 64≤_;omega) (by show 0+_≤_;omega) (fun v1 _=>⟨?_,?_⟩))
  exact keepK 1 O O
  refine dg_ (i:=6) O k_ b_ (ow_appendM 0 (f:=T.row) (l1:=l[k].index) (l2:=l[k].value) O O O O O O O (fun x=>by rw [T.row_eq];rfl) (by show (_+_) * 64≤_;omega) g_ (fun v2 _=>⟨?_,?_⟩))
  exact keepK 1 O O
  refine df_ (i:=7) O k_ k_ k_ b_ ZP (hok_assign O) ?_
  refine hp_done k_ (jq_unk _ 1 O O ?_)
  dsimp only [List.map,unk]
  refine jq_freeze 9 1 O O (by rw [hc]; simp [hb]) ?_
  generalize l[k].index ++ l[k].value=A at e1 ⊢
  refine al_ (am_ (R_ (E_ O (T_ (au_ ?_)))))
  refine jc_loopS (ι:=Nat) [] (fun j=>j≤(A).length∧((A).take j).all (freeB p.shared hd)=true) (fun j=>(10,In .i64 (j:Int)) :: (9,.cell (.list (A.map T.row))) :: (8,.cell (.val (.pointer (some ⟨bl,0,none⟩)))) :: (7,In .i64 (k:Int)) :: [(1,.cell (.list (l.map Sm.row))),(2,Str hd),(3,.cell (.val (.pointer (some ⟨bx,0,none⟩))))]) (fun j=>[.blk bl 66 l[k].row',.blk bx 31 p.row]) (fun j=>(A).length - j) 0 ⟨Nat.zero_le _,rfl⟩ ?_ ?_ ?_
  ·exact Wx
  ·exact Ww
  rintro j ⟨hj,hIj⟩
  have eLj:((A).map T.row).length=(A).length:=List.length_map _
  by_cases hltj:j < (A).length
  ·have hltj2:(j:Int) < (((A).map T.row).length:Int):=by omega
   refine Yu ?_
   refine Zb (fun hlen=>?_)
   refine Wh ?_
   refine yM_ O (yM_ O ?_)
   refine aa_ (fun c=>cc_ O O g_ (T.row_eq _) O b_ p_) (aa_ (fun c=>cr_ O O O p_) (yM_ O (aa_ (fun c=>bm_ O (rfree_c p hd A[j]) p_) (aa_ (fun c=>cd_ O p_) (ae_ (al_ (jc_cond O (fun hn=>?_) (fun hy=>?_))))))))
   ·have hp:(freeB p.shared hd) (A)[j]=false:=by
     simpa using hn
    have hno:(A).all (freeB p.shared hd)=false:=all_no hltj hp
    have hres:Sm.lcks p.shared hd l=false:=by
     rw [e0]; exact all_no hltk (by rw [e1,hno]; simp)
    refine Zr ?_
    refine aw_ (az_ (aw_ (aw_ (az_ (aw_ (jq_ret1 O O [] O (fun K h=>by rw [hres] at h; exact h)))))))
   ·have hp:(freeB p.shared hd) (A)[j]=true:=by
     simpa using hy
    refine as_ (Zk ?_)
    refine jq_againS (i:=j) (j+1) ⟨hltj,all_snoc hltj hIj hp⟩ g_ ?_ ?_
    ·exact Wx
    ·exact Ww
  ·have hltj2:¬ (j:Int) < (((A).map T.row).length:Int):=by omega
   rw [List.take_of_length_le (by omega)] at hIj
   rw [hIj,Bool.true_and] at e1
   by_cases hk5:l[k].kind=5
   ·rw [decide_eq_true hk5,Bool.not_true,Bool.false_or,if_pos hk5] at e1
    by_cases hh:hd=⟨#[]⟩
    ·have hh':¬ ¬ hd=⟨#[]⟩:=fun h=>h hh
     have hk2:¬ l[k].kind=2:=by omega
     rw [decide_eq_true hh,Bool.true_and,decide_eq_false hk2,Bool.not_false,Bool.true_or,Bool.true_and] at e1
     have c1:=i1 z3 l[k].name
     have c2:=i2 z4 l[k].name
     refine Yu ?_
     refine Zh (fun hlen=>?_)
     refine al_ (R_ (M_ O (E_ O ?_)))
     refine T_ (am_ (Yh ?_))
     refine bn_ O O (T_ (aq_ O u_ (am_ (R_ (M_ O (o_ O (ct_ O O (T_ (ap_ O w_ (as_ (al_ ?_)))))))))))
     refine an_ (F_ O (L_ 0 O (E_ O (T_ (Yh ?_)))))
     refine bn_ O O (M_ O (Zg ?_))
     refine ai_ O w_ b_ (ai_ O w_ b_ ?_)
     refine o_ O (bv_ O w_ O (M_ O (ah_ O O b_ (bs_ 1 O O O O (Ze ?_)))))
     refine bd_ O (ah_ O O b_ (bm_ O (c1) (ZQ ?_)))
     refine M_ O (jl_or 6 19 O O O O (nb O) ?_)
     apply Exists.intro
     refine ⟨fun hb1=>?_,?_⟩
     refine ah_ O h_ b_ (bs_ 1 O O O O (Za ?_))
     exact bd_ O (ah_ O h_ b_ (bm_ O (c2) (ah_ O h_ b_ (cd_ O (ak_ (jq_seg 6 O O O (List.Perm.refl _)))))))
     refine T_ (jc_cond O (fun hn=>?_) (fun hy=>?_))
     ·have hno:l[k].lck p.shared hd=false:=by
       rw [e1]
       revert hn
       cases decide (l[k].kind=2) <;> cases allowB p.shared hd l[k].name <;> cases Sm.lcks p.shared l[k].name l[k].thn <;> cases Sm.lcks p.shared l[k].name l[k].els <;> simp
      have hres:Sm.lcks p.shared hd l=false:=by rw [e0]; exact all_no hltk hno
      refine Zr ?_
      refine aw_ (jq_ret1 O O [] O (fun K h=>by rw [hres] at h; exact h))
     ·have hyes:l[k].lck p.shared hd=true:=by
       rw [e1]
       revert hy
       cases decide (l[k].kind=2) <;> cases allowB p.shared hd l[k].name <;> cases Sm.lcks p.shared l[k].name l[k].thn <;> cases Sm.lcks p.shared l[k].name l[k].els <;> simp
      refine as_ (Zk ?_)
      refine jq_againS (i:=k) (k+1) ⟨hltk,all_snoc hltk hI hyes⟩ g_ ?_ ?_
      ·exact WE
      ·exact Ww
    ·rw [decide_eq_false hh] at e1
     simp only [Bool.false_and] at e1
     have hres:Sm.lcks p.shared hd l=false:=by rw [e0]; exact all_no hltk e1
     refine Yu ?_
     refine Zh (fun hlen=>?_)
     refine al_ (R_ (M_ O (E_ O ?_)))
     refine T_ (am_ (Yh ?_))
     refine bn_ O O (T_ (aq_ O u_ (am_ (R_ (M_ O (o_ O (ct_ O O (T_ (aq_ O u_ (R_ (E_ O ?_)))))))))))
     refine T_ (ar_ (aw_ (aw_ (az_ (aw_ (aw_ (az_ (aw_ (jq_ret1 O O [] O (fun K h=>by rw [hres] at h; exact h))))))))))
   ·rw [decide_eq_false hk5,Bool.not_false,Bool.true_or,Bool.true_and,if_neg hk5] at e1
    have c1:=i1 z3 hd
    have c2:=i2 z4 hd
    refine Yu ?_
    refine Zh (fun hlen=>?_)
    refine al_ (R_ (M_ O (E_ O ?_)))
    refine T_ (am_ (Yh ?_))
    refine bn_ O O (T_ (ap_ O w_ (as_ (al_ (Yh ?_)))))
    refine bn_ O O (M_ O (jl_and 6 3 O O O O (nb O) ?_))
    apply Exists.intro
    refine ⟨fun hb1=>?_,?_⟩
    refine ah_ O h_ b_ (bs_ 1 O O O O (Za ?_))
    exact bd_ O (ah_ O h_ b_ (bm_ O (rallowed_c _ _ _) (ah_ O h_ b_ (cd_ O (ak_ (jq_seg 6 O O O (List.Perm.refl _)))))))
    refine M_ O (jl_or 6 11 O O O O (nb O) ?_)
    apply Exists.intro
    refine ⟨fun hb1=>?_,?_⟩
    refine ah_ O h_ b_ (bs_ 1 O O O O (Za ?_))
    exact bd_ O (ah_ O h_ b_ (bm_ O (c1) (ah_ O h_ b_ (cd_ O (ak_ (jq_seg 6 O O O (List.Perm.refl _)))))))
    refine M_ O (jl_or 6 19 O O O O (nb O) ?_)
    apply Exists.intro
    refine ⟨fun hb1=>?_,?_⟩
    refine ah_ O h_ b_ (bs_ 1 O O O O (Za ?_))
    exact bd_ O (ah_ O h_ b_ (bm_ O (c2) (ah_ O h_ b_ (cd_ O (ak_ (jq_seg 6 O O O (List.Perm.refl _)))))))
    refine T_ (jc_cond O (fun hn=>?_) (fun hy=>?_))
    ·have hno:l[k].lck p.shared hd=false:=by
      rw [e1]
      revert hn
      cases decide (l[k].kind=2) <;> cases allowB p.shared hd l[k].name <;> cases Sm.lcks p.shared hd l[k].thn <;> cases Sm.lcks p.shared hd l[k].els <;> simp
     have hres:Sm.lcks p.shared hd l=false:=by rw [e0]; exact all_no hltk hno
     refine Zr ?_
     refine aw_ (jq_ret1 O O [] O (fun K h=>by rw [hres] at h; exact h))
    ·have hyes:l[k].lck p.shared hd=true:=by
      rw [e1]
      revert hy
      cases decide (l[k].kind=2) <;> cases allowB p.shared hd l[k].name <;> cases Sm.lcks p.shared hd l[k].thn <;> cases Sm.lcks p.shared hd l[k].els <;> simp
     refine as_ (Zk ?_)
     refine jq_againS (i:=k) (k+1) ⟨hltk,all_snoc hltk hI hyes⟩ g_ ?_ ?_
     ·exact WE
     ·exact Ww
 ·have hltk2:¬ (k:Int) < (((l).map Sm.row).length:Int):=by omega
  rw [List.take_of_length_le (by omega)] at hI
  have hres:Sm.lcks p.shared hd l=true:=by rw [e0]; exact hI
  refine Yu ?_
  refine Zh (fun hlen=>?_)
  refine al_ (R_ (E_ O (T_ ?_)))
  refine ar_ (jq_ret1 O O [] O (fun K h=>by rw [hres] at h; exact h))
def ckF (p:Pg):Int:=if (progF p).2≠0 then (progF p).2 else if limB p=false then 4 else if namB p=false then 2 else if ranB p=false then 3 else if p.tasks.all labF=false then 5 else if p.tasks.all (fun t=>Sm.lcks p.shared ⟨#[]⟩ t.body)=false then 14 else if p.tasks.all (fun t=>decide (wAll 20 t.body 0≤2000))=false then 7 else 0
theorem rProgram5_c (p:Pg) (hp:PgOk p):Con Tryz.prog 61 [.row p.row] [] (fun K=>K (In .i64 (ckF p)) []):=by
 have hP:=rProg_c p hp.sz
 have hL:=rlimits_c p hp.sz
 have hN:=rnamed_c p hp
 have hR:=rwithin_c p hp
 refine con_intro Tryz.func61 O O b_ (fun c hc=>?_)
 by_cases h0:(progF p).2≠0
 ·have hres:ckF p=(progF p).2:=by unfold ckF; rw [if_pos h0]
  refine ZD (fun bx=>?_)
  refine A_ 0 O (o_ O (ZR ?_))
  refine o_ O (bx_ O O (T_ (aq_ O u_ (R_ (M_ O (E_ O (T_ (ar_ (aw_ (jq_ret1 O O [] O (fun K h=>by rw [hres] at h; exact h)))))))))))
 cases h1:limB p with
 | false =>
  have hres:ckF p=4:=by unfold ckF; rw [if_neg h0,if_pos h1]
  rw [h1] at hL
  refine ZD (fun bx=>?_)
  refine A_ 0 O (o_ O (ZR ?_))
  refine Wa ?_
  refine ZK ?_
  refine aw_ (jq_ret1 O O [] O (fun K h=>by rw [hres] at h; exact h))
 | true =>
  rw [h1] at hL
  cases h2:namB p with
  | false =>
   have hres:ckF p=2:=by unfold ckF; rw [if_neg h0,if_neg (by rw [h1]; decide),if_pos h2]
   rw [h2] at hN
   refine ZD (fun bx=>?_)
   refine A_ 0 O (o_ O (ZR ?_))
   refine Wa ?_
   refine Wl ?_
   refine R_ ?_
   refine A_ 0 O (o_ O (bm_ O (hN) (o_ O (cd_ O (ZK ?_)))))
   refine aw_ (jq_ret1 O O [] O (fun K h=>by rw [hres] at h; exact h))
  | true =>
   rw [h2] at hN
   cases h3:ranB p with
   | false =>
    have hres:ckF p=3:=by unfold ckF; rw [if_neg h0,if_neg (by rw [h1]; decide),if_neg (by rw [h2]; decide),if_pos h3]
    rw [h3] at hR
    refine ZD (fun bx=>?_)
    refine A_ 0 O (o_ O (ZR ?_))
    refine Wa ?_
    refine Wl ?_
    refine R_ ?_
    refine A_ 0 O (o_ O (bm_ O (hN) (o_ O (cd_ O (Wl ?_)))))
    refine R_ (A_ 0 O (o_ O (bm_ O (hR) (o_ O (cd_ O (T_ (aq_ O O (R_ (E_ O ?_)))))))))
    refine T_ (ar_ (aw_ (jq_ret1 O O [] O (fun K h=>by rw [hres] at h; exact h))))
   | true =>
    rw [h3] at hR
    refine ZD (fun bx=>?_)
    refine A_ 0 O (o_ O (ZR ?_))
    refine Wa ?_
    refine Wl ?_
    refine R_ ?_
    refine A_ 0 O (o_ O (bm_ O (hN) (o_ O (cd_ O (Wl ?_)))))
    refine R_ (A_ 0 O (o_ O (bm_ O (hR) (o_ O (cd_ O (T_ (ap_ O O (as_ (al_ ?_)))))))))
    refine am_ (R_ (E_ O (T_ (au_ (jc_loopS (ι:=Nat) [] (fun k=>k≤(p.tasks).length∧((p.tasks).take k).all (labF)=true) (fun k=>(5,In .i64 (k:Int)) :: [(1,.cell (.val (.pointer (some ⟨bx,0,none⟩))))]) (fun k=>[.blk bx 31 p.row]) (fun k=>(p.tasks).length - k) 0 ⟨Nat.zero_le _,rfl⟩ ?_ ?_ ?_)))))
    ·exact Wy
    ·exact Ww
    rintro k ⟨hk,h4⟩
    have eLk:((p.tasks).map Tk.row).length=(p.tasks).length:=List.length_map _
    by_cases hltk:k < (p.tasks).length
    ·have hltk2:(k:Int) < (((p.tasks).map Tk.row).length:Int):=by omega
     have cB:=rlabelled_c (p.tasks[k]) (hp.sz.tasks _ (List.getElem_mem hltk)).body
     refine ZB ?_
     refine Zb (fun hlen=>?_)
     refine Y6 ?_
     refine ZI ?_
     refine cr_ O O O (o_ O (bm_ O (cB) (o_ O (cd_ O (T_ (jc_cond O (fun hn=>?_) (fun hy=>?_)))))))
     ·have hp:(labF) (p.tasks)[k]=false:=by
       simpa using hn
      have hno:(p.tasks).all (labF)=false:=all_no hltk hp
      have hres:ckF p=5:=by unfold ckF; rw [if_neg h0,if_neg (by rw [h1]; decide),if_neg (by rw [h2]; decide),if_neg (by rw [h3]; decide),if_pos hno]
      refine Zr ?_
      refine aw_ (jq_ret1 O O [] O (fun K h=>by rw [hres] at h; exact h))
     ·have hp:(labF) (p.tasks)[k]=true:=by
       simpa using hy
      refine as_ (Zk ?_)
      refine jq_againS (i:=k) (k+1) ⟨hltk,all_snoc hltk h4 hp⟩ g_ ?_ ?_
      ·exact Wy
      ·exact Ww
    ·have hltk2:¬ (k:Int) < (((p.tasks).map Tk.row).length:Int):=by omega
     rw [List.take_of_length_le (by omega)] at h4
     refine ZB ?_
     refine Zh (fun hlen=>?_)
     refine al_ (am_ (R_ ?_))
     refine E_ O (T_ (au_ ?_))
     clear hltk hltk2 hk
     refine jc_loopS (ι:=Nat) [] (fun n=>n≤(p.tasks).length∧((p.tasks).take n).all (fun t=>Sm.lcks p.shared ⟨#[]⟩ t.body)=true) (fun n=>(6,In .i64 (n:Int)) :: [(1,.cell (.val (.pointer (some ⟨bx,0,none⟩))))]) (fun n=>[.blk bx 31 p.row]) (fun n=>(p.tasks).length - n) 0 ⟨Nat.zero_le _,rfl⟩ ?_ ?_ ?_
     ·exact Wy
     ·exact Ww
     rintro n ⟨hn,h5⟩
     have eLn:((p.tasks).map Tk.row).length=(p.tasks).length:=List.length_map _
     by_cases hltn:n < (p.tasks).length
     ·have hltn2:(n:Int) < (((p.tasks).map Tk.row).length:Int):=by omega
      have cK:=rlocked_c p (p.tasks[n]).body (hp.ls _ (List.getElem_mem hltn)) ⟨#[]⟩
      refine ZB ?_
      refine Zb (fun hlen=>?_)
      refine am_ (ao_ O O k_ k_ (aa_ (fun c=>bs_ 0 O O O O p_) (yF_ O ?_)))
      refine yL_ 0 O (Zi ?_)
      refine aa_ (fun c=>bm_ O (cK) p_) (aa_ (fun c=>cd_ O p_) (ae_ (al_ (jc_cond O (fun hn=>?_) (fun hy=>?_)))))
      ·have hp:(fun t=>Sm.lcks p.shared ⟨#[]⟩ t.body) (p.tasks)[n]=false:=by
        simpa using hn
       have hno:(p.tasks).all (fun t=>Sm.lcks p.shared ⟨#[]⟩ t.body)=false:=all_no hltn hp
       have hres:ckF p=14:=by unfold ckF; rw [if_neg h0,if_neg (by rw [h1]; decide),if_neg (by rw [h2]; decide),if_neg (by rw [h3]; decide),if_neg (by rw [h4]; decide),if_pos hno]
       refine Zr ?_
       refine aw_ (jq_ret1 O O [] O (fun K h=>by rw [hres] at h; exact h))
      ·have hp:(fun t=>Sm.lcks p.shared ⟨#[]⟩ t.body) (p.tasks)[n]=true:=by
        simpa using hy
       refine as_ (Zk ?_)
       refine jq_againS (i:=n) (n+1) ⟨hltn,all_snoc hltn h5 hp⟩ g_ ?_ ?_
       ·exact Wy
       ·exact Ww
     ·have hltn2:¬ (n:Int) < (((p.tasks).map Tk.row).length:Int):=by omega
      rw [List.take_of_length_le (by omega)] at h5
      refine ZB ?_
      refine Zh (fun hlen=>?_)
      refine al_ (am_ (R_ ?_))
      refine E_ O (T_ (au_ ?_))
      clear hltn hltn2 hn
      refine jc_loopS (ι:=Nat) [] (fun m=>m≤(p.tasks).length∧((p.tasks).take m).all (fun t=>decide (wAll 20 t.body 0≤2000))=true) (fun m=>(7,In .i64 (m:Int)) :: [(1,.cell (.val (.pointer (some ⟨bx,0,none⟩))))]) (fun m=>[.blk bx 31 p.row]) (fun m=>(p.tasks).length - m) 0 ⟨Nat.zero_le _,rfl⟩ ?_ ?_ ?_
      ·exact Wy
      ·exact Ww
      rintro m ⟨hm,h6⟩
      have eLm:((p.tasks).map Tk.row).length=(p.tasks).length:=List.length_map _
      by_cases hltm:m < (p.tasks).length
      ·have hltm2:(m:Int) < (((p.tasks).map Tk.row).length:Int):=by omega
       refine ZB ?_
       refine Zb (fun hlen=>?_)
       refine Y6 ?_
       refine ZI ?_
       refine Yo ?_
       refine bm_ O (rWeight_c _) (o_ O (bz_ O O (T_ (jc_cond O (fun hn=>?_) (fun hy=>?_)))))
       ·have hp:(fun t=>decide (wAll 20 t.body 0≤2000)) (p.tasks)[m]=false:=by
         rw [decide_eq_false_iff_not]
         have:=of_decide_eq_true hn
         omega
        have hno:(p.tasks).all (fun t=>decide (wAll 20 t.body 0≤2000))=false:=all_no hltm hp
        have hres:ckF p=7:=by unfold ckF; rw [if_neg h0,if_neg (by rw [h1]; decide),if_neg (by rw [h2]; decide),if_neg (by rw [h3]; decide),if_neg (by rw [h4]; decide),if_neg (by rw [h5]; decide),if_pos hno]
        refine Zr ?_
        refine aw_ (jq_ret1 O O [] O (fun K h=>by rw [hres] at h; exact h))
       ·have hp:(fun t=>decide (wAll 20 t.body 0≤2000)) (p.tasks)[m]=true:=by
         rw [decide_eq_true_eq]
         have:=of_decide_eq_false hy
         omega
        refine as_ (Zk ?_)
        refine jq_againS (i:=m) (m+1) ⟨hltm,all_snoc hltm h6 hp⟩ g_ ?_ ?_
        ·exact Wy
        ·exact Ww
      ·have hltm2:¬ (m:Int) < (((p.tasks).map Tk.row).length:Int):=by omega
       rw [List.take_of_length_le (by omega)] at h6
       have hres:ckF p=0:=by unfold ckF; rw [if_neg h0,if_neg (by rw [h1]; decide),if_neg (by rw [h2]; decide),if_neg (by rw [h3]; decide),if_neg (by rw [h4]; decide),if_neg (by rw [h5]; decide),if_neg (by rw [h6]; decide)]
       refine ZB ?_
       refine Zh (fun hlen=>?_)
       refine al_ (R_ (E_ O ?_))
       refine T_ (ar_ (jq_ret1 O O [] O (fun K h=>by rw [hres] at h; exact h)))
end Go.Proofs.YtalkkcfojplmdaaGreatDoor
end
section
namespace Go.Proofs.YtalkkcfojplmdaaGreatDoor
open Go.Vc
attribute [local irreducible] JL JC JQ OpWp Con ConN HOk
set_option maxHeartbeats 4000000
def idxOf {α:Type} (p:α→Bool) (l:List α):Int:=match l.findIdx? p with | some i=>(i:Int) | none=>-1
theorem idx_some {α:Type} {p:α→Bool} {l:List α} {k:Nat} (hk:k < l.length) (h:p l[k]=true) (hno:(l.take k).any p=false):idxOf p l=(k:Int):=by
 unfold idxOf
 rw [List.findIdx?_eq_some_iff_getElem.2 ⟨hk,h,fun j hj=>List.any_eq_false.1 hno l[j] (by rw [List.mem_take_iff_getElem]; exact ⟨j,by omega,rfl⟩)⟩]
theorem idx_none {α:Type} {p:α→Bool} {l:List α} (hno:l.any p=false):idxOf p l=-1:=by
 unfold idxOf
 rw [List.findIdx?_eq_none_iff.2 (fun x hx=>by simpa using List.any_eq_false.1 hno x hx)]
theorem idx_any {α:Type} (p:α→Bool) (l:List α):decide (0≤idxOf p l)=l.any p:=by
 cases h:l.any p with
 | false=>rw [idx_none h]; rfl
 | true =>
  unfold idxOf
  cases hf:l.findIdx? p with
  | some i=>exact decide_eq_true (show (0:Int)≤(i:Int) by omega)
  | none =>
   obtain ⟨x,hx,hp⟩:=List.any_eq_true.1 h
   rw [List.findIdx?_eq_none_iff.1 hf x hx] at hp
   cases hp
theorem idxSh1_c (F:FuncId) [FI Tryz.prog F] (cap:List Value) (hcap:cap.all Value.oneCell'=true) (h1:Ch) (p:Shd→Bool) (l:List (Shd)) (hp:∀ x ∈ l,Con Tryz.prog F (.row (ShRow x) :: capS cap) [h1] (fun K=>K (Bl (p x)) [h1])) :
 Con Tryz.prog 147 [.cell (.list (l.map ShRow)),FC F cap] [h1] (fun K=>K (In .i64 (idxOf p l)) [h1]):=by
 refine con_intro Tryz.func147 O O b_ (fun c hc=>ZV ?_)
 refine br_ O (fun hlen=>M_ O (T_ (au_ ?_)))
 refine jc_loopS (ι:=Nat) [] (fun k=>k≤(l).length∧(l.take k).any p=false) (fun k=>(8,In .i64 (k:Int)) :: [(0,.cell (.list (l.map ShRow))),(1,FC F cap),(7,In .i64 ((l.map ShRow).length:Int))]) (fun k=>[h1]) (fun k=>(l).length - k) 0 ⟨Nat.zero_le _,rfl⟩ ?_ ?_ ?_
 ·exact Wy
 ·exact Ww
 rintro k ⟨hk,hno⟩
 have eLk:((l).map ShRow).length=(l).length:=List.length_map _
 by_cases hltk:k < (l).length
 ·have hltk2:(k:Int) < (((l).map ShRow).length:Int):=by omega
  have hC:=hp l[k] (List.getElem_mem hltk)
  cases hb':p l[k] with
  | true =>
   rw [hb'] at hC
   have hres:=idx_some hltk hb' hno
   refine Zj ?_
   refine YR ?_
   refine ZI ?_
   refine cr_ O O O (o_ O (Ym ?_))
   exact Wy
  | false =>
   rw [hb'] at hC
   refine Zj ?_
   refine YR ?_
   refine ZI ?_
   refine cr_ O O O (o_ O (ow_callc [0] O O hcap O hC (T_ (ap_ O O (as_ (Zx ?_))))))
   refine jq_againS (i:=k) (k+1) ⟨hltk,any_snoc hltk hno hb'⟩ g_ ?_ ?_
   ·exact Wy
   ·exact Ww
 ·have hltk2:¬ (k:Int) < (((l).map ShRow).length:Int):=by omega
  rw [List.take_of_length_le (by omega)] at hno
  have hres:=idx_none hno
  refine R_ (o_ O (Zl ?_))
  exact WI
theorem hasSh1_c (F:FuncId) [FI Tryz.prog F] (cap:List Value) (hcap:cap.all Value.oneCell'=true) (h1:Ch) (p:Shd→Bool) (l:List (Shd)) (hp:∀ x ∈ l,Con Tryz.prog F (.row (ShRow x) :: capS cap) [h1] (fun K=>K (Bl (p x)) [h1])) :
 Con Tryz.prog 94 [.cell (.list (l.map ShRow)),FC F cap] [h1] (fun K=>K (Bl (l.any p)) [h1]):=by
 have hI:=idxSh1_c F cap hcap h1 p l hp
 rw [← idx_any]
 generalize idxOf p l=m at hI ⊢
 exact con_intro Tryz.func94 O O b_ (fun c hc=>R_ (E_ O (T_ (R_ (M_ O (M_ O (o_ O (bi_ [0] O O hI (o_ O (cn_ O O (E_ O (T_ (ar_ (jq_ret1S O O (fun K h=>h) (bc_ 0 O sub_end)))))))))))))))
theorem idxEx1_c (F:FuncId) [FI Tryz.prog F] (cap:List Value) (hcap:cap.all Value.oneCell'=true) (h1:Ch) (p:T→Bool) (l:List (T)) (hp:∀ x ∈ l,Con Tryz.prog F (.row x.row' :: capS cap) [h1] (fun K=>K (Bl (p x)) [h1])) :
 Con Tryz.prog 194 [.cell (.list (l.map T.row)),FC F cap] [h1] (fun K=>K (In .i64 (idxOf p l)) [h1]):=by
 refine con_intro Tryz.func194 O O b_ (fun c hc=>ZV ?_)
 refine br_ O (fun hlen=>M_ O (T_ (au_ ?_)))
 refine jc_loopS (ι:=Nat) [] (fun k=>k≤(l).length∧(l.take k).any p=false) (fun k=>(8,In .i64 (k:Int)) :: [(0,.cell (.list (l.map T.row))),(1,FC F cap),(7,In .i64 ((l.map T.row).length:Int))]) (fun k=>[h1]) (fun k=>(l).length - k) 0 ⟨Nat.zero_le _,rfl⟩ ?_ ?_ ?_
 ·exact Wy
 ·exact Ww
 rintro k ⟨hk,hno⟩
 have eLk:((l).map T.row).length=(l).length:=List.length_map _
 by_cases hltk:k < (l).length
 ·have hltk2:(k:Int) < (((l).map T.row).length:Int):=by omega
  have hC:=hp l[k] (List.getElem_mem hltk)
  cases hb':p l[k] with
  | true =>
   rw [hb'] at hC
   have hres:=idx_some hltk hb' hno
   refine Zj ?_
   refine YR ?_
   refine Zy ?_
   refine o_ O (Ym ?_)
   exact Wy
  | false =>
   rw [hb'] at hC
   refine Zj ?_
   refine YR ?_
   refine Zy ?_
   refine o_ O (ow_callc [0] O O hcap O hC (T_ (ap_ O O (as_ (Zx ?_)))))
   refine jq_againS (i:=k) (k+1) ⟨hltk,any_snoc hltk hno hb'⟩ g_ ?_ ?_
   ·exact Wy
   ·exact Ww
 ·have hltk2:¬ (k:Int) < (((l).map T.row).length:Int):=by omega
  rw [List.take_of_length_le (by omega)] at hno
  have hres:=idx_none hno
  refine R_ (o_ O (Zl ?_))
  exact WI
theorem hasEx1_c (F:FuncId) [FI Tryz.prog F] (cap:List Value) (hcap:cap.all Value.oneCell'=true) (h1:Ch) (p:T→Bool) (l:List (T)) (hp:∀ x ∈ l,Con Tryz.prog F (.row x.row' :: capS cap) [h1] (fun K=>K (Bl (p x)) [h1])) :
 Con Tryz.prog 150 [.cell (.list (l.map T.row)),FC F cap] [h1] (fun K=>K (Bl (l.any p)) [h1]):=by
 have hI:=idxEx1_c F cap hcap h1 p l hp
 rw [← idx_any]
 generalize idxOf p l=m at hI ⊢
 exact con_intro Tryz.func150 O O b_ (fun c hc=>R_ (E_ O (T_ (R_ (M_ O (M_ O (o_ O (bi_ [0] O O hI (o_ O (cn_ O O (E_ O (T_ (ar_ (jq_ret1S O O (fun K h=>h) (bc_ 0 O sub_end)))))))))))))))
theorem idxTk0_c (F:FuncId) [FI Tryz.prog F] (cap:List Value) (hcap:cap.all Value.oneCell'=true) (p:Tk→Bool) (l:List (Tk)) (hp:∀ x ∈ l,Con Tryz.prog F (.row x.row :: capS cap) [] (fun K=>K (Bl (p x)) [])) :
 Con Tryz.prog 63 [.cell (.list (l.map Tk.row)),FC F cap] [] (fun K=>K (In .i64 (idxOf p l)) []):=by
 refine con_intro Tryz.func63 O O b_ (fun c hc=>ZV ?_)
 refine br_ O (fun hlen=>M_ O (T_ (au_ ?_)))
 refine jc_loopS (ι:=Nat) [] (fun k=>k≤(l).length∧(l.take k).any p=false) (fun k=>(8,In .i64 (k:Int)) :: [(0,.cell (.list (l.map Tk.row))),(1,FC F cap),(7,In .i64 ((l.map Tk.row).length:Int))]) (fun k=>[]) (fun k=>(l).length - k) 0 ⟨Nat.zero_le _,rfl⟩ ?_ ?_ ?_
 ·exact sub_end
 ·exact Ww
 rintro k ⟨hk,hno⟩
 have eLk:((l).map Tk.row).length=(l).length:=List.length_map _
 by_cases hltk:k < (l).length
 ·have hltk2:(k:Int) < (((l).map Tk.row).length:Int):=by omega
  have hC:=hp l[k] (List.getElem_mem hltk)
  cases hb':p l[k] with
  | true =>
   rw [hb'] at hC
   have hres:=idx_some hltk hb' hno
   refine Zj ?_
   refine YR ?_
   refine ZI ?_
   exact cr_ O O O (o_ O (ow_callc [] O O hcap O hC (T_ (aq_ O O (R_ (M_ O (E_ O (T_ (ar_ (az_ (aw_ (aw_ (az_ (aw_ (jq_ret1S O O (fun K h=>by rw [hres] at h; exact h) sub_end)))))))))))))))
  | false =>
   rw [hb'] at hC
   refine Zj ?_
   refine YR ?_
   refine ZI ?_
   refine cr_ O O O (o_ O (ow_callc [] O O hcap O hC (T_ (ap_ O O (as_ (Zx ?_))))))
   refine jq_againS (i:=k) (k+1) ⟨hltk,any_snoc hltk hno hb'⟩ g_ ?_ ?_
   ·exact sub_end
   ·exact Ww
 ·have hltk2:¬ (k:Int) < (((l).map Tk.row).length:Int):=by omega
  rw [List.take_of_length_le (by omega)] at hno
  have hres:=idx_none hno
  refine R_ (o_ O (Zl ?_))
  exact WJ
theorem hasTk0_c (F:FuncId) [FI Tryz.prog F] (cap:List Value) (hcap:cap.all Value.oneCell'=true) (p:Tk→Bool) (l:List (Tk)) (hp:∀ x ∈ l,Con Tryz.prog F (.row x.row :: capS cap) [] (fun K=>K (Bl (p x)) [])) :
 Con Tryz.prog 53 [.cell (.list (l.map Tk.row)),FC F cap] [] (fun K=>K (Bl (l.any p)) []):=by
 have hI:=idxTk0_c F cap hcap p l hp
 rw [← idx_any]
 generalize idxOf p l=m at hI ⊢
 exact con_intro Tryz.func53 O O b_ (fun c hc=>R_ (E_ O (T_ (R_ (M_ O (M_ O (o_ O (bi_ [] O O hI (o_ O (cn_ O O (E_ O (T_ (ar_ (jq_ret1S O O (fun K h=>h) sub_end))))))))))))))
theorem idxTk1_c (F:FuncId) [FI Tryz.prog F] (cap:List Value) (hcap:cap.all Value.oneCell'=true) (h1:Ch) (p:Tk→Bool) (l:List (Tk)) (hp:∀ x ∈ l,Con Tryz.prog F (.row x.row :: capS cap) [h1] (fun K=>K (Bl (p x)) [h1])) :
 Con Tryz.prog 63 [.cell (.list (l.map Tk.row)),FC F cap] [h1] (fun K=>K (In .i64 (idxOf p l)) [h1]):=by
 refine con_intro Tryz.func63 O O b_ (fun c hc=>ZV ?_)
 refine br_ O (fun hlen=>M_ O (T_ (au_ ?_)))
 refine jc_loopS (ι:=Nat) [] (fun k=>k≤(l).length∧(l.take k).any p=false) (fun k=>(8,In .i64 (k:Int)) :: [(0,.cell (.list (l.map Tk.row))),(1,FC F cap),(7,In .i64 ((l.map Tk.row).length:Int))]) (fun k=>[h1]) (fun k=>(l).length - k) 0 ⟨Nat.zero_le _,rfl⟩ ?_ ?_ ?_
 ·exact Wy
 ·exact Ww
 rintro k ⟨hk,hno⟩
 have eLk:((l).map Tk.row).length=(l).length:=List.length_map _
 by_cases hltk:k < (l).length
 ·have hltk2:(k:Int) < (((l).map Tk.row).length:Int):=by omega
  have hC:=hp l[k] (List.getElem_mem hltk)
  cases hb':p l[k] with
  | true =>
   rw [hb'] at hC
   have hres:=idx_some hltk hb' hno
   refine Zj ?_
   refine YR ?_
   refine ZI ?_
   refine cr_ O O O (o_ O (Ym ?_))
   exact Wy
  | false =>
   rw [hb'] at hC
   refine Zj ?_
   refine YR ?_
   refine ZI ?_
   refine cr_ O O O (o_ O (ow_callc [0] O O hcap O hC (T_ (ap_ O O (as_ (Zx ?_))))))
   refine jq_againS (i:=k) (k+1) ⟨hltk,any_snoc hltk hno hb'⟩ g_ ?_ ?_
   ·exact Wy
   ·exact Ww
 ·have hltk2:¬ (k:Int) < (((l).map Tk.row).length:Int):=by omega
  rw [List.take_of_length_le (by omega)] at hno
  have hres:=idx_none hno
  refine R_ (o_ O (Zl ?_))
  exact WI
theorem hasTk1_c (F:FuncId) [FI Tryz.prog F] (cap:List Value) (hcap:cap.all Value.oneCell'=true) (h1:Ch) (p:Tk→Bool) (l:List (Tk)) (hp:∀ x ∈ l,Con Tryz.prog F (.row x.row :: capS cap) [h1] (fun K=>K (Bl (p x)) [h1])) :
 Con Tryz.prog 53 [.cell (.list (l.map Tk.row)),FC F cap] [h1] (fun K=>K (Bl (l.any p)) [h1]):=by
 have hI:=idxTk1_c F cap hcap h1 p l hp
 rw [← idx_any]
 generalize idxOf p l=m at hI ⊢
 exact con_intro Tryz.func53 O O b_ (fun c hc=>R_ (E_ O (T_ (R_ (M_ O (M_ O (o_ O (bi_ [0] O O hI (o_ O (cn_ O O (E_ O (T_ (ar_ (jq_ret1S O O (fun K h=>h) (bc_ 0 O sub_end)))))))))))))))
theorem idxCl1_c (F:FuncId) [FI Tryz.prog F] (cap:List Value) (hcap:cap.all Value.oneCell'=true) (h1:Ch) (p:Clm→Bool) (l:List (Clm)) (hp:∀ x ∈ l,Con Tryz.prog F (.row (ClRow x) :: capS cap) [h1] (fun K=>K (Bl (p x)) [h1])) :
 Con Tryz.prog 155 [.cell (.list (l.map ClRow)),FC F cap] [h1] (fun K=>K (In .i64 (idxOf p l)) [h1]):=by
 refine con_intro Tryz.func155 O O b_ (fun c hc=>ZV ?_)
 refine br_ O (fun hlen=>M_ O (T_ (au_ ?_)))
 refine jc_loopS (ι:=Nat) [] (fun k=>k≤(l).length∧(l.take k).any p=false) (fun k=>(8,In .i64 (k:Int)) :: [(0,.cell (.list (l.map ClRow))),(1,FC F cap),(7,In .i64 ((l.map ClRow).length:Int))]) (fun k=>[h1]) (fun k=>(l).length - k) 0 ⟨Nat.zero_le _,rfl⟩ ?_ ?_ ?_
 ·exact Wy
 ·exact Ww
 rintro k ⟨hk,hno⟩
 have eLk:((l).map ClRow).length=(l).length:=List.length_map _
 by_cases hltk:k < (l).length
 ·have hltk2:(k:Int) < (((l).map ClRow).length:Int):=by omega
  have hC:=hp l[k] (List.getElem_mem hltk)
  cases hb':p l[k] with
  | true =>
   rw [hb'] at hC
   have hres:=idx_some hltk hb' hno
   refine Zj ?_
   refine YR ?_
   refine ZI ?_
   refine cr_ O O O (o_ O (Ym ?_))
   exact Wy
  | false =>
   rw [hb'] at hC
   refine Zj ?_
   refine YR ?_
   refine ZI ?_
   refine cr_ O O O (o_ O (ow_callc [0] O O hcap O hC (T_ (ap_ O O (as_ (Zx ?_))))))
   refine jq_againS (i:=k) (k+1) ⟨hltk,any_snoc hltk hno hb'⟩ g_ ?_ ?_
   ·exact Wy
   ·exact Ww
 ·have hltk2:¬ (k:Int) < (((l).map ClRow).length:Int):=by omega
  rw [List.take_of_length_le (by omega)] at hno
  have hres:=idx_none hno
  refine R_ (o_ O (Zl ?_))
  exact WI
theorem hasCl1_c (F:FuncId) [FI Tryz.prog F] (cap:List Value) (hcap:cap.all Value.oneCell'=true) (h1:Ch) (p:Clm→Bool) (l:List (Clm)) (hp:∀ x ∈ l,Con Tryz.prog F (.row (ClRow x) :: capS cap) [h1] (fun K=>K (Bl (p x)) [h1])) :
 Con Tryz.prog 106 [.cell (.list (l.map ClRow)),FC F cap] [h1] (fun K=>K (Bl (l.any p)) [h1]):=by
 have hI:=idxCl1_c F cap hcap h1 p l hp
 rw [← idx_any]
 generalize idxOf p l=m at hI ⊢
 exact con_intro Tryz.func106 O O b_ (fun c hc=>R_ (E_ O (T_ (R_ (M_ O (M_ O (o_ O (bi_ [0] O O hI (o_ O (cn_ O O (E_ O (T_ (ar_ (jq_ret1S O O (fun K h=>h) (bc_ 0 O sub_end)))))))))))))))
theorem each0_c (F:FuncId) [FI Tryz.prog F] (cap:List Value) (hcap:cap.all Value.oneCell'=true) (q:Sm→Bool) (A:List Sm→Bool) (hA:∀ l,A l=l.all (fun s=>q s && A s.thn && A s.els)) (hF:∀ s,s.index.length≤1000→s.value.length≤1000→Con Tryz.prog F (.row s.row' :: capS cap) [] (fun K=>K (Bl (q s)) [])) :
 ∀ l:List Sm,Sm.lnss l→Con Tryz.prog 99 [.cell (.list (l.map Sm.row)),FC F cap] [] (fun K=>K (Bl (A l)) []):=by
 refine Sms.ind (fun l ih hl=>?_)
 have e0:=hA l
 refine con_intro Tryz.func99 O O b_ (fun c hc=>ZV ?_)
 refine br_ O (fun hlen=>M_ O (T_ (au_ ?_)))
 refine jc_loopS (ι:=Nat) [] (fun k=>k≤(l).length∧(l.take k).all (fun s=>q s && A s.thn && A s.els)=true) (fun k=>(9,In .i64 (k:Int)) :: [(1,FC F cap),(7,.cell (.list (l.map Sm.row))),(8,In .i64 ((l.map Sm.row).length:Int))]) (fun k=>[]) (fun k=>(l).length - k) 0 ⟨Nat.zero_le _,rfl⟩ ?_ ?_ ?_
 ·exact sub_end
 ·exact Ww
 rintro k ⟨hk,hI⟩
 have eLk:((l).map Sm.row).length=(l).length:=List.length_map _
 by_cases hltk:k < (l).length
 ·have hltk2:(k:Int) < (((l).map Sm.row).length:Int):=by omega
  obtain ⟨i1,i2⟩:=ih l[k] (List.getElem_mem hltk)
  obtain ⟨z1,z2,z3,z4⟩:=Sm.lnss_mem hl l[k] (List.getElem_mem hltk)
  have c0:=hF l[k] z1 z2
  have c1:=i1 z3
  have c2:=i2 z4
  cases b0:q l[k] with
  | false =>
   have hres:A l=false:=by rw [e0]; exact all_no hltk (by rw [b0]; rfl)
   rw [b0] at c0
   refine Zj ?_
   refine Zq ?_
   refine Yt (fun bl=>?_)
   refine R_ (M_ O ?_)
   refine Wu ?_
   refine Zd ?_
   refine ai_ O O b_ (o_ O (bp_ O O O (M_ O (Zd ?_))))
   refine ai_ O O b_ ?_
   refine Wc ?_
   refine Zr ?_
   exact WK
  | true =>
   rw [b0] at c0
   cases b1:A l[k].thn with
   | false =>
    have hres:A l=false:=by rw [e0]; exact all_no hltk (by rw [b0,b1]; rfl)
    rw [b1] at c1
    refine Zj ?_
    refine Zq ?_
    refine Yt (fun bl=>?_)
    refine R_ (M_ O ?_)
    refine Wu ?_
    refine Ze ?_
    refine bd_ O (ah_ O O b_ (bi_ [] O O c1 (ZQ ?_)))
    refine M_ O (Zd ?_)
    refine ai_ O O b_ ?_
    refine Wc ?_
    refine Zr ?_
    exact WK
   | true =>
    rw [b1] at c1
    cases b2:A l[k].els with
    | false =>
     have hres:A l=false:=by rw [e0]; exact all_no hltk (by rw [b0,b1,b2]; rfl)
     rw [b2] at c2
     refine Zj ?_
     refine Zq ?_
     refine Yt (fun bl=>?_)
     refine R_ (M_ O ?_)
     refine Wu ?_
     refine Ze ?_
     refine bd_ O (ah_ O O b_ (bi_ [] O O c1 (ZQ ?_)))
     refine M_ O (Ze ?_)
     refine bd_ O (ah_ O O b_ (bi_ [] O O c2 (ah_ O O b_ (cd_ O ?_))))
     refine o_ O (bv_ O O O (T_ (aq_ O O (Zr ?_))))
     exact WK
    | true =>
     rw [b2] at c2
     refine Zj ?_
     refine Zq ?_
     refine Yt (fun bl=>?_)
     refine R_ (M_ O ?_)
     refine Wu ?_
     refine Ze ?_
     refine bd_ O (ah_ O O b_ (bi_ [] O O c1 (ZQ ?_)))
     refine M_ O (Ze ?_)
     refine bd_ O (ah_ O O b_ (bi_ [] O O c2 (ah_ O O b_ (cd_ O ?_))))
     refine o_ O (bv_ O O O (T_ (ap_ O O (as_ (Zx ?_)))))
     refine jq_againS (i:=k) (k+1) ⟨hltk,all_snoc hltk hI (by rw [b0,b1,b2]; rfl)⟩ g_ ?_ ?_
     ·exact sub_end
     ·exact Ww
 ·have hltk2:¬ (k:Int) < (((l).map Sm.row).length:Int):=by omega
  rw [List.take_of_length_le (by omega)] at hI
  have hres:A l=true:=by rw [e0]; exact hI
  refine R_ (o_ O (Zl ?_))
  exact WJ
theorem each2_c (F:FuncId) [FI Tryz.prog F] (cap:List Value) (hcap:cap.all Value.oneCell'=true) (h1:Ch) (h2:Ch) (q:Sm→Bool) (A:List Sm→Bool) (hA:∀ l,A l=l.all (fun s=>q s && A s.thn && A s.els)) (hF:∀ s,s.index.length≤1000→s.value.length≤1000→Con Tryz.prog F (.row s.row' :: capS cap) [h1,h2] (fun K=>K (Bl (q s)) [h1,h2])) :
 ∀ l:List Sm,Sm.lnss l→Con Tryz.prog 99 [.cell (.list (l.map Sm.row)),FC F cap] [h1,h2] (fun K=>K (Bl (A l)) [h1,h2]):=by
 refine Sms.ind (fun l ih hl=>?_)
 have e0:=hA l
 refine con_intro Tryz.func99 O O b_ (fun c hc=>ZV ?_)
 refine br_ O (fun hlen=>M_ O (T_ (au_ ?_)))
 refine jc_loopS (ι:=Nat) [] (fun k=>k≤(l).length∧(l.take k).all (fun s=>q s && A s.thn && A s.els)=true) (fun k=>(9,In .i64 (k:Int)) :: [(1,FC F cap),(7,.cell (.list (l.map Sm.row))),(8,In .i64 ((l.map Sm.row).length:Int))]) (fun k=>[h1,h2]) (fun k=>(l).length - k) 0 ⟨Nat.zero_le _,rfl⟩ ?_ ?_ ?_
 ·exact Wx
 ·exact Ww
 rintro k ⟨hk,hI⟩
 have eLk:((l).map Sm.row).length=(l).length:=List.length_map _
 by_cases hltk:k < (l).length
 ·have hltk2:(k:Int) < (((l).map Sm.row).length:Int):=by omega
  obtain ⟨i1,i2⟩:=ih l[k] (List.getElem_mem hltk)
  obtain ⟨z1,z2,z3,z4⟩:=Sm.lnss_mem hl l[k] (List.getElem_mem hltk)
  have c0:=hF l[k] z1 z2
  have c1:=i1 z3
  have c2:=i2 z4
  cases b0:q l[k] with
  | false =>
   have hres:A l=false:=by rw [e0]; exact all_no hltk (by rw [b0]; rfl)
   rw [b0] at c0
   refine Zj ?_
   refine Zq ?_
   refine Yt (fun bl=>?_)
   refine R_ (M_ O ?_)
   refine A_ 0 O (o_ O (ow_callc [1,1] O O hcap O c0 (o_ O (cd_ O (M_ O (Zd ?_))))))
   refine ai_ O O b_ (o_ O (bp_ O O O (M_ O (Zd ?_))))
   refine ai_ O O b_ ?_
   refine Wc ?_
   refine Zr ?_
   exact WL
  | true =>
   rw [b0] at c0
   cases b1:A l[k].thn with
   | false =>
    have hres:A l=false:=by rw [e0]; exact all_no hltk (by rw [b0,b1]; rfl)
    rw [b1] at c1
    refine Zj ?_
    refine Zq ?_
    refine Yt (fun bl=>?_)
    refine R_ (M_ O ?_)
    refine A_ 0 O (o_ O (ow_callc [1,1] O O hcap O c0 (o_ O (cd_ O (YC ?_)))))
    refine bg_ 2 O O O O (Zs ?_)
    refine bi_ [0,0] O O c1 (ZQ ?_)
    refine M_ O (Zd ?_)
    refine ai_ O O b_ ?_
    refine Wc ?_
    refine Zr ?_
    exact WL
   | true =>
    rw [b1] at c1
    cases b2:A l[k].els with
    | false =>
     have hres:A l=false:=by rw [e0]; exact all_no hltk (by rw [b0,b1,b2]; rfl)
     rw [b2] at c2
     refine Zj ?_
     refine Zq ?_
     refine Yt (fun bl=>?_)
     refine R_ (M_ O ?_)
     refine A_ 0 O (o_ O (ow_callc [1,1] O O hcap O c0 (o_ O (cd_ O (YC ?_)))))
     refine bg_ 2 O O O O (Zs ?_)
     refine bi_ [0,0] O O c1 (ZQ ?_)
     refine YC ?_
     refine bg_ 2 O O O O (Zs ?_)
     refine bi_ [0,0] O O c2 (ah_ O O b_ (cd_ O ?_))
     refine o_ O (bv_ O O O (T_ (aq_ O O (Zr ?_))))
     exact WL
    | true =>
     rw [b2] at c2
     refine Zj ?_
     refine Zq ?_
     refine Yt (fun bl=>?_)
     refine R_ (M_ O ?_)
     refine A_ 0 O (o_ O (ow_callc [1,1] O O hcap O c0 (o_ O (cd_ O (YC ?_)))))
     refine bg_ 2 O O O O (Zs ?_)
     refine bi_ [0,0] O O c1 (ZQ ?_)
     refine YC ?_
     refine bg_ 2 O O O O (Zs ?_)
     refine bi_ [0,0] O O c2 (ah_ O O b_ (cd_ O ?_))
     refine o_ O (bv_ O O O (T_ (ap_ O O (as_ (Zx ?_)))))
     refine jq_againS (i:=k) (k+1) ⟨hltk,all_snoc hltk hI (by rw [b0,b1,b2]; rfl)⟩ g_ ?_ ?_
     ·exact Wx
     ·exact Ww
 ·have hltk2:¬ (k:Int) < (((l).map Sm.row).length:Int):=by omega
  rw [List.take_of_length_le (by omega)] at hI
  have hres:A l=true:=by rw [e0]; exact hI
  refine R_ (o_ O (Zl ?_))
  refine al_ (R_ (E_ O (T_ (ar_ (jq_ret1S O O (fun K h=>by rw [hres] at h; exact h) (bc_ 0 O ?_))))))
  exact Wy
theorem parts0_c (F:FuncId) [FI Tryz.prog F] (cap:List Value) (hcap:cap.all Value.oneCell'=true) (bo:Nat) (tb:TypeId) (q A:T→Bool) (hA:∀ t,A t=(q t && t.args.all A)) (hF:∀ (x:T) (v:Bool),Con Tryz.prog F (.row x.row' :: capS cap) [.blk bo tb [.val (.bool (v))]] (fun K=>K (.tup []) [.blk bo tb [.val (.bool (v && q x))]])) :
 ∀ (t:T) (v:Bool),Con Tryz.prog 153 [.row t.row',FC F cap] [.blk bo tb [.val (.bool (v))]] (fun K=>K (.tup []) [.blk bo tb [.val (.bool (v && A t))]]):=by
 refine T.ind (fun t ih v=>?_)
 have e0:=hA t
 have c0:=hF t v
 refine con_intro Tryz.func153 O O b_ (fun c hc=>R_ (o_ O (ci_ O (fun bx=>T_ (R_ (M_ O (A_ 0 O (o_ O (ow_callc [1] O O hcap O c0 (T_ (R_ (F_ O (L_ 1 O (o_ O (br_ O (fun hlen=>M_ O (T_ (au_ ?_))))))))))))))))))
 refine jc_loopS (ι:=Nat) [] (fun k=>k≤(t.args).length) (fun k=>(12,In .i64 (k:Int)) :: [(1,FC F cap),(10,.cell (.list (t.args.map T.row))),(11,In .i64 ((t.args.map T.row).length:Int))]) (fun k=>[.blk bo tb [.val (.bool (v && q t && (t.args.take k).all A))]]) (fun k=>(t.args).length - k) 0 (Nat.zero_le _) ?_ ?_ ?_
 ·rw [show (v && q t && (t.args.take 0).all A)=(v && q t) by simp]
  exact Wy
 ·exact Ww
 rintro k hk
 have eLk:((t.args).map T.row).length=(t.args).length:=List.length_map _
 by_cases hltk:k < (t.args).length
 ·have hltk2:(k:Int) < (((t.args).map T.row).length:Int):=by omega
  have c1:=ih t.args[k] (List.getElem_mem hltk) (v && q t && (t.args.take k).all A)
  refine Zj ?_
  refine Zy ?_
  refine Yt (fun bl=>?_)
  refine an_ (A_ 0 O ?_)
  refine M_ O (o_ O (bi_ [1] O O c1 (ak_ (Zx ?_))))
  refine jq_againS (i:=k) (k+1) hltk g_ ?_ ?_
  ·rw [show (v && q t && (t.args.take (k+1)).all A)=(v && q t && (t.args.take k).all A && A t.args[k]) by rw [List.take_succ_eq_append_getElem hltk,List.all_append,List.all_cons,List.all_nil,Bool.and_true,Bool.and_assoc,Bool.and_assoc,Bool.and_assoc]]
   exact Wy
  ·exact Ww
 ·have hltk2:¬ (k:Int) < (((t.args).map T.row).length:Int):=by omega
  rw [List.take_of_length_le (by omega)]
  have hres:(v && A t)=(v && q t && t.args.all A):=by rw [e0,Bool.and_assoc]
  exact R_ (o_ O (bw_ O O (T_ (am_ (ap_ O w_ (av_ (ax_ (ax_ (ba_ (jq_ret0S (.inr O) O (fun K h=>by rw [hres] at h; exact h) (bc_ 0 O sub_end)))))))))))
theorem parts1_c (F:FuncId) [FI Tryz.prog F] (cap:List Value) (hcap:cap.all Value.oneCell'=true) (bo:Nat) (tb:TypeId) (h1:Ch) (q A:T→Bool) (hA:∀ t,A t=(q t && t.args.all A)) (hF:∀ (x:T) (v:Bool),Con Tryz.prog F (.row x.row' :: capS cap) [.blk bo tb [.val (.bool (v))],h1] (fun K=>K (.tup []) [.blk bo tb [.val (.bool (v && q x))],h1])) :
 ∀ (t:T) (v:Bool),Con Tryz.prog 153 [.row t.row',FC F cap] [.blk bo tb [.val (.bool (v))],h1] (fun K=>K (.tup []) [.blk bo tb [.val (.bool (v && A t))],h1]):=by
 refine T.ind (fun t ih v=>?_)
 have e0:=hA t
 have c0:=hF t v
 refine con_intro Tryz.func153 O O b_ (fun c hc=>R_ (o_ O (ci_ O (fun bx=>T_ (R_ (M_ O (A_ 0 O (o_ O (ow_callc [1,1] O O hcap O c0 (T_ (Wj (fun hlen=>?_))))))))))))
 refine jc_loopS (ι:=Nat) [] (fun k=>k≤(t.args).length) (fun k=>(12,In .i64 (k:Int)) :: [(1,FC F cap),(10,.cell (.list (t.args.map T.row))),(11,In .i64 ((t.args.map T.row).length:Int))]) (fun k=>[.blk bo tb [.val (.bool (v && q t && (t.args.take k).all A))],h1]) (fun k=>(t.args).length - k) 0 (Nat.zero_le _) ?_ ?_ ?_
 ·rw [show (v && q t && (t.args.take 0).all A)=(v && q t) by simp]
  exact Wx
 ·exact Ww
 rintro k hk
 have eLk:((t.args).map T.row).length=(t.args).length:=List.length_map _
 by_cases hltk:k < (t.args).length
 ·have hltk2:(k:Int) < (((t.args).map T.row).length:Int):=by omega
  have c1:=ih t.args[k] (List.getElem_mem hltk) (v && q t && (t.args.take k).all A)
  refine Zj ?_
  refine Zy ?_
  refine Yt (fun bl=>?_)
  refine an_ (A_ 0 O ?_)
  refine M_ O (o_ O (bi_ [1,1] O O c1 (ak_ (Zx ?_))))
  refine jq_againS (i:=k) (k+1) hltk g_ ?_ ?_
  ·rw [show (v && q t && (t.args.take (k+1)).all A)=(v && q t && (t.args.take k).all A && A t.args[k]) by rw [List.take_succ_eq_append_getElem hltk,List.all_append,List.all_cons,List.all_nil,Bool.and_true,Bool.and_assoc,Bool.and_assoc,Bool.and_assoc]]
   exact Wx
  ·exact Ww
 ·have hltk2:¬ (k:Int) < (((t.args).map T.row).length:Int):=by omega
  rw [List.take_of_length_le (by omega)]
  have hres:(v && A t)=(v && q t && t.args.all A):=by rw [e0,Bool.and_assoc]
  exact R_ (o_ O (bw_ O O (T_ (am_ (ap_ O w_ (av_ (ax_ (ax_ (ba_ (jq_ret0S (.inr O) O (fun K h=>by rw [hres] at h; exact h) (bc_ 0 O (bc_ 0 O sub_end))))))))))))
theorem parts3_c (F:FuncId) [FI Tryz.prog F] (cap:List Value) (hcap:cap.all Value.oneCell'=true) (bo:Nat) (tb:TypeId) (h1:Ch) (h2:Ch) (h3:Ch) (q A:T→Bool) (hA:∀ t,A t=(q t && t.args.all A)) (hF:∀ (x:T) (v:Bool),Con Tryz.prog F (.row x.row' :: capS cap) [.blk bo tb [.val (.bool (v))],h1,h2,h3] (fun K=>K (.tup []) [.blk bo tb [.val (.bool (v && q x))],h1,h2,h3])) :
 ∀ (t:T) (v:Bool),Con Tryz.prog 153 [.row t.row',FC F cap] [.blk bo tb [.val (.bool (v))],h1,h2,h3] (fun K=>K (.tup []) [.blk bo tb [.val (.bool (v && A t))],h1,h2,h3]):=by
 refine T.ind (fun t ih v=>?_)
 have e0:=hA t
 have c0:=hF t v
 refine con_intro Tryz.func153 O O b_ (fun c hc=>R_ (o_ O (ci_ O (fun bx=>T_ (R_ (M_ O (A_ 0 O (o_ O (ow_callc [1,1,1,1] O O hcap O c0 (T_ (R_ (F_ O (L_ 4 O (o_ O (br_ O (fun hlen=>M_ O (T_ (au_ ?_))))))))))))))))))
 refine jc_loopS (ι:=Nat) [] (fun k=>k≤(t.args).length) (fun k=>(12,In .i64 (k:Int)) :: [(1,FC F cap),(10,.cell (.list (t.args.map T.row))),(11,In .i64 ((t.args.map T.row).length:Int))]) (fun k=>[.blk bo tb [.val (.bool (v && q t && (t.args.take k).all A))],h1,h2,h3]) (fun k=>(t.args).length - k) 0 (Nat.zero_le _) ?_ ?_ ?_
 ·rw [show (v && q t && (t.args.take 0).all A)=(v && q t) by simp]
  refine Y8 ?_
  exact Wy
 ·exact Ww
 rintro k hk
 have eLk:((t.args).map T.row).length=(t.args).length:=List.length_map _
 by_cases hltk:k < (t.args).length
 ·have hltk2:(k:Int) < (((t.args).map T.row).length:Int):=by omega
  have c1:=ih t.args[k] (List.getElem_mem hltk) (v && q t && (t.args.take k).all A)
  refine Zj ?_
  refine Zy ?_
  refine Yt (fun bl=>?_)
  refine an_ (A_ 0 O ?_)
  refine M_ O (o_ O (bi_ [1,1,1,1] O O c1 (ak_ (Zx ?_))))
  refine jq_againS (i:=k) (k+1) hltk g_ ?_ ?_
  ·rw [show (v && q t && (t.args.take (k+1)).all A)=(v && q t && (t.args.take k).all A && A t.args[k]) by rw [List.take_succ_eq_append_getElem hltk,List.all_append,List.all_cons,List.all_nil,Bool.and_true,Bool.and_assoc,Bool.and_assoc,Bool.and_assoc]]
   refine Y8 ?_
   exact Wy
  ·exact Ww
 ·have hltk2:¬ (k:Int) < (((t.args).map T.row).length:Int):=by omega
  rw [List.take_of_length_le (by omega)]
  have hres:(v && A t)=(v && q t && t.args.all A):=by rw [e0,Bool.and_assoc]
  exact R_ (o_ O (bw_ O O (T_ (am_ (ap_ O w_ (av_ (ax_ (ax_ (ba_ (jq_ret0S (.inr O) O (fun K h=>by rw [hres] at h; exact h) (bc_ 0 O (bc_ 0 O (bc_ 0 O (bc_ 0 O sub_end))))))))))))))
theorem eachN_c (F:FuncId) [FI Tryz.prog F] (b:Nat) (hF:∀ (s:Sm) (n:Nat),n≤1000000000→Con Tryz.prog F [.row s.row',Ptr b] [.blk b 3 [.val (.int .i64 (n:Int))]] (fun K=>K (Bl true) [.blk b 3 [.val (.int .i64 ((n+1:Nat):Int))]])) :
 ∀ l:List Sm,∀ n:Nat,n+Sm.szs l≤1000000000→Con Tryz.prog 99 [.cell (.list (l.map Sm.row)),FC F [PV b]] [.blk b 3 [.val (.int .i64 (n:Int))]] (fun K=>K (Bl true) [.blk b 3 [.val (.int .i64 ((n+Sm.szs l:Nat):Int))]]):=by
 refine Sms.ind (fun l ih n hn=>con_intro Tryz.func99 O O b_ (fun c hc=>ZV ?_))
 refine br_ O (fun hlen=>M_ O (T_ (au_ ?_)))
 refine jc_loopS (ι:=Nat) [] (fun k=>k≤(l).length) (fun k=>(9,In .i64 (k:Int)) :: [(1,FC F [PV b]),(7,.cell (.list (l.map Sm.row))),(8,In .i64 ((l.map Sm.row).length:Int))]) (fun k=>[.blk b 3 [.val (.int .i64 ((n+Sm.szs (l.take k):Nat):Int))]]) (fun k=>(l).length - k) 0 (Nat.zero_le _) ?_ ?_ ?_
 ·rw [show n+Sm.szs (l.take 0)=n by simp [Sm.szs]]
  exact Wy
 ·exact Ww
 rintro k hk
 have eLk:((l).map Sm.row).length=(l).length:=List.length_map _
 by_cases hltk:k < (l).length
 ·have hltk2:(k:Int) < (((l).map Sm.row).length:Int):=by omega
  obtain ⟨i1,i2⟩:=ih l[k] (List.getElem_mem hltk)
  have q1:=szs_step hltk
  have q2:=szs_step_le hltk
  have c0:=hF l[k] (n+Sm.szs (l.take k)) (by omega)
  have c1:=i1 (n+Sm.szs (l.take k)+1) (by omega)
  have c2:=i2 (n+Sm.szs (l.take k)+1+Sm.szs l[k].thn) (by omega)
  refine Zj ?_
  refine Zq ?_
  refine Yt (fun bl=>?_)
  refine R_ (M_ O ?_)
  refine A_ 0 O (o_ O (ow_callc [1] O O O O c0 (o_ O (cd_ O (YC ?_)))))
  refine bg_ 1 O O O O (Zs ?_)
  refine bi_ [0] O O c1 (ZQ ?_)
  refine YC ?_
  refine bg_ 1 O O O O (Zs ?_)
  refine bi_ [0] O O c2 (ah_ O O b_ (cd_ O ?_))
  refine o_ O (bv_ O O O (T_ (ap_ O O (as_ (Zx ?_)))))
  refine jq_againS (i:=k) (k+1) hltk g_ ?_ ?_
  ·rw [q1,show n+(Sm.szs (l.take k)+(1+Sm.szs l[k].thn+Sm.szs l[k].els))=n+Sm.szs (l.take k)+1+Sm.szs l[k].thn+Sm.szs l[k].els by omega]
   exact Wy
  ·exact Ww
 ·have hltk2:¬ (k:Int) < (((l).map Sm.row).length:Int):=by omega
  rw [List.take_of_length_le (by omega)]
  refine R_ (o_ O (Zl ?_))
  exact al_ (R_ (E_ O (T_ (ar_ (jq_ret1S O O (fun K h=>h) (bc_ 0 O sub_end))))))
end Go.Proofs.YtalkkcfojplmdaaGreatDoor
end
section
namespace Go.Proofs.YtalkkcfojplmdaaGreatDoor
open Go.Vc
attribute [local irreducible] JL JC JQ OpWp Con ConN HOk
attribute [local irreducible] evJ evF Jb.arr
set_option maxHeartbeats 4000000
abbrev MemH (bv ba:Nat) (va vb:Value) (AM:AMt) (j:Jb):List Ch:=[.mapc bv (mapE (Value.int .i64) j.V),.mapc ba (mapE (fun q=>cond q va vb) AM),.own va 3 1 (j.ca.map Irow),.own vb 3 1 (j.cb.map Irow)]
abbrev JobC (bj bv ba:Nat) (vc:Value) (j:Jb):Ch:=.blk bj 126 [.val (.map (some bv)),.val (.map (some ba)),.val vc,.val (.int .i64 j.st)]
abbrev CntC (vc:Value) (j:Jb):Ch:=.own vc 3 1 (j.cn.map Irow)
theorem small_arr {ma mb N:Nat} {j:Jb} {AM:AMt} (h:j.ok ma mb N) (ha:ma≤1000000) (hb:mb≤1000000):smallA (j.arr AM):=by
 intro s
 have key:∀ L:AMt,((aget (L.map (fun e=>(e.1,cond e.2 j.ca j.cb))) s).getD []).length≤1000000:=by
  intro L
  induction L with
  | nil=>simp [aget]
  | cons e L ih =>
   rw [List.map_cons,aget]
   split
   ·show (cond e.2 j.ca j.cb).length≤_
    have:=h.ca
    have:=h.cb
    cases e.2 <;> simp only [cond] <;> omega
   ·exact ih
 unfold Jb.arr
 exact key AM
theorem lend_mem {w:World} {A:Nat→Prop} {bv ba:Nat} {va vb:Value} {AM:AMt} {j:Jb} (hok:∀ ch ∈ MemH bv ba va vb AM j,ch.ok w A) (hn:∀ b ∈ hb (MemH bv ba va vb AM j),¬ A b) :
 Rd1 w A (.map (mapE (Value.int .i64) j.V)) (.map (some bv))∧Rd1 w A (listM Irow (j.arr AM)) (.map (some ba)):=by
 have o1:=hok (.mapc bv (mapE (Value.int .i64) j.V)) (by simp)
 have o2:=hok (.mapc ba (mapE (fun q=>cond q va vb) AM)) (by simp)
 have o3:=hok (.own va 3 1 (j.ca.map Irow)) (by simp)
 have o4:=hok (.own vb 3 1 (j.cb.map Irow)) (by simp)
 refine ⟨lend_map o1 (hn bv (by simp [hb,Ch.bs])),?_⟩
 unfold Jb.arr
 exact lend_two o2 (hn ba (by simp [hb,Ch.bs])) o3 (fun g hg=>hn g (by simp [hb,Ch.bs,hg])) o4 (fun g hg=>hn g (by simp [hb,Ch.bs,hg]))
section
variable {bj bv ba:Nat} {va vb vc:Value} {AM:AMt} {ma mb N:Nat}
theorem lExpr6_c (j:Jb) (hA:smallA (j.arr AM)) (e:T):Con Tryz.prog 30 [.row e.row',.cell (.val (.map (some bv))),.cell (.val (.map (some ba)))] (MemH bv ba va vb AM j) (fun K=>K (In .i64 (evJ AM j e)) (MemH bv ba va vb AM j)):=by
 have hE:=rExpr6_c j.V (j.arr AM) hA e
 unfold evJ
 refine con_lendG hE trivial (fun w A vs hok hn hvs=>?_)
 obtain ⟨v1,r1,rfl,h1,h2⟩:=hvs
 obtain ⟨v2,r2,rfl,h3,h4⟩:=h2
 obtain ⟨v3,r3,rfl,h5,h6⟩:=h4
 obtain ⟨rfl,_⟩:=h3
 obtain ⟨rfl,_⟩:=h5
 obtain ⟨m1,m2⟩:=lend_mem hok hn
 exact ⟨v1,_,rfl,h1,_,_,rfl,m1,_,_,rfl,m2,h6⟩
theorem rvalue6_c (j:Jb) (hA:smallA (j.arr AM)) (e:T):Con Tryz.prog 132 [Ptr bj,.row e.row'] (JobC bj bv ba vc j :: MemH bv ba va vb AM j) (fun K=>K (In .i64 (evJ AM j e)) (JobC bj bv ba vc j :: MemH bv ba va vb AM j)):=by
 have hE:=lExpr6_c (bv:=bv) (ba:=ba) (va:=va) (vb:=vb) j hA e
 refine con_intro Tryz.func132 O O b_ (fun c hc=>Wv (fun bx=>?_))
 refine am_ (ao_ O O k_ k_ (aa_ (fun c=>bs_ 0 O O O O p_) (Wg ?_)))
 refine Wg ?_
 exact aa_ (fun c=>ow_callA [2,2,2,2] O O hE) (yE_ O (ae_ (al_ (ar_ (jq_ret1S O O (fun K h=>h) (bc_ 1 O (bc_ 1 O (bc_ 1 O (bc_ 1 O (bc_ 1 O sub_end))))))))))
theorem hd0_row {l:List T} (h:(!l.isEmpty)=true):(l.map T.row)[0]?=some (hd0 l).row':=by
 cases l with
 | nil=>cases h
 | cons a l=>simp [hd0,T.row_eq]
theorem runL_take_ok {j:Jb} (h:j.ok ma mb N) (l:List Sm) (k:Nat):(runL AM (l.take k) j).ok ma mb (N+Sm.csts (l.take k)):=runL_ok AM (l.take k) N j h
abbrev JobH (bj bv ba:Nat) (va vb vc:Value) (AM:AMt) (j:Jb):List Ch:=[JobC bj bv ba vc j,CntC vc j,.mapc bv (mapE (Value.int .i64) j.V),.mapc ba (mapE (fun q=>cond q va vb) AM),.own va 3 1 (j.ca.map Irow),.own vb 3 1 (j.cb.map Irow)]
theorem rrun6_c (ar:ByteArray→Bool) (har:∀ nm,ar nm=true→∃ w,aget AM nm=some w∧0 < cond w ma mb) (ha:ma≤1000000) (hb':mb≤1000000) (hva:va.oneCell'=true) (hvb:vb.oneCell'=true):∀ l:List Sm,Sm.roks ar l=true→∀ (N:Nat) (j:Jb),j.ok ma mb N→N+Sm.csts l≤1000000000 →
 Con Tryz.prog 82 [Ptr bj,.cell (.list (l.map Sm.row))] (JobH bj bv ba va vb vc AM j) (fun K=>K (.tup []) (JobH bj bv ba va vb vc AM (runL AM l j))):=by
 refine Sms.ind (fun l ih hl N j hj hN=>con_intro Tryz.func82 O O b_ (fun c hc=>R_ (E_ O (T_ (au_ (jc_loopS (ι:=Nat) [] (fun k=>k≤(l).length) (fun k=>(4,In .i64 (k:Int)) :: [(0,Ptr bj),(1,.cell (.list (l.map Sm.row)))]) (fun k=>JobH bj bv ba va vb vc AM (runL AM (l.take k) j)) (fun k=>(l).length - k) 0 (Nat.zero_le _) ?_ ?_ ?_))))))
 ·refine Zp ?_
  exact Wx
 ·exact Ww
 rintro k hk
 have eLk:((l).map Sm.row).length=(l).length:=List.length_map _
 by_cases hltk:k < (l).length
 ·have hltk2:(k:Int) < (((l).map Sm.row).length:Int):=by omega
  obtain ⟨i1,i2⟩:=ih l[k] (List.getElem_mem hltk)
  have hr:=roks_mem hl l[k] (List.getElem_mem hltk)
  rw [rok_eq] at hr
  have hcs:=csts_take hltk
  rw [cst_eq] at hcs
  have hj1:=runL_take_ok (AM:=AM) hj l k
  have hstep:=runL_step (AM:=AM) hltk j
  rw [runS_eq] at hstep
  generalize runL AM (l.take k) j=J at hj1 hstep ⊢
  have hst:=hj1.st
  by_cases hk1:l[k].kind=1
  ·rw [if_pos hk1] at hr hcs hstep
   have hrv:=hd0_row hr
   have cv:=rvalue6_c (bj:=bj) (bv:=bv) (ba:=ba) (va:=va) (vb:=vb) (vc:=vc) (J) (small_arr (AM:=AM) (hj1) ha hb') (hd0 l[k].value)
   refine Yu ?_
   refine Zb (fun hlen=>?_)
   refine R_ (M_ O (M_ O (Zq ?_)))
   refine Yt (fun bl=>?_)
   refine YB ?_
   refine Zu ?_
   refine aq_ O u_ (am_ (jc_anyB 12 none O k_ k_ (yM_ O ?_)))
   refine yN_ O (yF_ O (yL_ 1 O (yF_ O (yL_ 0 O (yM_ O (yF_ O (yL_ 0 O (aa_ (fun c=>ow_indexAddrN 0 O O O hrv O b_ p_) (aa_ (fun c=>cr_ O O O p_) (aa_ (fun c=>ow_callA [1,2,2,2,2] O O cv) (ae_ (afin_none (ag_ (ow_mapPut (κ:=ByteArray) (vv:=Value.int .i64) (M:=J.V) 3 O O O O O (T_ (an_ ?_))))))))))))))))
   refine M_ O (N_ O (F_ O (L_ 2 O (o_ O (bj_ O O g_ (N_ O (F_ O (W_ 2 O (ak_ (ay_ (Wt ?_)))))))))))
   refine E_ O ?_
   refine ak_ (jq_againS (i:=k) (k+1) hltk g_ ?_ ?_)
   ·rw [hstep]
    exact bc_ 0 O (bc_ 2 O (bc_ 0 O (bc_ 1 O (bc_ 1 O (bc_ 1 O sub_end)))))
   ·exact Ww
  rw [if_neg hk1] at hr hcs hstep
  by_cases hk2:l[k].kind=2
  ·rw [if_pos hk2] at hr hcs hstep
   simp only [Bool.and_eq_true] at hr
   obtain ⟨⟨hr0,hr1⟩,hr2⟩:=hr
   have hri:=hd0_row hr0
   have hrv:=hd0_row hr1
   obtain ⟨w,hw,hpos⟩:=har _ hr2
   cases w with
   | true =>
    have hput:J.put AM l[k].name (evJ AM J (hd0 l[k].index)) (evJ AM J (hd0 l[k].value))={ J with ca:=J.ca.set (evJ AM J (hd0 l[k].index) % J.ca.length).toNat (evJ AM J (hd0 l[k].value)) }:=by unfold Jb.put; rw [hw]
    rw [hput] at hstep
    have hlc:=hj1.ca
    have eca:(J.ca.map Irow).length=J.ca.length:=List.length_map _
    have cm:=rmod_c (evJ AM J (hd0 l[k].index)) ((J.ca.map Irow).length:Int) (by simp only [cond] at hpos; omega)
    have hb0:=Int.emod_nonneg (evJ AM J (hd0 l[k].index)) (show ((J.ca.map Irow).length:Int)≠0 by simp only [cond] at hpos; omega)
    have hb1:=Int.emod_lt_of_pos (evJ AM J (hd0 l[k].index)) (show 0 < ((J.ca.map Irow).length:Int) by simp only [cond] at hpos; omega)
    rw [show (J.ca.length:Int)=((J.ca.map Irow).length:Int) by omega] at hstep
    generalize evJ AM J (hd0 l[k].index) % ((J.ca.map Irow).length:Int)=q at cm hb0 hb1 hstep
    have cv:=rvalue6_c (bj:=bj) (bv:=bv) (ba:=ba) (va:=va) (vb:=vb) (vc:=vc) (J) (small_arr (AM:=AM) (hj1) ha hb') (hd0 l[k].value)
    have ci:=rvalue6_c (bj:=bj) (bv:=bv) (ba:=ba) (va:=va) (vb:=vb) (vc:=vc) (J) (small_arr (AM:=AM) (hj1) ha hb') (hd0 l[k].index)
    refine Yu ?_
    refine Zb (fun hlen=>?_)
    refine R_ (M_ O (M_ O (Zq ?_)))
    refine Yt (fun bl=>?_)
    refine YB ?_
    refine Zc ?_
    refine E_ O ?_
    refine T_ (aq_ O u_ (am_ (ao_ O O k_ k_ (Wg ?_))))
    refine yF_ O (yL_ 0 O (aa_ (fun c=>ow_mapGetOW (κ:=ByteArray) (vv:=fun q=>cond q va vb) (M:=AM) (w:=true) (u:=va) 4 O O hw O hva O O O p_) (yE_ O (ae_ (al_ (R_ (M_ O ?_)))))))
    refine F_ O (L_ 0 O (o_ O (ow_indexAddrN 0 O O O hri O b_ (o_ O (cr_ O O O (o_ O (bi_ [1,2,2,2,2] O O ci (M_ O (o_ O (cw_ 3 O O (fun hlen=>o_ O (bm_ O (cm) (E_ O (T_ (R_ (M_ O (M_ O (M_ O (F_ O (L_ 5 O ?_))))))))))))))))))))
    refine YZ ?_
    refine bi_ [0,0,0,0,0] O O cv (o_ O (ow_indexI 3 O O O g_ O (ag_ (ow_storeI 3 O O O g_ O (T_ (an_ (Wm ?_)))))))
    refine bj_ O O g_ (N_ O (F_ O (W_ 1 O (ak_ ?_))))
    refine ay_ (Zk ?_)
    refine jq_againS (i:=k) (k+1) hltk g_ ?_ ?_
    ·rw [hstep]
     exact bc_ 0 O (bc_ 5 O (bc_ 1 O (bc_ 1 O (bc_ 0 O (bc_ 0 O sub_end)))))
    ·exact Ww
   | false =>
    have hput:J.put AM l[k].name (evJ AM J (hd0 l[k].index)) (evJ AM J (hd0 l[k].value))={ J with cb:=J.cb.set (evJ AM J (hd0 l[k].index) % J.cb.length).toNat (evJ AM J (hd0 l[k].value)) }:=by unfold Jb.put; rw [hw]
    rw [hput] at hstep
    have hlc:=hj1.cb
    have eca:(J.cb.map Irow).length=J.cb.length:=List.length_map _
    have cm:=rmod_c (evJ AM J (hd0 l[k].index)) ((J.cb.map Irow).length:Int) (by simp only [cond] at hpos; omega)
    have hb0:=Int.emod_nonneg (evJ AM J (hd0 l[k].index)) (show ((J.cb.map Irow).length:Int)≠0 by simp only [cond] at hpos; omega)
    have hb1:=Int.emod_lt_of_pos (evJ AM J (hd0 l[k].index)) (show 0 < ((J.cb.map Irow).length:Int) by simp only [cond] at hpos; omega)
    rw [show (J.cb.length:Int)=((J.cb.map Irow).length:Int) by omega] at hstep
    generalize evJ AM J (hd0 l[k].index) % ((J.cb.map Irow).length:Int)=q at cm hb0 hb1 hstep
    have cv:=rvalue6_c (bj:=bj) (bv:=bv) (ba:=ba) (va:=va) (vb:=vb) (vc:=vc) (J) (small_arr (AM:=AM) (hj1) ha hb') (hd0 l[k].value)
    have ci:=rvalue6_c (bj:=bj) (bv:=bv) (ba:=ba) (va:=va) (vb:=vb) (vc:=vc) (J) (small_arr (AM:=AM) (hj1) ha hb') (hd0 l[k].index)
    refine Yu ?_
    refine Zb (fun hlen=>?_)
    refine R_ (M_ O (M_ O (Zq ?_)))
    refine Yt (fun bl=>?_)
    refine YB ?_
    refine Zc ?_
    refine E_ O ?_
    refine T_ (aq_ O u_ (am_ (ao_ O O k_ k_ (Wg ?_))))
    refine yF_ O (yL_ 0 O (aa_ (fun c=>ow_mapGetOW (κ:=ByteArray) (vv:=fun q=>cond q va vb) (M:=AM) (w:=false) (u:=vb) 4 O O hw O hvb O O O p_) (yE_ O (ae_ (al_ (R_ (M_ O ?_)))))))
    refine F_ O (L_ 0 O (o_ O (ow_indexAddrN 0 O O O hri O b_ (o_ O (cr_ O O O (o_ O (bi_ [1,2,2,2,2] O O ci (M_ O (o_ O (cw_ 4 O O (fun hlen=>o_ O (bm_ O (cm) (E_ O (T_ (R_ (M_ O (M_ O (M_ O (F_ O (L_ 5 O ?_))))))))))))))))))))
    refine YZ ?_
    refine bi_ [0,0,0,0,0] O O cv (o_ O (ow_indexI 4 O O O g_ O (ag_ (ow_storeI 4 O O O g_ O (T_ (an_ (Wm ?_)))))))
    refine bj_ O O g_ (N_ O (F_ O (W_ 1 O (ak_ ?_))))
    refine ay_ (Zk ?_)
    refine jq_againS (i:=k) (k+1) hltk g_ ?_ ?_
    ·rw [hstep]
     exact bc_ 0 O (bc_ 5 O (bc_ 1 O (bc_ 1 O (bc_ 1 O (bc_ 0 O sub_end)))))
    ·exact Ww
  rw [if_neg hk2] at hr hcs hstep
  by_cases hk3:l[k].kind=3
  ·rw [if_pos hk3] at hr hcs hstep
   simp only [Bool.and_eq_true,decide_eq_true_eq] at hr
   obtain ⟨⟨⟨⟨hr0,hl0⟩,hl12⟩,hr1⟩,hr2⟩:=hr
   have hrv:=hd0_row hr0
   have hg:=getD_ok hj1 (3 * l[k].label).toNat
   have hln:=hj1.len
   have hj2:(J.up (3 * l[k].label)).step.ok ma mb (N+Sm.csts (l.take k)+1+1):=(hj1.up _).step
   have cv:=rvalue6_c (bj:=bj) (bv:=bv) (ba:=ba) (va:=va) (vb:=vb) (vc:=vc) ((J.up (3 * l[k].label)).step) (small_arr (AM:=AM) (hj2) ha hb') (hd0 l[k].value)
   refine Yu ?_
   refine Zb (fun hlen=>?_)
   refine R_ (M_ O (M_ O (Zq ?_)))
   refine Yt (fun bl=>?_)
   refine YB ?_
   refine Zc ?_
   refine E_ O ?_
   refine T_ (ap_ O w_ (Zu ?_))
   refine aq_ O u_ (am_ (jc_anyB 11 none O k_ k_ (Wg ?_)))
   refine yF_ O (yL_ 0 O (aa_ (fun c=>cz_ O O g_ p_) ?_))
   refine aa_ (fun c=>ow_indexI 2 O O O g_ O p_) (aa_ (fun c=>ow_loadI 2 O O O g_ p_) (aa_ (fun c=>bj_ O O g_ p_) (aa_ (fun c=>ow_indexI 2 O O O g_ O p_) (ae_ (afin_none (ag_ (ow_storeI 2 O O O g_ O (T_ (R_ (M_ O (N_ O (F_ O (L_ 2 O (o_ O (bj_ O O g_ (N_ O (F_ O ?_)))))))))))))))))
   refine W_ 2 O (T_ (R_ (M_ O (F_ O (L_ 2 O ?_)))))
   by_cases hz:evJ AM (J.up (3 * l[k].label)).step (hd0 l[k].value)=0
   ·have hz2:¬ evJ AM (J.up (3 * l[k].label)).step (hd0 l[k].value)≠0:=fun h=>h hz
    rw [if_neg hz2] at hstep
    refine YZ ?_
    refine bi_ [0,2,2,2,2] O O cv (o_ O (bx_ O O (T_ (ap_ O w_ (am_ ?_)))))
    clear cv hz
    clear hz2
    refine jc_reset ([(0,Ptr bj),(1,.cell (.list (l.map Sm.row))),(4,In .i64 (k:Int)),(5,Ptr bl)]) (JobH bj bv ba va vb vc AM ((J.up (3 * l[k].label)).step) ++ [.blk bl 66 l[k].row']) ?_ ?_ ?_
    ·exact Ww
    ·refine bc_ 0 O (bc_ 4 O (Zp ?_))
     exact Wy
    generalize (J.up (3 * l[k].label)).step=J2 at hj2 hstep ⊢
    have hj3:=hj2.up (3 * l[k].label+2)
    have cr:=i2 hr2 _ _ hj3 (by omega)
    have hg2:=getD_ok hj2 (3 * l[k].label+2).toNat
    have hl2:=hj2.len
    refine jc_anyB 12 none O k_ k_ (Zz ?_)
    refine T_ (an_ (M_ O (F_ O (L_ 6 O (o_ O (bi_ [1,0,0,0,0,0] O O cr (ak_ (ay_ (Zk ?_)))))))))
    refine jq_againS (i:=k) (k+1) hltk g_ ?_ ?_
    ·rw [hstep]
     refine Zp ?_
     exact Wx
    ·exact Ww
   ·rw [if_pos hz] at hstep
    refine YZ ?_
    refine bi_ [0,2,2,2,2] O O cv (o_ O (bx_ O O (T_ (aq_ O u_ (am_ ?_)))))
    clear cv hz
    refine jc_reset ([(0,Ptr bj),(1,.cell (.list (l.map Sm.row))),(4,In .i64 (k:Int)),(5,Ptr bl)]) (JobH bj bv ba va vb vc AM ((J.up (3 * l[k].label)).step) ++ [.blk bl 66 l[k].row']) ?_ ?_ ?_
    ·exact Ww
    ·refine bc_ 0 O (bc_ 4 O (Zp ?_))
     exact Wy
    generalize (J.up (3 * l[k].label)).step=J2 at hj2 hstep ⊢
    have hj3:=hj2.up (3 * l[k].label+1)
    have cr:=i1 hr1 _ _ hj3 (by omega)
    have hg2:=getD_ok hj2 (3 * l[k].label+1).toNat
    have hl2:=hj2.len
    refine jc_anyB 12 none O k_ k_ (Zz ?_)
    refine T_ (an_ (M_ O (F_ O (L_ 6 O (o_ O (bi_ [1,0,0,0,0,0] O O cr (ak_ (ay_ (Zk ?_)))))))))
    refine jq_againS (i:=k) (k+1) hltk g_ ?_ ?_
    ·rw [hstep]
     refine Zp ?_
     exact Wx
    ·exact Ww
  rw [if_neg hk3] at hr hcs hstep
  by_cases hk4:l[k].kind=4
  ·rw [if_pos hk4] at hr hcs hstep
   simp only [Bool.and_eq_true,decide_eq_true_eq] at hr
   obtain ⟨⟨⟨hr0,hl0⟩,hl12⟩,hr1⟩:=hr
   have hrv:=hd0_row hr0
   have hg:=getD_ok hj1 (3 * l[k].label).toNat
   have hln:=hj1.len
   have hj2:(J.up (3 * l[k].label)).ok ma mb (N+Sm.csts (l.take k)+1):=hj1.up _
   have hF:=whI_ok (AM:=AM) (c:=hd0 l[k].value) (lb:=l[k].label) (body:=runL AM l[k].thn) (B:=Sm.csts l[k].thn) (fun N j h=>runL_ok AM l[k].thn N j h) l[k].max.toNat _ _ hj2
   generalize hFe:whI AM (hd0 l[k].value) l[k].label (runL AM l[k].thn) l[k].max.toNat (J.up (3 * l[k].label))=F at hF hstep
   refine Yu ?_
   refine Zb (fun hlen=>?_)
   refine R_ (M_ O (M_ O (Zq ?_)))
   refine Yt (fun bl=>?_)
   refine YB ?_
   refine Zc ?_
   refine E_ O ?_
   refine T_ (ap_ O w_ (Zc ?_))
   refine E_ O (T_ (aq_ O u_ (am_ (jc_anyB 11 none O k_ k_ (yM_ O (yN_ O ?_))))))
   refine yF_ O (yL_ 1 O (yF_ O (yL_ 0 O (aa_ (fun c=>cz_ O O g_ p_) (aa_ (fun c=>ow_indexI 2 O O O g_ O p_) (aa_ (fun c=>ow_loadI 2 O O O g_ p_) (aa_ (fun c=>bj_ O O g_ p_) (aa_ (fun c=>ow_indexI 2 O O O g_ O p_) (ae_ (afin_none (ag_ (ow_storeI 2 O O O g_ O (T_ (am_ (R_ (E_ O ?_))))))))))))))))
   refine T_ (jc_cut (ι:=Unit) [] (fun _=>True) (fun _=>[(0,Ptr bj),(1,.cell (.list (l.map Sm.row))),(4,In .i64 (k:Int)),(5,Ptr bl)]) (fun _=>JobH bj bv ba va vb vc AM F ++ [.blk bl 66 l[k].row']) ?_ ?_)
   ·refine au_ ?_
    refine jc_loopS (ι:=Nat × Jb) [] (fun i=>i.1≤l[k].max.toNat∧whI AM (hd0 l[k].value) l[k].label (runL AM l[k].thn) (l[k].max.toNat - i.1) i.2=F∧i.2.ok ma mb (N+Sm.csts (l.take k)+1+i.1 * (2+Sm.csts l[k].thn))) (fun i=>(8,In .i64 (i.1:Int)) :: [(0,Ptr bj),(1,.cell (.list (l.map Sm.row))),(4,In .i64 (k:Int)),(5,Ptr bl)]) (fun i=>JobH bj bv ba va vb vc AM i.2 ++ [.blk bl 66 l[k].row']) (fun i=>l[k].max.toNat - i.1) (0,J.up (3 * l[k].label)) ⟨Nat.zero_le _,hFe,by rw [Nat.zero_mul]; exact hj2⟩ ?_ ?_ ?_
    ·refine bc_ 2 O (bc_ 0 O (Yz ?_))
     exact Wy
    ·exact Ww
    rintro ⟨n,G⟩ hz
    dsimp only at hz ⊢
    obtain ⟨hn,hG,hok⟩:=hz
    by_cases hlt:(n:Int) < l[k].max
    ·have hb2:n * (2+Sm.csts l[k].thn)+(2+Sm.csts l[k].thn)≤l[k].max.toNat * (2+Sm.csts l[k].thn):=by
      rw [← Nat.succ_mul]
      exact Nat.mul_le_mul_right _ g_
     have hnn:n≤n * (2+Sm.csts l[k].thn):=Nat.le_mul_of_pos_right _ (by omega)
     have hst:=hok.st
     have hok2:=hok.step
     have cv:=rvalue6_c (bj:=bj) (bv:=bv) (ba:=ba) (va:=va) (vb:=vb) (vc:=vc) (G.step) (small_arr (AM:=AM) (hok2) ha hb') (hd0 l[k].value)
     rw [show l[k].max.toNat - n=(l[k].max.toNat - (n+1))+1 by omega,whI] at hG
     by_cases hz0:evJ AM G.step (hd0 l[k].value)=0
     ·rw [if_pos hz0] at hG
      refine am_ (R_ (M_ O (F_ O (L_ 6 O (o_ O (bw_ O O (T_ (aq_ O u_ (as_ (al_ (B_ (R_ (YF ?_)))))))))))))
      refine o_ O (bj_ O O g_ (N_ O (F_ O (W_ 0 O (T_ (am_ (R_ (M_ O (F_ O (L_ 6 O (YZ ?_)))))))))))
      refine bi_ [0,1,1,1,1] O O cv (o_ O (bn_ O O (T_ (aq_ O u_ ?_))))
      refine av_ (ax_ (bb_ O (ax_ (ax_ (ba_ (jq_cutS () trivial ?_ ?_))))))
      ·rw [← hG]
       refine bc_ 0 O (bc_ 4 O (Zp ?_))
       exact Wy
      ·exact Ww
     ·rw [if_neg hz0] at hG
      refine am_ (R_ (M_ O (F_ O (L_ 6 O (o_ O (bw_ O O (T_ (aq_ O u_ (as_ (al_ (B_ (R_ (YF ?_)))))))))))))
      refine o_ O (bj_ O O g_ (N_ O (F_ O (W_ 0 O (T_ (am_ (R_ (M_ O (F_ O (L_ 6 O (YZ ?_)))))))))))
      refine bi_ [0,1,1,1,1] O O cv (o_ O (bn_ O O (T_ (ap_ O w_ ?_))))
      refine as_ (al_ (am_ ?_))
      clear cv hz0
      refine jc_reset ((8,In .i64 (n:Int)) :: [(0,Ptr bj),(1,.cell (.list (l.map Sm.row))),(4,In .i64 (k:Int)),(5,Ptr bl)]) (JobH bj bv ba va vb vc AM (G.step) ++ [.blk bl 66 l[k].row']) ?_ ?_ ?_
      ·exact Ww
      ·refine bc_ 0 O (bc_ 4 O (Zp ?_))
       exact Wy
      generalize G.step=G2 at hok2 hG ⊢
      have cr:=i1 hr1 _ _ (hok2.up (3 * l[k].label+1)) (by omega)
      have hok3:=runL_ok AM l[k].thn _ _ (hok2.up (3 * l[k].label+1))
      have hl2:=hok2.len
      have hg2:=getD_ok hok2 (3 * l[k].label+1).toNat
      refine jc_anyB 12 none O k_ k_ (Zz ?_)
      refine T_ (an_ (M_ O (F_ O (L_ 6 O (o_ O (bi_ [1,0,0,0,0,0] O O cr (ak_ (Zk ?_))))))))
      refine jq_againS (i:=(n,G)) (n+1,runL AM l[k].thn (G2.up (3 * l[k].label+1))) ⟨by omega,hG,hok3.mono (by rw [Nat.succ_mul]; omega)⟩ (by dsimp only; omega) ?_ ?_
      ·refine Zp ?_
       exact WG
      ·exact Ww
    ·rw [show l[k].max.toNat - n=0 by omega,whI] at hG
     refine am_ (R_ (M_ O (F_ O (L_ 6 O (o_ O (bw_ O O (T_ (ap_ O w_ (av_ (ax_ (ax_ (ba_ (jq_cutS () trivial ?_ ?_)))))))))))))
     ·rw [← hG]
      refine Zp ?_
      exact WG
     ·exact Ww
   ·intro _ _
    have hgF:=getD_ok hF (3 * l[k].label+2).toNat
    have hlF:=hF.len
    skip
    refine jc_anyB 12 none O k_ k_ (Zz ?_)
    refine ak_ (ay_ (Zk ?_))
    refine jq_againS (i:=k) (k+1) hltk g_ ?_ ?_
    ·rw [hstep]
     refine bc_ 1 O (Zp ?_)
     exact Wy
    ·exact Ww
  rw [if_neg hk4] at hr hcs hstep
  by_cases hk5:l[k].kind=5
  ·rw [if_pos hk5] at hr hcs hstep
   have cr:=i1 hr _ _ hj1 (by omega)
   refine Yu ?_
   refine Zb (fun hlen=>?_)
   refine R_ (M_ O (M_ O (Zq ?_)))
   refine Yt (fun bl=>?_)
   refine YB ?_
   refine Zc ?_
   refine E_ O ?_
   refine T_ (ap_ O w_ (Zc ?_))
   refine E_ O (T_ (ap_ O w_ (Zu ?_)))
   refine aq_ O u_ (an_ (M_ O (F_ O (L_ 0 O (o_ O (bi_ [1,1,1,1,1,1] O O cr (ak_ (ay_ (Zk ?_)))))))))
   refine jq_againS (i:=k) (k+1) hltk g_ ?_ ?_
   ·rw [hstep]
    refine Zp ?_
    exact Wx
   ·exact Ww
  rw [if_neg hk5] at hcs hstep
  refine Yu ?_
  refine Zb (fun hlen=>?_)
  refine R_ (M_ O (M_ O (Zq ?_)))
  refine Yt (fun bl=>?_)
  refine YB ?_
  refine Zc ?_
  refine E_ O ?_
  refine T_ (ap_ O w_ (Zc ?_))
  refine E_ O (T_ (ap_ O w_ (Zu ?_)))
  refine ap_ O w_ (as_ (ay_ (Zk ?_)))
  refine jq_againS (i:=k) (k+1) hltk g_ ?_ ?_
  ·rw [hstep]
   refine Yz ?_
   exact bc_ 1 O (bc_ 1 O sub_end)
  ·exact Ww
 ·have hltk2:¬ (k:Int) < (((l).map Sm.row).length:Int):=by omega
  rw [List.take_of_length_le (by omega)]
  refine Yu ?_
  refine Zh (fun hlen=>?_)
  refine jq_ret0S (.inr O) O (fun K h=>h) (Y8 ?_)
  exact WG
end
end Go.Proofs.YtalkkcfojplmdaaGreatDoor
end
section
namespace Go.Proofs.YtalkkcfojplmdaaGreatDoor
open Go.Vc
attribute [local irreducible] JL JC JQ OpWp Con ConN HOk
attribute [local irreducible] evJ evF Jb.arr
set_option maxHeartbeats 4000000
section
variable {bj bv ba:Nat} {va vb vc:Value} {AM:AMt} {ma mb N:Nat}
end
end Go.Proofs.YtalkkcfojplmdaaGreatDoor
end
section
namespace Go.Proofs.YtalkkcfojplmdaaGreatDoor
open Go.Vc
attribute [local irreducible] JL JC JQ OpWp Con ConN
attribute [local irreducible] byteAt runLen isL isD isName hasW
set_option maxHeartbeats 4000000
theorem namedB_c (s:ByteArray):Con Tryz.prog 133 [Str s] [] (fun K=>K (Bl (nameB s)) []):=by
 refine con_intro Tryz.func133 O O b_ (fun c hc=>R_ (YX ?_))
 refine bm_ O (Name_c _) (M_ O (jl_and 3 2 O O O O (nb O) ?_))
 apply Exists.intro
 refine ⟨fun hb1=>?_,?_⟩
 refine Z8 ?_
 exact bm_ O (Keyword_c _) (ah_ O h_ b_ (cd_ O (ak_ (jq_seg 3 O O O (List.Perm.refl _)))))
 refine E_ O (T_ (ar_ (jq_ret1 O O [] O (fun K h=>h))))
theorem plainL_c (l:List Int):Con Tryz.prog 134 [.cell (.list (l.map Irow))] [] (fun K=>K (Bl (l.all plainB)) []):=by
 have eL:(l.map Irow).length=l.length:=List.length_map _
 refine con_intro Tryz.func134 O O b_ (fun c hc=>ZV ?_)
 refine br_ O (fun hlen=>M_ O (T_ (au_ (jc_loopS (ι:=Nat) [] (fun k=>k≤l.length∧(l.take k).all plainB=true) (fun k=>[(5,.cell (.list (l.map Irow))),(6,In .i64 ((l.map Irow).length:Int)),(7,In .i64 (k:Int))]) (fun _=>[]) (fun k=>l.length - k) 0 ⟨Nat.zero_le _,rfl⟩ ?_ ?_ ?_))))
 ·exact sub_end
 ·exact Ww
 rintro k ⟨hk,hall⟩
 by_cases hlt:k < l.length
 ·have hlt2:(k:Int) < ((l.map Irow).length:Int):=by omega
  refine Zj ?_
  refine ZI ?_
  refine cb_ O O (YX ?_)
  refine bw_ O O ?_
  refine M_ O (jl_or 2 2 O O O O (nb O) ?_)
  apply Exists.intro
  refine ⟨fun hb1=>?_,?_⟩
  refine Z8 ?_
  exact bz_ O O (ak_ (jq_seg 2 O O O (List.Perm.refl _)))
  refine T_ (jc_cond O (fun hn=>?_) (fun hy=>?_))
  ·have hp:plainB l[k]=false:=by
    unfold plainB
    simp only [Bool.or_eq_true,decide_eq_true_eq] at hn
    simp only [Bool.and_eq_false_iff,decide_eq_false_iff_not]
    omega
   have hno:=all_no hlt hp
   refine Zr ?_
   refine aw_ (jq_ret1 O O [] O (fun K h=>by rw [hno] at h; exact h))
  ·have hp:plainB l[k]=true:=by
    unfold plainB
    simp only [Bool.or_eq_false_iff,decide_eq_false_iff_not] at hy
    simp only [Bool.and_eq_true,decide_eq_true_eq]
    omega
   refine as_ (Zx ?_)
   refine jq_againS (k+1) ⟨hlt,all_snoc hlt hall hp⟩ g_ ?_ ?_
   ·exact sub_end
   ·exact Ww
 ·have hlt2:¬ (k:Int) < ((l.map Irow).length:Int):=by omega
  rw [List.take_of_length_le (by omega)] at hall
  refine R_ (o_ O (Zl ?_))
  refine al_ (R_ (E_ O (T_ (ar_ (jq_ret1 O O [] O (fun K h=>by rw [hall] at h; exact h))))))
theorem signedL_c (l:List Int):Con Tryz.prog 184 [.cell (.list (l.map Irow))] [] (fun K=>K (Bl (l.all smallB)) []):=by
 have eL:(l.map Irow).length=l.length:=List.length_map _
 refine con_intro Tryz.func184 O O b_ (fun c hc=>ZV ?_)
 refine br_ O (fun hlen=>M_ O (T_ (au_ (jc_loopS (ι:=Nat) [] (fun k=>k≤l.length∧(l.take k).all smallB=true) (fun k=>[(5,.cell (.list (l.map Irow))),(6,In .i64 ((l.map Irow).length:Int)),(7,In .i64 (k:Int))]) (fun _=>[]) (fun k=>l.length - k) 0 ⟨Nat.zero_le _,rfl⟩ ?_ ?_ ?_))))
 ·exact sub_end
 ·exact Ww
 rintro k ⟨hk,hall⟩
 by_cases hlt:k < l.length
 ·have hlt2:(k:Int) < ((l.map Irow).length:Int):=by omega
  refine Zj ?_
  refine ZI ?_
  refine cb_ O O (YX ?_)
  refine bw_ O O ?_
  refine M_ O (jl_or 2 2 O O O O (nb O) ?_)
  apply Exists.intro
  refine ⟨fun hb1=>?_,?_⟩
  refine Z8 ?_
  exact bz_ O O (ak_ (jq_seg 2 O O O (List.Perm.refl _)))
  refine T_ (jc_cond O (fun hn=>?_) (fun hy=>?_))
  ·have hp:smallB l[k]=false:=by
    unfold smallB
    simp only [Bool.or_eq_true,decide_eq_true_eq] at hn
    simp only [Bool.and_eq_false_iff,decide_eq_false_iff_not]
    omega
   have hno:=all_no hlt hp
   refine Zr ?_
   refine aw_ (jq_ret1 O O [] O (fun K h=>by rw [hno] at h; exact h))
  ·have hp:smallB l[k]=true:=by
    unfold smallB
    simp only [Bool.or_eq_false_iff,decide_eq_false_iff_not] at hy
    simp only [Bool.and_eq_true,decide_eq_true_eq]
    omega
   refine as_ (Zx ?_)
   refine jq_againS (k+1) ⟨hlt,all_snoc hlt hall hp⟩ g_ ?_ ?_
   ·exact sub_end
   ·exact Ww
 ·have hlt2:¬ (k:Int) < ((l.map Irow).length:Int):=by omega
  rw [List.take_of_length_le (by omega)] at hall
  refine R_ (o_ O (Zl ?_))
  refine al_ (R_ (E_ O (T_ (ar_ (jq_ret1 O O [] O (fun K h=>by rw [hall] at h; exact h))))))
def signA (o:Int):ByteArray:=if 1≤o∧o≤14 then signT o else ⟨#[]⟩
theorem signA_c (o:Int):Con Tryz.prog 227 [In .i64 o] [] (fun K=>K (Str (signA o)) []):=by
 by_cases h:1≤o∧o≤14
 ·have:=Sign_c o h
  unfold signA
  rw [if_pos h]
  exact this
 ·have e:signA o=⟨#[]⟩:=by unfold signA; rw [if_neg h]
  refine con_intro Tryz.func227 O O b_ (fun c hc=>?_)
  by_cases h1:o < 1
  ·refine ZV ?_
   refine bw_ O O (M_ O (ai_ O u_ b_ (ai_ O u_ b_ (o_ O (bp_ O u_ O (T_ (aq_ O O (R_ (E_ O (T_ ?_))))))))))
   refine ar_ (aw_ (jq_ret1 O O [] O (fun K h=>by rw [e] at h; exact h)))
  ·have h2:o > 14:=by omega
   refine ZV ?_
   refine YQ ?_
   refine bz_ O O (o_ O (bv_ O w_ O (T_ (aq_ O u_ (R_ (E_ O (T_ ?_)))))))
   refine ar_ (aw_ (jq_ret1 O O [] O (fun K h=>by rw [e] at h; exact h)))
theorem signA_ne (o:Int):(!decide (signA o=⟨#[]⟩))=(decide (1≤o) && decide (o≤14)):=by
 by_cases h:1≤o∧o≤14
 ·have:=str_ne h
  unfold signA
  rw [if_pos h,decide_eq_false this,decide_eq_true h.1,decide_eq_true h.2]
  rfl
 ·unfold signA
  rw [if_neg h,decide_eq_true rfl]
  symm
  rw [Bool.not_true,Bool.and_eq_false_iff,decide_eq_false_iff_not,decide_eq_false_iff_not]
  omega
def shHd:T→Bool
 | .nu n=>smallB n
 | .nm s=>nameB s
 | .ix s _=>nameB s
 | .bn o _ _=>decide (1≤o) && decide (o≤14)
theorem shp_hd (F:Nat) (t:T):shpF (F+1) t=(shHd t && t.args.all (shpF F)):=by
 cases t <;> simp [shpF,shHd,T.args,Bool.and_assoc]
theorem shapedB_c:∀ (F:Nat) (t:T),F≤20→Con Tryz.prog 186 [.row t.row',In .i64 (21 - (F:Int))] [] (fun K=>K (Bl (shpF F t)) []):=by
 intro F
 induction F with
 | zero =>
  intro t _
  refine con_intro Tryz.func186 O O b_ (fun c hc=>ZD (fun bx=>?_))
  refine M_ O (o_ O (bz_ O O (ZK ?_)))
  refine aw_ ?_
  refine jq_ret1 O O [] O (fun K h=>h)
 | succ F ih =>
  intro t hF
  have eA:(t.args.map T.row).length=t.args.length:=List.length_map _
  have hF1:(21 - ((F+1:Nat):Int)+1)=21 - (F:Int):=by omega
  have hF2:¬ 20 < (21 - ((F+1:Nat):Int)):=by omega
  have hF3:0≤(21 - ((F+1:Nat):Int))∧(21 - ((F+1:Nat):Int))≤20:=by omega
  have ih:=fun x=>ih x (by omega)
  rw [← hF1] at ih
  have hsh:=shp_hd F t
  generalize (21 - ((F+1:Nat):Int))=d at hF1 hF2 hF3 ih ⊢
  refine con_intro Tryz.func186 O O b_ (fun c hc=>ZD (fun bx=>?_))
  refine M_ O (Ws ?_)
  refine al_ (R_ (F_ O (L_ 0 O ?_)))
  refine o_ O (bn_ O O (M_ O (jl_and 3 3 O O O O (nb O) ?_)))
  apply Exists.intro
  refine ⟨fun hb1=>?_,?_⟩
  refine Za ?_
  exact Wz
  refine E_ O (T_ (R_ (E_ O (T_ (am_ (R_ (F_ O (L_ 0 O (T_ (jc_cut (ι:=Unit) [] (fun _=>True) (fun _=>[(1,In .i64 d),(2,.cell (.val (.pointer (some ⟨bx,0,none⟩)))),(6,Bl (shHd t))]) (fun _=>[.blk bx 69 t.row']) ?_ ?_))))))))))
  ·clear ih eA hsh
   cases t with
   | nu n =>
    refine au_ (Zu ?_)
    refine aq_ O x_ (an_ (F_ O (L_ 0 O (YK ?_))))
    refine bm_ O (signedL_c [n]) (M_ O (jl_and 3 4 O O O O (nb O) ?_))
    apply Exists.intro
    refine ⟨fun hb1=>?_,?_⟩
    refine Za ?_
    exact cs_ O O (ak_ (jq_seg 3 O O O (List.Perm.refl _)))
    refine M_ O (jl_and 3 9 O O O O (nb O) ?_)
    apply Exists.intro
    refine ⟨fun hb1=>?_,?_⟩
    refine Za ?_
    exact Wz
    refine M_ O (jl_and 4 14 O O O O (nb O) ?_)
    apply Exists.intro
    refine ⟨fun hb1=>?_,?_⟩
    refine Za ?_
    refine YH (fun hlen=>?_)
    exact WA
    refine E_ O (ak_ (ay_ (jq_bl 6 O (b':=shHd (.nu n)) (by simp [shHd,T.name,T.op,T.args]) (jq_cutS () trivial ?_ ?_))))
    ·exact Wy
    ·exact Ww
   | nm s =>
    refine au_ (Zu ?_)
    refine ap_ O O (Zu ?_)
    refine aq_ O x_ (an_ (F_ O (L_ 0 O (o_ O (bm_ O (namedB_c _) (M_ O ?_))))))
    refine jl_and 1 3 O O O O (nb O) ?_
    apply Exists.intro
    refine ⟨fun hb1=>?_,?_⟩
    exact WM
    refine M_ O (jl_and 4 6 O O O O (nb O) ?_)
    apply Exists.intro
    refine ⟨fun hb1=>?_,?_⟩
    refine Za ?_
    refine YH (fun hlen=>?_)
    exact WA
    refine E_ O (ak_ (ay_ (jq_bl 6 O (b':=shHd (.nm s)) (by simp [shHd,T.num,T.name,T.op,T.args]) (jq_cutS () trivial ?_ ?_))))
    ·exact Wy
    ·exact Ww
   | ix s t =>
    refine au_ (Zu ?_)
    refine ap_ O O (Zu ?_)
    refine ap_ O O (Zu ?_)
    refine aq_ O x_ ?_
    refine an_ (F_ O (L_ 0 O (o_ O (bm_ O (namedB_c _) (M_ O (jl_and 1 3 O O O O (nb O) ?_))))))
    apply Exists.intro
    refine ⟨fun hb1=>?_,?_⟩
    exact WM
    refine M_ O (jl_and 4 6 O O O O (nb O) ?_)
    apply Exists.intro
    refine ⟨fun hb1=>?_,?_⟩
    refine Za ?_
    refine YH (fun hlen=>?_)
    exact WA
    refine E_ O (ak_ (ay_ (jq_bl 6 O (b':=shHd (.ix s t)) (by simp [shHd,T.num,T.name,T.op,T.args]) (jq_cutS () trivial ?_ ?_))))
    ·exact Wy
    ·exact Ww
   | bn o a b =>
    have hne:decide (¬ signA o=⟨#[]⟩)=(decide (1≤o) && decide (o≤14)):=by rw [← signA_ne,decide_not]
    refine au_ (Zu ?_)
    refine ap_ O O (Zu ?_)
    refine ap_ O O (Zu ?_)
    refine ap_ O O ?_
    refine Zu ?_
    refine aq_ O x_ (an_ (F_ O (L_ 0 O (o_ O (bm_ O (signA_c _) (o_ O (ct_ O O (M_ O (jl_and 3 4 O O O O (nb O) ?_)))))))))
    apply Exists.intro
    refine ⟨fun hb1=>?_,?_⟩
    refine Za ?_
    exact Wz
    refine M_ O (jl_and 3 9 O O O O (nb O) ?_)
    apply Exists.intro
    refine ⟨fun hb1=>?_,?_⟩
    refine Za ?_
    exact cs_ O O (ak_ (jq_seg 3 O O O (List.Perm.refl _)))
    refine M_ O (jl_and 4 14 O O O O (nb O) ?_)
    apply Exists.intro
    refine ⟨fun hb1=>?_,?_⟩
    refine Za ?_
    refine YH (fun hlen=>?_)
    exact WA
    refine E_ O (ak_ (ay_ (jq_bl 6 rfl (b':=shHd (.bn o a b)) (by rw [shHd,← hne]; by_cases hz:signA o=⟨#[]⟩ <;> simp [T.num,T.name,T.op,T.args,hz]) (jq_cutS () trivial ?_ ?_))))
    ·exact Wy
    ·exact Ww
  ·intro _ _
   refine am_ (Yh ?_)
   refine br_ O (fun hlen=>M_ O (T_ (au_ (jc_loopS (ι:=Nat) [] (fun k=>k≤t.args.length) (fun k=>[(1,In .i64 d),(6,Bl (shHd t && (t.args.take k).all (shpF F))),(94,.cell (.list (t.args.map T.row))),(95,In .i64 ((t.args.map T.row).length:Int)),(96,In .i64 (k:Int))]) (fun _=>[]) (fun k=>t.args.length - k) 0 (Nat.zero_le _) ?_ ?_ ?_))))
   ·exact sub_end
   ·rw [show (shHd t && (t.args.take 0).all (shpF F))=shHd t by simp]
    exact Ww
   intro k hk
   by_cases hlt:k < t.args.length
   ·have hlt2:(k:Int) < ((t.args.map T.row).length:Int):=by omega
    have ih1:=ih t.args[k]
    have e1:(shHd t && (t.args.take (k+1)).all (shpF F))=((shHd t && (t.args.take k).all (shpF F)) && shpF F t.args[k]):=by
     rw [List.take_succ_eq_append_getElem hlt,List.all_append,Bool.and_assoc]
     simp
    generalize (shHd t && (t.args.take k).all (shpF F))=z at e1 ⊢
    refine Zj ?_
    refine Zy ?_
    refine Yt (fun bl=>?_)
    refine an_ (M_ O ?_)
    refine M_ O (jl_and 4 1 O O O O (nb O) ?_)
    apply Exists.intro
    refine ⟨fun hb1=>?_,?_⟩
    refine ah_ O h_ b_ (bs_ 0 O O O O (Z8 ?_))
    exact bj_ O O g_ (ah_ O h_ b_ (bm_ O (ih1) (ak_ (jq_seg 4 O O O (List.Perm.refl _)))))
    refine E_ O (ak_ (Zx ?_))
    refine jq_againS (k+1) hlt g_ ?_ ?_
    ·exact sub_end
    ·rw [e1]
     exact Ww
   ·have hlt2:¬ (k:Int) < ((t.args.map T.row).length:Int):=by omega
    rw [List.take_of_length_le (show t.args.length≤k by omega),← hsh]
    refine R_ (o_ O (Zl ?_))
    refine al_ (R_ (M_ O (E_ O (T_ (ar_ (jq_ret1 O O [] O (fun K h=>h)))))))
end Go.Proofs.YtalkkcfojplmdaaGreatDoor
end
section
namespace Go.Proofs.YtalkkcfojplmdaaGreatDoor
open Go.Vc
attribute [local irreducible] JL JC JQ OpWp Con ConN
attribute [local irreducible] byteAt runLen isL isD isName hasW
set_option maxHeartbeats 4000000
def rightB (s:Sm):Bool :=
 if s.kind=1 then nameB s.name && decide (s.index.length=0) && decide (s.value.length=1) && (decide (s.max=0) && decide (s.label=0)) && decide (s.thn.length+s.els.length=0)
 else if s.kind=2 then nameB s.name && decide (s.index.length=1) && decide (s.value.length=1) && (decide (s.max=0) && decide (s.label=0)) && decide (s.thn.length+s.els.length=0)
 else if s.kind=3 then decide (s.name=⟨#[]⟩) && decide (s.index.length=0) && decide (s.value.length=1) && decide (s.max=0) && plainB s.label
 else if s.kind=4 then decide (s.name=⟨#[]⟩) && decide (s.index.length=0) && decide (s.value.length=1) && (plainB s.max && plainB s.label) && decide (s.els.length=0)
 else if s.kind=5 then nameB s.name && decide (s.index.length=0) && decide (s.value.length=0) && (decide (s.max=0) && decide (s.label=0)) && decide (s.els.length=0)
 else false
theorem wrap0 (a b:Nat) (ha:a≤9223372036854775807) (hb:b≤9223372036854775807):decide (IntKind.i64.wrap ((a:Int)+(b:Int))=0)=decide (a+b=0):=by
 rw [decide_eq_decide]
 simp only [IntKind.wrap,IntKind.bits,IntKind.signed]
 simp
 omega
theorem right_c (s:Sm):Con Tryz.prog 185 [.row s.row'] [] (fun K=>K (Bl (rightB s)) []):=by
 have eI:(s.index.map T.row).length=s.index.length:=List.length_map _
 have eV:(s.value.map T.row).length=s.value.length:=List.length_map _
 have eT:(s.thn.map Sm.row).length=s.thn.length:=List.length_map _
 have eE:(s.els.map Sm.row).length=s.els.length:=List.length_map _
 have d0:∀ n:Nat,decide ((n:Int)=0)=decide (n=0):=fun n=>by rw [decide_eq_decide]; omega
 have d1:∀ n:Nat,decide ((n:Int)=1)=decide (n=1):=fun n=>by rw [decide_eq_decide]; omega
 refine con_intro Tryz.func185 O O b_ (fun c hc=>?_)
 have hk:s.kind=1 ∨ s.kind=2 ∨ s.kind=3 ∨ s.kind=4 ∨ s.kind=5 ∨ ¬ (s.kind=1 ∨ s.kind=2 ∨ s.kind=3 ∨ s.kind=4 ∨ s.kind=5):=by omega
 rcases hk with hk | hk | hk | hk | hk | hk
 ·have e:rightB s=_:=if_pos hk
  refine Wv (fun bx=>?_)
  refine Yh ?_
  refine br_ O (fun hlen=>YV (fun hlen=>?_))
  refine YT ?_
  refine jl_and 3 3 O O O O (nb O) ?_
  apply Exists.intro
  refine ⟨fun hb1=>?_,?_⟩
  refine Za ?_
  exact Wz
  refine E_ O (T_ (am_ (YB ?_)))
  refine Zu ?_
  refine aq_ O u_ (R_ (F_ O (L_ 0 O ?_)))
  refine o_ O (bm_ O (namedB_c _) (M_ O (jl_and 4 3 O O O O (nb O) ?_)))
  apply Exists.intro
  refine ⟨fun hb1=>?_,?_⟩
  refine Za ?_
  refine YH (fun hlen=>?_)
  exact WA
  refine M_ O (jl_and 4 9 O O O O (nb O) ?_)
  apply Exists.intro
  refine ⟨fun hb1=>?_,?_⟩
  refine Za ?_
  refine YH (fun hlen=>?_)
  exact WA
  refine M_ O (jl_and 1 15 O O O O (nb O) ?_)
  apply Exists.intro
  refine ⟨fun hb1=>?_,?_⟩
  exact WM
  refine M_ O (jl_and 1 18 O O O O (nb O) ?_)
  apply Exists.intro
  refine ⟨fun hb1=>?_,?_⟩
  exact WM
  refine E_ O (T_ (ar_ (az_ (aw_ (jq_bl 2 O (b':=rightB s) ?_ ?_)))))
  ·rw [e,wrap0 (s.thn.map Sm.row).length (s.els.map Sm.row).length (by assumption) (by assumption),d0,d1,eI,eV,eT,eE]
  refine jq_ret1 O O [] O (fun K h=>h)
 ·have e:rightB s=_:=(if_neg (by omega)).trans (if_pos hk)
  refine Wv (fun bx=>?_)
  refine Yh ?_
  refine br_ O (fun hlen=>YV (fun hlen=>?_))
  refine YT ?_
  refine jl_and 3 3 O O O O (nb O) ?_
  apply Exists.intro
  refine ⟨fun hb1=>?_,?_⟩
  refine Za ?_
  exact Wz
  refine E_ O (T_ (am_ (YB ?_)))
  refine Zu ?_
  refine ap_ O v_ (R_ (o_ O (bn_ O O (E_ O ?_))))
  refine T_ (aq_ O u_ (Yh ?_))
  refine bm_ O (namedB_c _) (M_ O (jl_and 4 3 O O O O (nb O) ?_))
  apply Exists.intro
  refine ⟨fun hb1=>?_,?_⟩
  refine Za ?_
  refine YH (fun hlen=>?_)
  exact WA
  refine M_ O (jl_and 4 9 O O O O (nb O) ?_)
  apply Exists.intro
  refine ⟨fun hb1=>?_,?_⟩
  refine Za ?_
  refine YH (fun hlen=>?_)
  exact WA
  refine M_ O (jl_and 1 15 O O O O (nb O) ?_)
  apply Exists.intro
  refine ⟨fun hb1=>?_,?_⟩
  exact WM
  refine M_ O (jl_and 1 18 O O O O (nb O) ?_)
  apply Exists.intro
  refine ⟨fun hb1=>?_,?_⟩
  exact WM
  refine E_ O (T_ (ar_ (az_ (aw_ (jq_bl 2 O (b':=rightB s) ?_ ?_)))))
  ·rw [e,wrap0 (s.thn.map Sm.row).length (s.els.map Sm.row).length (by assumption) (by assumption),d1,d1,eI,eV,eT,eE]
  refine jq_ret1 O O [] O (fun K h=>h)
 ·have e:rightB s=_:=(if_neg (by omega)).trans ((if_neg (by omega)).trans (if_pos hk))
  refine Wv (fun bx=>?_)
  refine Yh ?_
  refine br_ O (fun hlen=>YV (fun hlen=>?_))
  refine YT ?_
  refine jl_and 3 3 O O O O (nb O) ?_
  apply Exists.intro
  refine ⟨fun hb1=>?_,?_⟩
  refine Za ?_
  exact Wz
  refine E_ O (T_ (am_ (YB ?_)))
  refine Zu ?_
  refine ap_ O v_ (R_ (o_ O (bn_ O O (E_ O ?_))))
  refine T_ (ap_ O v_ (Zu ?_))
  refine aq_ O u_ (Yh ?_)
  refine cs_ O O (M_ O (jl_and 4 3 O O O O (nb O) ?_))
  apply Exists.intro
  refine ⟨fun hb1=>?_,?_⟩
  refine Za ?_
  refine YH (fun hlen=>?_)
  exact WA
  refine M_ O (jl_and 4 9 O O O O (nb O) ?_)
  apply Exists.intro
  refine ⟨fun hb1=>?_,?_⟩
  refine Za ?_
  refine YH (fun hlen=>?_)
  exact WA
  refine M_ O (jl_and 3 15 O O O O (nb O) ?_)
  apply Exists.intro
  refine ⟨fun hb1=>?_,?_⟩
  refine Za ?_
  exact Wz
  refine M_ O (jl_and 4 20 O O O O (nb O) ?_)
  apply Exists.intro
  refine ⟨fun hb1=>?_,?_⟩
  refine Za ?_
  exact bq_ O O b_ O O b_ (ah_ O h_ b_ (bm_ O (plainL_c [s.label]) (ak_ (jq_seg 4 O O O (List.Perm.refl _)))))
  refine E_ O (T_ (ar_ (az_ (aw_ (jq_bl 2 O (b':=rightB s) ?_ ?_)))))
  ·rw [e,d0,d1,eI,eV]
   simp [Bool.and_assoc]
  refine jq_ret1 O O [] O (fun K h=>h)
 ·have e:rightB s=_:=(if_neg (by omega)).trans ((if_neg (by omega)).trans ((if_neg (by omega)).trans (if_pos hk)))
  refine Wv (fun bx=>?_)
  refine Yh ?_
  refine br_ O (fun hlen=>YV (fun hlen=>?_))
  refine YT ?_
  refine jl_and 3 3 O O O O (nb O) ?_
  apply Exists.intro
  refine ⟨fun hb1=>?_,?_⟩
  refine Za ?_
  exact Wz
  refine E_ O (T_ (am_ (YB ?_)))
  refine Zu ?_
  refine ap_ O v_ (R_ (o_ O (bn_ O O (E_ O ?_))))
  refine T_ (ap_ O v_ (Zu ?_))
  refine ap_ O v_ (Zu ?_)
  refine aq_ O u_ (Yh ?_)
  refine cs_ O O ?_
  refine M_ O (jl_and 4 3 O O O O (nb O) ?_)
  apply Exists.intro
  refine ⟨fun hb1=>?_,?_⟩
  refine Za ?_
  refine YH (fun hlen=>?_)
  exact WA
  refine M_ O (jl_and 4 9 O O O O (nb O) ?_)
  apply Exists.intro
  refine ⟨fun hb1=>?_,?_⟩
  refine Za ?_
  refine YH (fun hlen=>?_)
  exact WA
  refine M_ O (jl_and 6 15 O O O O (nb O) ?_)
  apply Exists.intro
  refine ⟨fun hb1=>?_,?_⟩
  refine Za ?_
  refine Ye ?_
  exact bq_ O O b_ O O b_ (ah_ O h_ b_ (bm_ O (plainL_c [s.max,s.label]) (ak_ (jq_seg 6 O O O (List.Perm.refl _)))))
  refine M_ O (jl_and 4 23 O O O O (nb O) ?_)
  apply Exists.intro
  refine ⟨fun hb1=>?_,?_⟩
  refine Za ?_
  refine YH (fun hlen=>?_)
  exact WA
  refine E_ O (T_ (ar_ (az_ (aw_ (jq_bl 2 O (b':=rightB s) ?_ ?_)))))
  ·rw [e,d0,d1,d0,eI,eV,eE]
   simp [Bool.and_assoc]
  refine jq_ret1 O O [] O (fun K h=>h)
 ·have e:rightB s=_:=(if_neg (by omega)).trans ((if_neg (by omega)).trans ((if_neg (by omega)).trans ((if_neg (by omega)).trans (if_pos hk))))
  refine Wv (fun bx=>?_)
  refine Yh ?_
  refine br_ O (fun hlen=>YV (fun hlen=>?_))
  refine YT ?_
  refine jl_and 3 3 O O O O (nb O) ?_
  apply Exists.intro
  refine ⟨fun hb1=>?_,?_⟩
  refine Za ?_
  exact Wz
  refine E_ O (T_ (am_ (YB ?_)))
  refine Zu ?_
  refine ap_ O v_ (R_ (o_ O (bn_ O O (E_ O ?_))))
  refine T_ (ap_ O v_ (Zu ?_))
  refine ap_ O v_ (Zu ?_)
  refine ap_ O v_ (Zu ?_)
  refine aq_ O u_ (Yh ?_)
  refine bm_ O (namedB_c _) (M_ O (jl_and 4 3 O O O O (nb O) ?_))
  apply Exists.intro
  refine ⟨fun hb1=>?_,?_⟩
  refine Za ?_
  refine YH (fun hlen=>?_)
  exact WA
  refine M_ O (jl_and 4 9 O O O O (nb O) ?_)
  apply Exists.intro
  refine ⟨fun hb1=>?_,?_⟩
  refine Za ?_
  refine YH (fun hlen=>?_)
  exact WA
  refine M_ O (jl_and 1 15 O O O O (nb O) ?_)
  apply Exists.intro
  refine ⟨fun hb1=>?_,?_⟩
  exact WM
  refine M_ O (jl_and 4 18 O O O O (nb O) ?_)
  apply Exists.intro
  refine ⟨fun hb1=>?_,?_⟩
  refine Za ?_
  refine YH (fun hlen=>?_)
  exact WA
  refine E_ O (T_ (ar_ (az_ (aw_ (jq_bl 2 O (b':=rightB s) ?_ ?_)))))
  ·rw [e,d0,d0,d0,eI,eV,eE]
  refine jq_ret1 O O [] O (fun K h=>h)
 ·have e:rightB s=false:=(if_neg (by omega)).trans ((if_neg (by omega)).trans ((if_neg (by omega)).trans ((if_neg (by omega)).trans (if_neg (by omega)))))
  refine Wv (fun bx=>?_)
  refine Yh ?_
  refine br_ O (fun hlen=>YV (fun hlen=>?_))
  refine YT ?_
  refine jl_and 3 3 O O O O (nb O) ?_
  apply Exists.intro
  refine ⟨fun hb1=>?_,?_⟩
  refine Za ?_
  exact Wz
  refine E_ O (T_ (am_ (YB ?_)))
  refine Zu ?_
  refine ap_ O v_ (R_ (o_ O (bn_ O O (E_ O ?_))))
  refine T_ (ap_ O v_ (Zu ?_))
  refine ap_ O v_ (Zu ?_)
  refine ap_ O v_ (Zu ?_)
  refine ap_ O v_ (as_ (ay_ (al_ (R_ (E_ O (T_ (ar_ (jq_ret1 O O [] O (fun K h=>by rw [e] at h; exact h)))))))))
end Go.Proofs.YtalkkcfojplmdaaGreatDoor
end
section
namespace Go.Proofs.YtalkkcfojplmdaaGreatDoor
open Go.Vc
attribute [local irreducible] JL JC JQ OpWp Con ConN
set_option maxHeartbeats 4000000
abbrev NilV:Value:=.slice none 0 0
theorem growE_c (n:Nat) (hn:n≤1000000):Con Tryz.prog 228 [.cell (.val NilV),In .i64 (n:Int)] [] (fun K=>∀ v:Value,True→K (.cell (.val v)) [.own v 69 5 []]):=by
 refine con_intro Tryz.func228 O O b_ (fun c hc=>?_)
 by_cases h0:0 < n
 ·refine ZV ?_
  refine bw_ O O (T_ (ap_ O O (as_ (al_ (Yu ?_)))))
  refine o_ O (ow_capNil O ?_)
  refine M_ O (o_ O (ow_lenNil O (o_ O (cg_ O O g_ (o_ O (cg_ O O g_ (YX ?_)))))))
  refine bz_ O O (T_ (aq_ O t_ (an_ (M_ O (M_ O (o_ O (ow_capNil O (o_ O (ow_trimNil O O ?_)))))))))
  refine M_ O (o_ O (ow_growNil n O O O O (by decide) O O g_ h0 (by show n * 64≤_; omega) g_ (fun v _ _=>M_ O (o_ O (ow_lenNil O (o_ O (ow_trim 0 O O O g_ g_ (jl_trim 0 0 O (Nat.zero_le _) (E_ O (T_ (R_ (M_ O (E_ O (T_ (ar_ (jq_ret1 O O [0] O (fun K h=>h _ trivial)))))))))))))))))
 ·obtain rfl:n=0:=by omega
  refine ZV ?_
  refine bw_ O O (T_ (ap_ O O (as_ (al_ (Yu ?_)))))
  refine o_ O (ow_capNil O ?_)
  refine M_ O (o_ O (ow_lenNil O (o_ O (cg_ O O g_ (o_ O (cg_ O O g_ (YX ?_)))))))
  refine bz_ O O (T_ (ap_ O O (as_ (al_ (R_ (M_ O (E_ O ?_)))))))
  refine T_ (ar_ (jq_ownNil 69 5 g_ (jq_ret1 O O [0] O (fun K h=>h _ trivial))))
end Go.Proofs.YtalkkcfojplmdaaGreatDoor
end
section
namespace Go.Proofs.YtalkkcfojplmdaaGreatDoor
open Go.Vc
attribute [local irreducible] JL JC JQ OpWp Con ConN
set_option maxHeartbeats 4000000
theorem concatE_c (A B:List T) (hA:A.length≤1000) (hB:B.length≤1000):Con Tryz.prog 187 [.cell (.list [[.list (A.map T.row)],[.list (B.map T.row)]])] [] (fun K=>K (.cell (.list ((A ++ B).map T.row))) []):=by
 have eA:(A.map T.row).length=A.length:=List.length_map _
 have eB:(B.map T.row).length=B.length:=List.length_map _
 refine con_intro Tryz.func187 O O b_ (fun c hc=>R_ (E_ O (T_ (ZV ?_))))
 refine br_ O (fun hlen=>M_ O (T_ (jc_cut (ι:=Unit) [] (fun _=>True) (fun _=>[(0,.cell (.list [[.list (A.map T.row)],[.list (B.map T.row)]])),(3,In .i64 ((A.length+B.length:Nat):Int))]) (fun _=>[]) ?_ ?_)))
 ·refine au_ (jc_loopS (ι:=Nat × Nat) [] (fun i=>(i.1=0∧i.2=0) ∨ (i.1=1∧i.2=A.length) ∨ (i.1=2∧i.2=A.length+B.length)) (fun i=>[(0,.cell (.list [[.list (A.map T.row)],[.list (B.map T.row)]])),(9,.cell (.list [[.list (A.map T.row)],[.list (B.map T.row)]])),(10,In .i64 2),(11,In .i64 (i.1:Int)),(3,In .i64 (i.2:Int))]) (fun _=>[]) (fun i=>2 - i.1) (0,0) (.inl ⟨rfl,rfl⟩) ?_ ?_ ?_)
  ·exact sub_end
  ·exact Ww
  rintro ⟨k,q⟩ hi
  dsimp only at hi ⊢
  rcases hi with ⟨rfl,rfl⟩ | ⟨rfl,rfl⟩ | ⟨rfl,rfl⟩
  ·refine YE ?_
   refine R_ (M_ O (M_ O ?_))
   refine o_ O (br_ O (fun hlen=>o_ O (bj_ O O g_ (YX ?_))))
   refine bw_ O O (T_ (ap_ O O (as_ (Zx ?_))))
   rw [show ((0:Nat):Int)+((A.map T.row).length:Int)=((A.length:Nat):Int) by omega]
   refine jq_againS (i:=(0,0)) (1,A.length) (.inr (.inl ⟨rfl,rfl⟩)) (by dsimp only; omega) ?_ ?_
   ·exact sub_end
   ·exact Ww
  ·refine YE ?_
   refine R_ (M_ O (M_ O ?_))
   refine o_ O (br_ O (fun hlen=>o_ O (bj_ O O g_ (YX ?_))))
   refine bw_ O O (T_ (ap_ O O (as_ (Zx ?_))))
   rw [show ((A.length:Nat):Int)+((B.map T.row).length:Int)=((A.length+B.length:Nat):Int) by omega]
   refine jq_againS (i:=(1,A.length)) (2,A.length+B.length) (.inr (.inr ⟨rfl,rfl⟩)) (by dsimp only; omega) ?_ ?_
   ·exact sub_end
   ·exact Ww
  ·refine R_ (o_ O (bw_ O O (T_ (am_ (ap_ O O (av_ (ax_ (ax_ (ba_ (jq_cutS () trivial ?_ ?_))))))))))
   ·exact sub_end
   ·exact Ww
 ·intro _ _
  refine R_ (M_ O (o_ O (bt_ [] O O (growE_c _ g_) (fun pp hpp=>E_ O (T_ (am_ (R_ (M_ O (o_ O (br_ O (fun hlen=>M_ O (T_ (au_ ?_)))))))))))))
  refine jc_loopS (ι:=Nat × Value × List T) [] (fun i=>(i.1=0∧i.2.2=[]) ∨ (i.1=1∧i.2.2=A) ∨ (i.1=2∧i.2.2=A ++ B)) (fun i=>[(25,.cell (.list [[.list (A.map T.row)],[.list (B.map T.row)]])),(26,In .i64 2),(27,In .i64 (i.1:Int)),(6,.cell (.val i.2.1))]) (fun i=>[.own i.2.1 69 5 (i.2.2.map T.row)]) (fun i=>2 - i.1) (0,pp,[]) (.inl ⟨rfl,rfl⟩) ?_ ?_ ?_
  ·exact Wy
  ·exact Ww
  rintro ⟨k,v,l⟩ hi
  dsimp only at hi ⊢
  rcases hi with ⟨rfl,hl⟩ | ⟨rfl,hl⟩ | ⟨rfl,hl⟩ <;> rw [hl] <;> clear hl
  ·refine YE ?_
   refine an_ (M_ O (M_ O ?_))
   refine o_ O (ow_appendM 0 (l1:=[]) (l2:=A) O O O O O O O (fun x=>by rw [T.row_eq];rfl) (by show (0+_) * 64≤_;omega) (by show 0+_≤_;omega) (fun v1 _=>E_ O (ak_ (Zx ?_))))
   refine jq_againS (i:=(0,v,[])) (1,v1,A) (.inr (.inl ⟨rfl,rfl⟩)) (by dsimp only; omega) ?_ ?_
   ·exact Wy
   ·exact Ww
  ·refine YE ?_
   refine an_ (M_ O (M_ O ?_))
   refine o_ O (ow_appendM 0 (l1:=A) (l2:=B) O O O O O O O (fun x=>by rw [T.row_eq];rfl) (by show (_+_) * 64≤_;omega) g_ (fun v1 _=>E_ O (ak_ (Zx ?_))))
   refine jq_againS (i:=(1,v,A)) (2,v1,A ++ B) (.inr (.inr ⟨rfl,rfl⟩)) (by dsimp only; omega) ?_ ?_
   ·exact Wy
   ·exact Ww
  ·refine R_ (o_ O (bw_ O O (T_ (am_ (ap_ O O (Yp ?_))))))
   refine ar_ (jq_freeze 2 0 O O (by rw [hc]; simp [hb]) ?_)
   refine jq_ret1 O O [] O (fun K h=>h)
theorem exprs_c (s:Sm) (hI:s.index.length≤1000) (hV:s.value.length≤1000):Con Tryz.prog 139 [.row s.row'] [] (fun K=>K (.cell (.list ((s.index ++ s.value).map T.row))) []):=by
 have hC:=concatE_c s.index s.value hI hV
 refine con_intro Tryz.func139 O O b_ (fun c hc=>R_ (o_ O (ci_ O (fun bx=>E_ O (T_ (R_ (F_ O (L_ 0 O (F_ O (L_ 0 O (o_ O (bq_ O O b_ O O b_ (o_ O (bm_ O (hC) (E_ O (T_ (ar_ (jq_ret1 O O [] O (fun K h=>h)))))))))))))))))))
end Go.Proofs.YtalkkcfojplmdaaGreatDoor
end
section
namespace Go.Proofs.YtalkkcfojplmdaaGreatDoor
open Go.Vc
attribute [local irreducible] JL JC JQ OpWp Con ConN HOk
set_option maxHeartbeats 4000000
def fillF {α:Type} (M l:List (ByteArray × α)):List (ByteArray × α):=l.foldl (fun M e=>aset M e.1 e.2) M
theorem fill_snoc {α:Type} (M l:List (ByteArray × α)) (e:ByteArray × α):fillF M (l ++ [e])=aset (fillF M l) e.1 e.2:=by simp [fillF]
theorem fill_app {α:Type} (M l m:List (ByteArray × α)):fillF M (l ++ m)=fillF (fillF M l) m:=by simp [fillF]
theorem fill_has {α:Type} (k:ByteArray):∀ l M:List (ByteArray × α),(aget (fillF M l) k).isSome=((aget M k).isSome || hasB (l.map (·.1)) k)
 | [],M=>by simp [fillF,hasB]
 | e :: l,M=>by
  show (aget (fillF (aset M e.1 e.2) l) k).isSome=_
  rw [fill_has k l,aget_aset,List.map_cons]
  have:hasB (e.1 :: l.map (·.1)) k=(decide (e.1=k) || hasB (l.map (·.1)) k):=rfl
  rw [this]
  by_cases h:e.1=k
  ·rw [if_pos h,decide_eq_true h]; simp
  ·rw [if_neg h,decide_eq_false h]; simp
theorem fill_new {α:Type} {l:List (ByteArray × α)}:∀ k,k≤l.length→dupB ((l.take k).map (·.1))=false→fillF [] (l.take k)=l.take k
 | 0,_,_=>rfl
 | k+1,hk,h=>by
  rw [List.take_succ_eq_append_getElem (by omega)] at h ⊢
  rw [List.map_append,List.map_cons,List.map_nil,dupB_snoc,Bool.or_eq_false_iff] at h
  rw [fill_snoc,fill_new k (by omega) h.1,aset_new]
  have:=fill_has (α:=α) l[k].1 (l.take k) []
  rw [fill_new k (by omega) h.1,h.2] at this
  simpa [aget] using this
theorem fill_len {α:Type} {l:List (ByteArray × α)}:∀ k,k≤l.length→(fillF [] (l.take k)).length≤k∧((fillF [] (l.take k)).length=k ↔ dupB ((l.take k).map (·.1))=false)
 | 0,_=>⟨Nat.le_refl _,fun _=>rfl,fun _=>rfl⟩
 | k+1,hk=>by
  obtain ⟨h1,h2⟩:=fill_len (l:=l) k (by omega)
  rw [List.take_succ_eq_append_getElem (by omega),fill_snoc,aset_length,List.map_append,List.map_cons,List.map_nil,dupB_snoc,fill_has]
  simp only [aget,Option.isSome_none,Bool.false_or]
  cases hb:hasB ((l.take k).map (·.1)) l[k].1 with
  | true =>
   rw [if_pos rfl]
   refine ⟨by omega,fun h=>by omega,fun h=>?_⟩
   rw [Bool.or_true] at h; cases h
  | false =>
   rw [if_neg (by decide),Bool.or_false]
   exact ⟨by omega,fun h=>h2.1 g_,fun h=>by rw [h2.2 h]⟩
theorem fill_dup {α:Type} (l:List (ByteArray × α)):decide (((fillF [] l).length:Int)=(l.length:Int))=!dupB (l.map (·.1)):=by
 have h:=(fill_len (l:=l) l.length (Nat.le_refl _)).2
 rw [List.take_of_length_le (Nat.le_refl _)] at h
 cases hd:dupB (l.map (·.1)) with
 | false=>exact decide_eq_true (by rw [h.2 hd])
 | true =>
  refine decide_eq_false (fun h2=>?_)
  rw [h.1 (by omega)] at hd; cases hd
theorem fill_id {α:Type} {l:List (ByteArray × α)} (h:dupB (l.map (·.1))=false):fillF [] l=l:=by
 have:=fill_new (l:=l) l.length (Nat.le_refl _)
 rw [List.take_of_length_le (Nat.le_refl _)] at this
 exact this h
theorem aget_app {α:Type} (k:ByteArray):∀ l m:List (ByteArray × α),aget (l ++ m) k=if hasB (l.map (·.1)) k=true then aget l k else aget m k
 | [],m=>rfl
 | e :: l,m=>by
  rw [List.cons_append,aget,aget,aget_app k l m,List.map_cons]
  have:hasB (e.1 :: l.map (·.1)) k=(decide (e.1=k) || hasB (l.map (·.1)) k):=rfl
  rw [this]
  by_cases h:e.1=k
  ·rw [if_pos h,if_pos h,decide_eq_true h]; rfl
  ·rw [if_neg h,if_neg h,decide_eq_false h]; rfl
theorem aget_const {α:Type} (k:ByteArray) (v:α):∀ l:List ByteArray,aget (l.map (fun s=>(s,v))) k=if hasB l k=true then some v else none
 | []=>rfl
 | e :: l=>by
  rw [List.map_cons,aget,aget_const k v l]
  have:hasB (e :: l) k=(decide (e=k) || hasB l k):=rfl
  rw [this]
  by_cases h:e=k
  ·rw [if_pos h,decide_eq_true h]; rfl
  ·rw [if_neg h,decide_eq_false h]; rfl
def declL (sh:List Shd) (t:Tk):List (ByteArray × Int):=(scaL t).map (fun s=>(s,1)) ++ (arrL sh t).map (fun s=>(s,2))
theorem decl_names (sh:List Shd) (t:Tk):(declL sh t).map (·.1)=scaL t ++ arrL sh t:=by simp [declL,List.map_map,Function.comp_def]
theorem decl_get {sh:List Shd} {t:Tk} (h:dupB (scaL t ++ arrL sh t)=false) (k:ByteArray):decide ((aget (fillF [] (declL sh t)) k).getD 0=1)=hasB (scaL t) k∧decide ((aget (fillF [] (declL sh t)) k).getD 0=2)=hasB (arrL sh t) k:=by
 rw [fill_id (by rw [decl_names]; exact h)]
 unfold declL
 rw [aget_app,aget_const,aget_const,List.map_map]
 have e1:(scaL t).map ((fun x:ByteArray × Int=>x.1) ∘ fun s=>(s,1))=scaL t:=by simp [Function.comp_def]
 rw [e1]
 cases h1:hasB (scaL t) k with
 | true =>
  refine ⟨rfl,?_⟩
  cases h2:hasB (arrL sh t) k with
  | false=>rfl
  | true =>
   have:=dupB_nodup.1 h
   rw [List.nodup_append] at this
   exact absurd O (this.2.2 k (hasB_iff.1 h1) k (hasB_iff.1 h2))
 | false=>cases h2:hasB (arrL sh t) k <;> exact ⟨rfl,rfl⟩
mutual
def Sm.allq (q:Sm→Bool):Sm→Bool
 | .mk k n i v m l t e=>q (.mk k n i v m l t e) && Sm.alls q t && Sm.alls q e
def Sm.alls (q:Sm→Bool):List Sm→Bool
 | []=>true
 | s :: l=>s.allq q && Sm.alls q l
end
theorem Sm.alls_all (q:Sm→Bool):∀ l:List Sm,Sm.alls q l=l.all (fun s=>q s && Sm.alls q s.thn && Sm.alls q s.els)
 | []=>rfl
 | s :: l=>by
  rw [Sm.alls,Sm.alls_all q l,List.all_cons]
  cases s
  rfl
theorem all_cong {α:Type} {p q:α→Bool}:∀ {l:List α},(∀ x ∈ l,p x=q x)→l.all p=l.all q
 | [],_=>rfl
 | x :: l,h=>by rw [List.all_cons,List.all_cons,h x (List.mem_cons_self ..),all_cong (fun y hy=>h y (List.mem_cons_of_mem _ hy))]
theorem alls_eq {q:Sm→Bool} {A:List Sm→Bool} (hA:∀ l,A l=l.all (fun s=>q s && A s.thn && A s.els)):∀ l,A l=Sm.alls q l:=by
 refine Sms.ind (fun l ih=>?_)
 rw [hA,Sm.alls_all]
 refine all_cong (fun s hs=>?_)
 obtain ⟨h1,h2⟩:=ih s hs
 rw [h1,h2]
theorem nmss_alls (vs ar rs:List ByteArray) (l:List Sm):Sm.nmss vs ar rs l=Sm.alls (fun s=>nmOne vs ar rs s && (s.index ++ s.value).all (useB vs ar)) l :=
 alls_eq (fun l=>by rw [Sm.nmss_all]; exact all_cong (fun s _=>by rw [nms_eq])) l
theorem wdss_alls (l:List Sm):Sm.wdss l=Sm.alls (fun s=>decide (0≤s.max) && decide (s.max≤32) && (s.index ++ s.value).all wdT) l :=
 alls_eq (fun l=>by rw [Sm.wdss_all]; exact all_cong (fun s _=>by rw [wds_eq])) l
def qM (M:List (ByteArray × Int)) (t:T):Bool:=(!decide (t.kind=2) || decide ((aget M t.name).getD 0=1)) && (!decide (t.kind=3) || decide ((aget M t.name).getD 0=2))
def useM (M:List (ByteArray × Int)):T→Bool
 | .nu _=>true
 | .nm s=>decide ((aget M s).getD 0=1)
 | .ix s t=>decide ((aget M s).getD 0=2) && useM M t
 | .bn _ a b=>useM M a && useM M b
theorem useM_eq (M:List (ByteArray × Int)) (t:T):useM M t=(qM M t && t.args.all (useM M)):=by cases t <;> simp [useM,qM,T.kind,T.name,T.args] <;> rfl
theorem useM_B {M:List (ByteArray × Int)} {vs ar:List ByteArray} (h:∀ s,decide ((aget M s).getD 0=1)=hasB vs s∧decide ((aget M s).getD 0=2)=hasB ar s):∀ t,useM M t=useB vs ar t
 | .nu _=>rfl
 | .nm s=>(h s).1
 | .ix s t=>by rw [useM,useB,(h s).2,useM_B h t]
 | .bn _ a b=>by rw [useM,useB,useM_B h a,useM_B h b]
def nmM (M:List (ByteArray × Int)) (rs:List ByteArray) (s:Sm):Bool:=(if s.kind=1 then decide ((aget M s.name).getD 0=1) else if s.kind=2 then decide ((aget M s.name).getD 0=2) else if s.kind=5 then hasB rs s.name else true) && (s.index ++ s.value).all (useM M)
theorem nmM_B {M:List (ByteArray × Int)} {vs ar rs:List ByteArray} (h:∀ s,decide ((aget M s).getD 0=1)=hasB vs s∧decide ((aget M s).getD 0=2)=hasB ar s) (s:Sm):nmM M rs s=(nmOne vs ar rs s && (s.index ++ s.value).all (useB vs ar)):=by
 unfold nmM nmOne
 rw [(h s.name).1,(h s.name).2,show useM M=useB vs ar from funext (useM_B h)]
theorem ctwice_c (l:List ByteArray):Con Tryz.prog 93 [.cell (.list (l.map Wrow))] [] (fun K=>K (Bl (dupB l)) []):=by
 refine con_intro Tryz.func93 O O b_ (fun c hc=>R_ (E_ O (T_ (R_ (o_ O (ow_makeMapE ByteArray Bool Value.bool (fun bm hbm=>E_ O (T_ (am_ (R_ (M_ O (o_ O (br_ O (fun hlen=>M_ O (T_ (au_ ?_))))))))))))))))
 refine jc_loopS (ι:=Nat) [] (fun k=>k≤(l).length∧dupB (l.take k)=false) (fun k=>(9,In .i64 (k:Int)) :: [(3,.cell (.val (.map (some bm)))),(7,.cell (.list (l.map Wrow))),(8,In .i64 ((l.map Wrow).length:Int))]) (fun k=>[.mapc bm (mapE Value.bool (fillF [] ((l.take k).map (fun s=>(s,true)))))]) (fun k=>(l).length - k) 0 ⟨Nat.zero_le _,rfl⟩ ?_ ?_ ?_
 ·exact Wy
 ·exact Ww
 rintro k ⟨hk,hI⟩
 have eLk:((l).map Wrow).length=(l).length:=List.length_map _
 by_cases hltk:k < (l).length
 ·have hltk2:(k:Int) < (((l).map Wrow).length:Int):=by omega
  have hg:(aget (fillF [] ((l.take k).map (fun s=>(s,true)))) l[k]).getD false=hasB (l.take k) l[k]:=by
   have e1:((l.take k).map (fun s=>(s,true))).map (·.1)=l.take k:=by simp [List.map_map,Function.comp_def]
   rw [fill_id (by rw [e1]; exact hI),aget_const]
   cases hasB (l.take k) l[k] <;> rfl
  cases hh:hasB (l.take k) l[k] with
  | true =>
   rw [hh] at hg
   have hres:dupB l=true:=dupB_yes hltk hh
   refine Zj ?_
   refine ZI ?_
   refine cb_ O O (E_ O (T_ (am_ (R_ (M_ O ?_)))))
   refine M_ O (o_ O (ow_mapGetOB (κ:=ByteArray) (M:=fillF [] ((l.take k).map (fun s=>(s,true)))) 0 O O O O O (T_ (aq_ O h_ (R_ (E_ O (T_ (ar_ (aw_ (az_ (aw_ (aw_ (az_ (aw_ (jq_ret1 O O [] O (fun K h=>by rw [hres] at h; exact h))))))))))))))))
  | false =>
   rw [hh] at hg
   have hI2:dupB (l.take (k+1))=false:=by rw [List.take_succ_eq_append_getElem hltk,dupB_snoc,hI,hh]; rfl
   refine Zj ?_
   refine ZI ?_
   refine cb_ O O (E_ O (T_ (am_ (R_ (M_ O ?_)))))
   refine M_ O (o_ O (ow_mapGetOB (κ:=ByteArray) (M:=fillF [] ((l.take k).map (fun s=>(s,true)))) 0 O O O O O (T_ (ap_ O h_ (as_ (al_ (an_ (M_ O (M_ O (ag_ (ow_mapPut (κ:=ByteArray) (vv:=Value.bool) (M:=fillF [] ((l.take k).map (fun s=>(s,true)))) 0 O O O O O (ak_ (ay_ (al_ (an_ (Wr ?_))))))))))))))))
   refine ak_ (jq_againS (i:=k) (k+1) ⟨hltk,hI2⟩ g_ ?_ ?_)
   ·rw [List.take_succ_eq_append_getElem hltk,List.map_append,List.map_cons,List.map_nil,fill_snoc]
    exact Wy
   ·exact Ww
 ·have hltk2:¬ (k:Int) < (((l).map Wrow).length:Int):=by omega
  rw [List.take_of_length_le (by omega)] at hI
  refine R_ (o_ O (Zl ?_))
  refine al_ (R_ (E_ O (T_ (ar_ (jq_ret1 O O [] O (fun K h=>by rw [hI] at h; exact h))))))
theorem declare1_c (bo bn bm:Nat) (M:List (ByteArray × Int)) (s:ByteArray) (k n:Int) (hn:0≤n∧n≤1000000):Con Tryz.prog 149 [Str s,In .i64 k,Ptr bo,Ptr bn] [.blk bo 143 [.val (.map (some bm))],.blk bn 3 [.val (.int .i64 (n))],.mapc bm (mapE (Value.int .i64) (M))] (fun K=>K (.tup []) [.blk bo 143 [.val (.map (some bm))],.blk bn 3 [.val (.int .i64 (n+1))],.mapc bm (mapE (Value.int .i64) (aset M s k))]):=by
 exact con_intro Tryz.func149 O O b_ (fun c hc=>R_ (L_ 0 O (M_ O (M_ O (ag_ (ow_mapPut (κ:=ByteArray) (vv:=Value.int .i64) (M:=M) 2 O O O O O (T_ (an_ (L_ 2 O (o_ O (bj_ O O g_ (W_ 2 O (ak_ (jq_ret0S (.inr O) O (fun K h=>h) (bc_ 2 O (bc_ 0 O (bc_ 0 O sub_end)))))))))))))))))
theorem decl_lists (p:Pg) (t:Tk):(((([] ++ t.inputs.map (fun x=>((fun x:Inp=>x.1) x,(1:Int)))) ++ t.vars.map (fun x=>((fun x:ByteArray=>x) x,(1:Int)))) ++ t.arrays.map (fun x=>((fun x:Arr=>x.1) x,(2:Int)))) ++ p.shared.map (fun x=>((fun x:Shd=>x.1) x,(2:Int))))=declL p.shared t:=by
 simp [declL,scaL,arrL,List.map_map,Function.comp_def]
theorem declare_c (p:Pg) (t:Tk) (ht:TkSz t) (hsh:p.shared.length≤1000):Con Tryz.prog 97 [.row p.row,.row t.row] [] (fun K=>K (.tup [.cell (.map (mapE (Value.int .i64) (fillF [] (declL p.shared t)))),Bl (!dupB (scaL t ++ arrL p.shared t))]) []):=by
 have e4:=decl_lists p t
 have z1:=ht.inputs
 have z2:=ht.vars
 have z3:=ht.arrays
 refine con_intro Tryz.func97 O O b_ (fun c hc=>R_ (o_ O (ci_ O (fun bx=>o_ O (ci_ O (fun bx=>E_ O (E_ O (T_ (R_ (o_ O (ow_makeMapE ByteArray Int (Value.int .i64) (fun bm hbm=>o_ O (bl_ O O (fun bl=>W_ 0 O (T_ (R_ (o_ O (bl_ O O (fun bl=>W_ 0 O (T_ ?_))))))))))))))))))))
 refine R_ (o_ O (ow_makeFunc O (E_ O (T_ (am_ (R_ (F_ O (L_ 3 O (o_ O (br_ O (fun hlen=>M_ O (T_ (au_ ?_)))))))))))))
 rename_i bp bo
 refine jc_loopS (ι:=Nat × List (ByteArray × Int)) [] (fun i=>i.1≤(t.inputs).length∧i.2=[] ++ ((t.inputs).take i.1).map (fun x=>((fun x:Inp=>x.1) x,(1:Int)))) (fun i=>(22,In .i64 (i.1:Int)) :: [(2,.cell (.val (.pointer (some ⟨bp,0,none⟩)))),(3,.cell (.val (.pointer (some ⟨bx,0,none⟩)))),(6,.cell (.val (.pointer (some ⟨bo,0,none⟩)))),(7,.cell (.val (.pointer (some ⟨bl,0,none⟩)))),(8,FC 149 [PV bo,PV bl]),(20,.cell (.list ((t.inputs).map InRow))),(21,In .i64 (((t.inputs).map InRow).length:Int))]) (fun i=>[.blk bo 143 [.val (.map (some bm))],.blk bl 3 [.val (.int .i64 ((i.2).length:Int))],.mapc bm (mapE (Value.int .i64) (fillF [] (i.2))),.blk bp 31 p.row,.blk bx 39 t.row]) (fun i=>(t.inputs).length - i.1) (0,[]) ⟨Nat.zero_le _,by simp⟩ ?_ ?_ ?_
 ·exact bc_ 1 O (bc_ 0 O (bc_ 0 O (bc_ 1 O (bc_ 0 O sub_end))))
 ·exact Ww
 rintro ⟨k,D⟩ hz
 dsimp only at hz ⊢
 obtain ⟨hk,hD⟩:=hz
 have eLk:((t.inputs).map InRow).length=(t.inputs).length:=List.length_map _
 by_cases hltk:k < (t.inputs).length
 ·have hltk2:(k:Int) < (((t.inputs).map InRow).length:Int):=by omega
  have hDl:=congrArg List.length hD
  simp only [List.length_append,List.length_map,List.length_take,List.length_nil] at hDl
  have c0:=declare1_c bo bl bm (fillF [] D) ((fun x:Inp=>x.1) (t.inputs)[k]) 1 (D.length:Int) (by omega)
  refine Zj ?_
  refine Zm (fun bl=>?_)
  refine an_ (M_ O ?_)
  refine F_ O (L_ 0 O (o_ O (ow_callc [1,1,1] O O O O c0 (ak_ (Zx ?_)))))
  refine jq_againS (i:=(k,D)) (k+1,D ++ [(((fun x:Inp=>x.1) (t.inputs)[k]),(1:Int))]) ⟨hltk,by dsimp only; rw [hD,List.take_succ_eq_append_getElem hltk,List.map_append,List.append_assoc]; rfl⟩ (by dsimp only; omega) ?_ ?_
  ·rw [fill_snoc,List.length_append,List.length_singleton,Int.natCast_add,Int.natCast_one]
   refine Y8 ?_
   exact bc_ 1 O (bc_ 1 O sub_end)
  ·exact Ww
 ·have hltk2:¬ (k:Int) < (((t.inputs).map InRow).length:Int):=by omega
  rw [List.take_of_length_le (by omega)] at hD
  subst hD
  refine R_ (o_ O (Zl ?_))
  refine al_ (am_ (R_ (F_ O (L_ 4 O (o_ O (br_ O (fun hlen=>M_ O ?_)))))))
  refine T_ (au_ ?_)
  refine jc_loopS (ι:=Nat × List (ByteArray × Int)) [] (fun i=>i.1≤(t.vars).length∧i.2=([] ++ t.inputs.map (fun x=>((fun x:Inp=>x.1) x,(1:Int)))) ++ ((t.vars).take i.1).map (fun x=>((fun x:ByteArray=>x) x,(1:Int)))) (fun i=>(34,In .i64 (i.1:Int)) :: [(2,.cell (.val (.pointer (some ⟨bp,0,none⟩)))),(3,.cell (.val (.pointer (some ⟨bx,0,none⟩)))),(6,.cell (.val (.pointer (some ⟨bo,0,none⟩)))),(7,.cell (.val (.pointer (some ⟨bl,0,none⟩)))),(8,FC 149 [PV bo,PV bl]),(32,.cell (.list ((t.vars).map Wrow))),(33,In .i64 (((t.vars).map Wrow).length:Int))]) (fun i=>[.blk bo 143 [.val (.map (some bm))],.blk bl 3 [.val (.int .i64 ((i.2).length:Int))],.mapc bm (mapE (Value.int .i64) (fillF [] (i.2))),.blk bp 31 p.row,.blk bx 39 t.row]) (fun i=>(t.vars).length - i.1) (0,([] ++ t.inputs.map (fun x=>((fun x:Inp=>x.1) x,(1:Int))))) ⟨Nat.zero_le _,by simp⟩ ?_ ?_ ?_
  ·refine Zp ?_
   exact Wy
  ·exact Ww
  rintro ⟨j,D⟩ hz
  dsimp only at hz ⊢
  obtain ⟨hj,hD⟩:=hz
  have eLj:((t.vars).map Wrow).length=(t.vars).length:=List.length_map _
  by_cases hltj:j < (t.vars).length
  ·have hltj2:(j:Int) < (((t.vars).map Wrow).length:Int):=by omega
   have hDl:=congrArg List.length hD
   simp only [List.length_append,List.length_map,List.length_take,List.length_nil] at hDl
   have c0:=declare1_c bo bl bm (fillF [] D) ((fun x:ByteArray=>x) (t.vars)[j]) 1 (D.length:Int) (by omega)
   refine Zj ?_
   refine ZI ?_
   refine cb_ O O (E_ O (T_ (an_ (M_ O (M_ O ?_)))))
   refine o_ O (ow_callc [0,0,0] O O O O c0 (ak_ (Zx ?_)))
   refine jq_againS (i:=(j,D)) (j+1,D ++ [(((fun x:ByteArray=>x) (t.vars)[j]),(1:Int))]) ⟨hltj,by dsimp only; rw [hD,List.take_succ_eq_append_getElem hltj,List.map_append,List.append_assoc]; rfl⟩ (by dsimp only; omega) ?_ ?_
   ·rw [fill_snoc,List.length_append,List.length_singleton,Int.natCast_add,Int.natCast_one]
    refine Zp ?_
    exact Wy
   ·exact Ww
  ·have hltj2:¬ (j:Int) < (((t.vars).map Wrow).length:Int):=by omega
   rw [List.take_of_length_le (by omega)] at hD
   subst hD
   refine R_ (o_ O (Zl ?_))
   refine al_ (am_ (R_ (F_ O (L_ 4 O (o_ O (br_ O (fun hlen=>M_ O ?_)))))))
   refine T_ (au_ ?_)
   refine jc_loopS (ι:=Nat × List (ByteArray × Int)) [] (fun i=>i.1≤(t.arrays).length∧i.2=(([] ++ t.inputs.map (fun x=>((fun x:Inp=>x.1) x,(1:Int)))) ++ t.vars.map (fun x=>((fun x:ByteArray=>x) x,(1:Int)))) ++ ((t.arrays).take i.1).map (fun x=>((fun x:Arr=>x.1) x,(2:Int)))) (fun i=>(45,In .i64 (i.1:Int)) :: [(2,.cell (.val (.pointer (some ⟨bp,0,none⟩)))),(3,.cell (.val (.pointer (some ⟨bx,0,none⟩)))),(6,.cell (.val (.pointer (some ⟨bo,0,none⟩)))),(7,.cell (.val (.pointer (some ⟨bl,0,none⟩)))),(8,FC 149 [PV bo,PV bl]),(43,.cell (.list ((t.arrays).map ArRow))),(44,In .i64 (((t.arrays).map ArRow).length:Int))]) (fun i=>[.blk bo 143 [.val (.map (some bm))],.blk bl 3 [.val (.int .i64 ((i.2).length:Int))],.mapc bm (mapE (Value.int .i64) (fillF [] (i.2))),.blk bp 31 p.row,.blk bx 39 t.row]) (fun i=>(t.arrays).length - i.1) (0,(([] ++ t.inputs.map (fun x=>((fun x:Inp=>x.1) x,(1:Int)))) ++ t.vars.map (fun x=>((fun x:ByteArray=>x) x,(1:Int))))) ⟨Nat.zero_le _,by simp⟩ ?_ ?_ ?_
   ·refine Zp ?_
    exact Wy
   ·exact Ww
   rintro ⟨l,D⟩ hz
   dsimp only at hz ⊢
   obtain ⟨hl,hD⟩:=hz
   have eLl:((t.arrays).map ArRow).length=(t.arrays).length:=List.length_map _
   by_cases hltl:l < (t.arrays).length
   ·have hltl2:(l:Int) < (((t.arrays).map ArRow).length:Int):=by omega
    have hDl:=congrArg List.length hD
    simp only [List.length_append,List.length_map,List.length_take,List.length_nil] at hDl
    have c0:=declare1_c bo bl bm (fillF [] D) ((fun x:Arr=>x.1) (t.arrays)[l]) 2 (D.length:Int) (by omega)
    refine Zj ?_
    refine Zm (fun bl=>?_)
    refine an_ (M_ O ?_)
    refine F_ O (L_ 0 O (o_ O (ow_callc [1,1,1] O O O O c0 (ak_ (Zx ?_)))))
    refine jq_againS (i:=(l,D)) (l+1,D ++ [(((fun x:Arr=>x.1) (t.arrays)[l]),(2:Int))]) ⟨hltl,by dsimp only; rw [hD,List.take_succ_eq_append_getElem hltl,List.map_append,List.append_assoc]; rfl⟩ (by dsimp only; omega) ?_ ?_
    ·rw [fill_snoc,List.length_append,List.length_singleton,Int.natCast_add,Int.natCast_one]
     refine Y8 ?_
     exact bc_ 1 O (bc_ 1 O sub_end)
    ·exact Ww
   ·have hltl2:¬ (l:Int) < (((t.arrays).map ArRow).length:Int):=by omega
    rw [List.take_of_length_le (by omega)] at hD
    subst hD
    refine R_ (o_ O (Zl ?_))
    refine al_ (am_ (R_ (F_ O (L_ 3 O (o_ O (br_ O (fun hlen=>M_ O ?_)))))))
    refine T_ (au_ ?_)
    refine jc_loopS (ι:=Nat × List (ByteArray × Int)) [] (fun i=>i.1≤(p.shared).length∧i.2=((([] ++ t.inputs.map (fun x=>((fun x:Inp=>x.1) x,(1:Int)))) ++ t.vars.map (fun x=>((fun x:ByteArray=>x) x,(1:Int)))) ++ t.arrays.map (fun x=>((fun x:Arr=>x.1) x,(2:Int)))) ++ ((p.shared).take i.1).map (fun x=>((fun x:Shd=>x.1) x,(2:Int)))) (fun i=>(57,In .i64 (i.1:Int)) :: [(2,.cell (.val (.pointer (some ⟨bp,0,none⟩)))),(3,.cell (.val (.pointer (some ⟨bx,0,none⟩)))),(6,.cell (.val (.pointer (some ⟨bo,0,none⟩)))),(7,.cell (.val (.pointer (some ⟨bl,0,none⟩)))),(8,FC 149 [PV bo,PV bl]),(55,.cell (.list ((p.shared).map ShRow))),(56,In .i64 (((p.shared).map ShRow).length:Int))]) (fun i=>[.blk bo 143 [.val (.map (some bm))],.blk bl 3 [.val (.int .i64 ((i.2).length:Int))],.mapc bm (mapE (Value.int .i64) (fillF [] (i.2))),.blk bp 31 p.row,.blk bx 39 t.row]) (fun i=>(p.shared).length - i.1) (0,((([] ++ t.inputs.map (fun x=>((fun x:Inp=>x.1) x,(1:Int)))) ++ t.vars.map (fun x=>((fun x:ByteArray=>x) x,(1:Int)))) ++ t.arrays.map (fun x=>((fun x:Arr=>x.1) x,(2:Int))))) ⟨Nat.zero_le _,by simp⟩ ?_ ?_ ?_
    ·refine Zp ?_
     exact Wy
    ·exact Ww
    rintro ⟨m,D⟩ hz
    dsimp only at hz ⊢
    obtain ⟨hm,hD⟩:=hz
    have eLm:((p.shared).map ShRow).length=(p.shared).length:=List.length_map _
    by_cases hltm:m < (p.shared).length
    ·have hltm2:(m:Int) < (((p.shared).map ShRow).length:Int):=by omega
     have hDl:=congrArg List.length hD
     simp only [List.length_append,List.length_map,List.length_take,List.length_nil] at hDl
     have c0:=declare1_c bo bl bm (fillF [] D) ((fun x:Shd=>x.1) (p.shared)[m]) 2 (D.length:Int) (by omega)
     refine Zj ?_
     refine Zm (fun bl=>?_)
     refine an_ (M_ O ?_)
     refine F_ O (F_ O (L_ 0 O (o_ O (ow_callc [1,1,1] O O O O c0 (ak_ (Zx ?_))))))
     refine jq_againS (i:=(m,D)) (m+1,D ++ [(((fun x:Shd=>x.1) (p.shared)[m]),(2:Int))]) ⟨hltm,by dsimp only; rw [hD,List.take_succ_eq_append_getElem hltm,List.map_append,List.append_assoc]; rfl⟩ (by dsimp only; omega) ?_ ?_
     ·rw [fill_snoc,List.length_append,List.length_singleton,Int.natCast_add,Int.natCast_one]
      refine Y8 ?_
      exact bc_ 1 O (bc_ 1 O sub_end)
     ·exact Ww
    ·have hltm2:¬ (m:Int) < (((p.shared).map ShRow).length:Int):=by omega
     rw [List.take_of_length_le (by omega)] at hD
     subst hD
     refine R_ (o_ O (Zl ?_))
     refine al_ (am_ (ao_ O O k_ k_ (yL_ 0 O (yL_ 0 O ?_))))
     refine aa_ (fun c=>ow_lenMapO (M:=fillF [] ((((([] ++ t.inputs.map (fun x=>((fun x:Inp=>x.1) x,(1:Int)))) ++ t.vars.map (fun x=>((fun x:ByteArray=>x) x,(1:Int)))) ++ t.arrays.map (fun x=>((fun x:Arr=>x.1) x,(2:Int)))) ++ p.shared.map (fun x=>((fun x:Shd=>x.1) x,(2:Int)))))) 2 O O p_) (yL_ 1 O (aa_ (fun c=>bn_ O O p_) (yE_ O (yE_ O (ae_ (al_ (ar_ ?_)))))))
     refine jq_freezeM 4 2 O O hbm ?_
     rw [e4]
     have hd:=fill_dup (declL p.shared t)
     rw [decl_names] at hd
     exact jq_ret2S O O O (fun K h=>by rw [← hd] at h; exact h) sub_end
end Go.Proofs.YtalkkcfojplmdaaGreatDoor
end
section
namespace Go.Proofs.YtalkkcfojplmdaaGreatDoor
open Go.Vc
attribute [local irreducible] JL JC JQ OpWp Con ConN HOk
set_option maxHeartbeats 4000000
abbrev OkC (b:Nat) (v:Bool):Ch:=.blk b 4 [.val (.bool v)]
abbrev NmC (b:Nat) (M:List (ByteArray × Int)):Ch:=.blk b 143 [.map (mapE (Value.int .i64) M)]
theorem uses1_c (bo bn:Nat) (M:List (ByteArray × Int)) (x:T) (v:Bool):Con Tryz.prog 195 [.row x.row',Ptr bo,Ptr bn] [OkC bo v,NmC bn M] (fun K=>K (.tup []) [OkC bo (v && qM M x),NmC bn M]):=by
 refine con_intro Tryz.func195 O O b_ (fun c hc=>?_)
 by_cases hk2:x.kind=2
 ·have hk3:¬ x.kind=3:=by omega
  have hres:(v && qM M x)=(v && decide ((aget M x.name).getD 0=1)):=by unfold qM; rw [decide_eq_true hk2,decide_eq_false hk3]; cases v <;> simp
  cases v with
  | false =>
   refine R_ (o_ O (ci_ O (fun bx=>T_ (YB ?_))))
   refine Zu ?_
   refine aq_ O u_ (an_ (L_ 1 O (M_ O ?_)))
   refine Zd ?_
   exact ai_ O O b_ (o_ O (bv_ O h_ O (W_ 1 O (ak_ (ay_ (jq_ret0S (.inr O) O (fun K h=>by rw [hres] at h; exact h) (bc_ 0 O (bc_ 1 O sub_end))))))))
  | true =>
   refine R_ (o_ O (ci_ O (fun bx=>T_ (YB ?_))))
   refine Zu ?_
   refine aq_ O u_ (an_ (L_ 1 O (M_ O ?_)))
   exact ah_ O O b_ (bg_ 2 O O O O (ah_ O O b_ (bf_ O O O b_ (ah_ O O b_ (bg_ 0 O O O O (ah_ O O b_ (ow_mapGetI (κ:=ByteArray) (M:=M) O O O O (ah_ O O b_ (bn_ O O (o_ O (bp_ O O O (W_ 1 O (ak_ (ay_ (jq_ret0S (.inr O) O (fun K h=>by rw [hres] at h; exact h) (bc_ 0 O (bc_ 1 O sub_end)))))))))))))))))
 by_cases hk3:x.kind=3
 ·have hres:(v && qM M x)=(v && decide ((aget M x.name).getD 0=2)):=by unfold qM; rw [decide_eq_true hk3,decide_eq_false hk2]; cases v <;> simp
  cases v with
  | false =>
   refine R_ (o_ O (ci_ O (fun bx=>T_ (YB ?_))))
   refine Zc ?_
   refine E_ O ?_
   refine T_ (aq_ O u_ (an_ (L_ 1 O (M_ O (Zd ?_)))))
   refine ai_ O O b_ (o_ O (bv_ O h_ O (W_ 1 O (ak_ (ay_ (jq_ret0S (.inr O) O (fun K h=>by rw [hres] at h; exact h) (bc_ 0 O ?_)))))))
   exact WE
  | true =>
   refine R_ (o_ O (ci_ O (fun bx=>T_ (YB ?_))))
   refine Zc ?_
   refine E_ O ?_
   refine T_ (aq_ O u_ (an_ (L_ 1 O (M_ O (ah_ O O b_ (bg_ 2 O O O O (Ze ?_)))))))
   refine ow_mapGetI (κ:=ByteArray) (M:=M) O O O O (ah_ O O b_ (bn_ O O (o_ O (bp_ O O O (W_ 1 O (ak_ (ay_ (jq_ret0S (.inr O) O (fun K h=>by rw [hres] at h; exact h) (bc_ 0 O ?_)))))))))
   exact WE
 ·have hres:(v && qM M x)=(v && true):=by unfold qM; rw [decide_eq_false hk2,decide_eq_false hk3]; rfl
  cases v with
  | false =>
   refine R_ (o_ O (ci_ O (fun bx=>T_ (YB ?_))))
   refine Zc ?_
   refine E_ O ?_
   exact T_ (ap_ O w_ (as_ (ay_ (jq_ret0S (.inr O) O (fun K h=>by rw [hres] at h; exact h) (bc_ 1 O (bc_ 1 O sub_end))))))
  | true =>
   refine R_ (o_ O (ci_ O (fun bx=>T_ (YB ?_))))
   refine Zc ?_
   refine E_ O ?_
   exact T_ (ap_ O w_ (as_ (ay_ (jq_ret0S (.inr O) O (fun K h=>by rw [hres] at h; exact h) (bc_ 1 O (bc_ 1 O sub_end))))))
theorem uses_c (M:List (ByteArray × Int)) (t:T):Con Tryz.prog 152 [.cell (.map (mapE (Value.int .i64) M)),.row t.row'] [] (fun K=>K (Bl (useM M t)) []):=by
 refine con_intro Tryz.func152 O O b_ (fun c hc=>R_ (o_ O (cj_ O (fun bx=>o_ O (ci_ O (fun bx=>E_ O (T_ (R_ (o_ O (bl_ O O (fun bl=>W_ 0 O (T_ (R_ (A_ 1 O (o_ O (ow_makeFunc O (o_ O (bi_ [0,1] O O (parts1_c 195 [PV _,PV _] O _ _ _ (qM M) (useM M) (useM_eq M) (fun x v=>uses1_c _ _ M x v) t true) (T_ (R_ ?_))))))))))))))))))))
 exact L_ 0 O (E_ O (T_ (ar_ (jq_ret1S O O (fun K h=>h) sub_end))))
theorem statement1_c (bn:Nat) (M:List (ByteArray × Int)) (t:T):Con Tryz.prog 151 [.row t.row',Ptr bn] [NmC bn M] (fun K=>K (Bl (!useM M t)) [NmC bn M]):=by
 have hU:=uses_c M t
 exact con_intro Tryz.func151 O O b_ (fun c hc=>R_ (o_ O (ci_ O (fun bx=>E_ O (T_ (R_ (L_ 1 O (A_ 0 O (o_ O (bm_ O (hU) (o_ O (cd_ O (E_ O (T_ (ar_ (jq_ret1S O O (fun K h=>h) (bc_ 1 O sub_end)))))))))))))))))
theorem not_any_not {α:Type} (p:α→Bool):∀ l:List α,(!l.any (fun x=>!p x))=l.all p
 | []=>rfl
 | x :: l=>by rw [List.any_cons,List.all_cons,Bool.not_or,Bool.not_not,not_any_not p l]
theorem statement_c (M:List (ByteArray × Int)) (p:Pg) (s:Sm) (hI:s.index.length≤1000) (hV:s.value.length≤1000):Con Tryz.prog 101 [.cell (.map (mapE (Value.int .i64) M)),.row p.row,.row s.row'] [] (fun K=>K (Bl (nmM M p.res s)) []):=by
 have hE:=exprs_c s hI hV
 have e0:nmM M p.res s=((if s.kind=1 then decide ((aget M s.name).getD 0=1) else if s.kind=2 then decide ((aget M s.name).getD 0=2) else if s.kind=5 then hasB p.res s.name else true) && (s.index ++ s.value).all (useM M)):=rfl
 generalize s.index ++ s.value=A at hE e0
 have hT:=not_any_not (useM M) A
 have hX:=fun bn=>hasEx1_c 151 [PV bn] rfl (NmC bn M) (fun x=>!useM M x) A (fun x _=>statement1_c bn M x)
 refine con_intro Tryz.func101 O O b_ (fun c hc=>?_)
 by_cases hk1:s.kind=1
 ·have hk2:¬ s.kind=2:=by omega
  have hk5:¬ s.kind=5:=by omega
  rw [if_pos hk1] at e0
  by_cases hg:(aget M s.name).getD 0=1
  ·have hg2:¬ (aget M s.name).getD 0≠1:=fun h=>h hg
   rw [decide_eq_true hg,Bool.true_and] at e0
   refine R_ (o_ O (cj_ O (fun bx=>o_ O (ci_ O (fun bx=>o_ O (ci_ O (fun bx=>E_ O (T_ (am_ (YB ?_))))))))))
   refine Zu ?_
   refine Wf ?_
   refine ap_ O w_ (as_ (ay_ (al_ (R_ (A_ 0 O (o_ O (bm_ O (hE) (o_ O (ow_makeFunc O ?_)))))))))
   exact o_ O (bi_ [2] O O (hX _) (o_ O (cd_ O (E_ O (T_ (ar_ (jq_ret1S O O (fun K h=>by rw [e0,← hT] at h; exact h) sub_end)))))))
  ·rw [decide_eq_false hg,Bool.false_and] at e0
   refine R_ (o_ O (cj_ O (fun bx=>o_ O (ci_ O (fun bx=>o_ O (ci_ O (fun bx=>E_ O (T_ (am_ (YB ?_))))))))))
   refine Zu ?_
   refine aq_ O u_ (R_ (L_ 2 O (F_ O (L_ 0 O (o_ O (ow_mapGetI (κ:=ByteArray) (M:=M) O O O O (o_ O (bx_ O O (T_ (aq_ O u_ (R_ (E_ O (T_ (ar_ (az_ (aw_ (jq_ret1 O O [] O (fun K h=>by rw [e0] at h; exact h))))))))))))))))))
 by_cases hk2:s.kind=2
 ·have hk5:¬ s.kind=5:=by omega
  rw [if_neg hk1,if_pos hk2] at e0
  by_cases hg:(aget M s.name).getD 0=2
  ·have hg2:¬ (aget M s.name).getD 0≠2:=fun h=>h hg
   rw [decide_eq_true hg,Bool.true_and] at e0
   refine R_ (o_ O (cj_ O (fun bx=>o_ O (ci_ O (fun bx=>o_ O (ci_ O (fun bx=>E_ O (T_ (am_ (YB ?_))))))))))
   refine Zu ?_
   refine ap_ O w_ (Zu ?_)
   refine Wf ?_
   refine ap_ O w_ (as_ (ay_ ?_))
   exact al_ (R_ (A_ 0 O (o_ O (bm_ O (hE) (o_ O (ow_makeFunc O (o_ O (bi_ [2] O O (hX _) (o_ O (cd_ O (E_ O (T_ (ar_ (jq_ret1S O O (fun K h=>by rw [e0,← hT] at h; exact h) sub_end))))))))))))))
  ·rw [decide_eq_false hg,Bool.false_and] at e0
   refine R_ (o_ O (cj_ O (fun bx=>o_ O (ci_ O (fun bx=>o_ O (ci_ O (fun bx=>E_ O (T_ (am_ (YB ?_))))))))))
   refine Zu ?_
   refine ap_ O w_ (Zu ?_)
   refine Wf ?_
   refine aq_ O u_ (R_ (E_ O ?_))
   refine T_ (ar_ (az_ (aw_ (jq_ret1 O O [] O (fun K h=>by rw [e0] at h; exact h)))))
 by_cases hk5:s.kind=5
 ·rw [if_neg hk1,if_neg hk2,if_pos hk5] at e0
  have hC:Con Tryz.prog 96 [.cell (.list (p.res.map Wrow)),Str s.name] [] (fun K=>K (Bl (hasB p.res s.name)) []):=Contains_c p.res s.name
  cases hg:hasB p.res s.name with
  | true =>
   rw [hg] at hC
   rw [hg,Bool.true_and] at e0
   refine R_ (o_ O (cj_ O (fun bx=>o_ O (ci_ O (fun bx=>o_ O (ci_ O (fun bx=>E_ O (T_ (am_ (YB ?_))))))))))
   refine Zu ?_
   refine ap_ O w_ (Zc ?_)
   refine E_ O (T_ (aq_ O u_ (R_ (F_ O (L_ 1 O (F_ O (L_ 0 O ?_)))))))
   refine o_ O (bm_ O (hC) (o_ O (cd_ O (T_ (ap_ O O (as_ (ay_ (al_ (R_ (A_ 0 O (o_ O (bm_ O (hE) (o_ O (ow_makeFunc O (o_ O (bi_ [2] O O (hX _) (o_ O (cd_ O (E_ O (T_ (ar_ ?_)))))))))))))))))))))
   exact jq_ret1S O O (fun K h=>by rw [e0,← hT] at h; exact h) sub_end
  | false =>
   rw [hg] at hC
   rw [hg,Bool.false_and] at e0
   refine R_ (o_ O (cj_ O (fun bx=>o_ O (ci_ O (fun bx=>o_ O (ci_ O (fun bx=>E_ O (T_ (am_ (YB ?_))))))))))
   refine Zu ?_
   refine ap_ O w_ (Zc ?_)
   refine E_ O (T_ (aq_ O u_ (R_ (F_ O (L_ 1 O (F_ O (L_ 0 O ?_)))))))
   refine o_ O (bm_ O (hC) (o_ O (cd_ O (ZK ?_))))
   refine az_ (aw_ (jq_ret1 O O [] O (fun K h=>by rw [e0] at h; exact h)))
 rw [if_neg hk1,if_neg hk2,if_neg hk5,Bool.true_and] at e0
 refine R_ (o_ O (cj_ O (fun bx=>o_ O (ci_ O (fun bx=>o_ O (ci_ O (fun bx=>E_ O (T_ (am_ (YB ?_))))))))))
 refine Zu ?_
 refine ap_ O w_ (Zc ?_)
 refine E_ O (T_ (ap_ O w_ (as_ (ay_ (al_ (R_ (A_ 0 O ?_)))))))
 exact o_ O (bm_ O (hE) (o_ O (ow_makeFunc O (o_ O (bi_ [2] O O (hX _) (o_ O (cd_ O (E_ O (T_ (ar_ (jq_ret1S O O (fun K h=>by rw [e0,← hT] at h; exact h) sub_end)))))))))))
theorem called1_c (p:Pg) (bp:Nat) (x:Shd):Con Tryz.prog 95 [.row (ShRow x),Ptr bp] [.blk bp 31 p.row] (fun K=>K (Bl (!hasB p.res x.2.2)) [.blk bp 31 p.row]):=by
 have hC:Con Tryz.prog 96 [.cell (.list (p.res.map Wrow)),Str x.2.2] [] (fun K=>K (Bl (hasB p.res x.2.2)) []):=Contains_c p.res x.2.2
 refine con_intro Tryz.func95 O O b_ (fun c hc=>Wv (fun bx=>?_))
 refine R_ (F_ O (L_ 1 O (F_ O (L_ 0 O (o_ O (bm_ O (hC) (o_ O (cd_ O (E_ O (T_ (ar_ (jq_ret1S O O (fun K h=>h) ?_))))))))))))
 exact WE
theorem called2_c (p:Pg) (bn bp:Nat) (M:List (ByteArray × Int)) (s:Sm) (hI:s.index.length≤1000) (hV:s.value.length≤1000):Con Tryz.prog 100 [.row s.row',Ptr bn,Ptr bp] [NmC bn M,.blk bp 31 p.row] (fun K=>K (Bl (nmM M p.res s)) [NmC bn M,.blk bp 31 p.row]):=by
 have hS:=statement_c M p s hI hV
 exact con_intro Tryz.func100 O O b_ (fun c hc=>R_ (o_ O (ci_ O (fun bx=>E_ O (T_ (R_ (L_ 1 O (A_ 2 O (A_ 0 O (o_ O (bm_ O (hS) (E_ O (T_ (ar_ (jq_ret1S O O (fun K h=>h) (bc_ 1 O (bc_ 1 O sub_end)))))))))))))))))
def inpF (l:List Inp) (nm:ByteArray):Inp:=(l.find? (fun x=>decide (x.1=nm))).getD (⟨#[]⟩,0,0)
theorem inp_yes {l:List Inp} {nm:ByteArray} {k:Nat} (h:k < l.length) (h0:hasB ((l.take k).map (·.1)) nm=false) (h1:l[k].1=nm):inpF l nm=l[k]∧hasB (l.map (·.1)) nm=true:=by
 constructor
 ·unfold inpF
  have hf:l.find? (fun x=>decide (x.1=nm))=some l[k]:=List.find?_eq_some_iff_getElem.2 ⟨decide_eq_true h1,k,h,rfl,fun j hj=>by
   have:=List.any_eq_false.1 h0 l[j].1 (List.mem_map_of_mem (by rw [List.mem_take_iff_getElem]; exact ⟨j,by omega,rfl⟩))
   simpa using this⟩
  rw [hf]; rfl
 ·rw [hasB_iff,← h1]
  exact List.mem_map_of_mem (List.getElem_mem h)
theorem inp_no {l:List Inp} {nm:ByteArray} (h0:hasB (l.map (·.1)) nm=false):inpF l nm=(⟨#[]⟩,0,0):=by
 unfold inpF
 have hf:l.find? (fun x=>decide (x.1=nm))=none:=List.find?_eq_none.2 (fun x hx=>List.any_eq_false.1 h0 x.1 (List.mem_map_of_mem hx))
 rw [hf]; rfl
theorem input_c (t:Tk) (nm:ByteArray):Con Tryz.prog 98 [.row t.row,Str nm] [] (fun K=>K (.tup [.row (InRow (inpF t.inputs nm)),Bl (hasB (t.inputs.map (·.1)) nm)]) []):=by
 refine con_intro Tryz.func98 O O b_ (fun c hc=>R_ (o_ O (ci_ O (fun bx=>o_ O (bl_ O O (fun bl=>E_ O (T_ (am_ (R_ (F_ O (L_ 1 O (o_ O (br_ O (fun hlen=>M_ O (T_ (au_ ?_))))))))))))))))
 refine jc_loopS (ι:=Nat) [] (fun k=>k≤(t.inputs).length∧hasB ((t.inputs.take k).map (·.1)) nm=false) (fun k=>(11,In .i64 (k:Int)) :: [(1,Str nm),(4,.cell (.val (.pointer (some ⟨bl,0,none⟩)))),(9,.cell (.list (t.inputs.map InRow))),(10,In .i64 ((t.inputs.map InRow).length:Int))]) (fun k=>[.blk bl 92 [.val (.string ⟨#[]⟩),.val (.int .i64 0),.val (.int .i64 0)]]) (fun k=>(t.inputs).length - k) 0 ⟨Nat.zero_le _,rfl⟩ ?_ ?_ ?_
 ·exact Wy
 ·exact Ww
 rintro k ⟨hk,hI⟩
 have eLk:((t.inputs).map InRow).length=(t.inputs).length:=List.length_map _
 by_cases hltk:k < (t.inputs).length
 ·have hltk2:(k:Int) < (((t.inputs).map InRow).length:Int):=by omega
  by_cases he:(t.inputs[k]).1=nm
  ·obtain ⟨hr1,hr2⟩:=inp_yes hltk hI he
   refine Zj ?_
   refine Zm (fun bl=>?_)
   refine R_ (F_ O ?_)
   refine L_ 0 O (M_ O (o_ O (cs_ O O (T_ (aq_ O u_ (R_ (A_ 0 O (S_ 1 O (E_ O (T_ (ar_ (az_ (aw_ (aw_ (az_ (aw_ ?_))))))))))))))))
   exact jq_retRowT O O O O O 0 O (fun K h=>by rw [hr1,hr2] at h; exact h) sub_end
  ·refine Zj ?_
   refine Zm (fun bl=>?_)
   refine R_ (F_ O ?_)
   refine L_ 0 O (M_ O (o_ O (cs_ O O (T_ (ap_ O w_ (as_ (Zx ?_)))))))
   refine jq_againS (i:=k) (k+1) ⟨hltk,by rw [List.take_succ_eq_append_getElem hltk,List.map_append,List.map_cons,List.map_nil,hasB_app,hI,hasB_one,decide_eq_false he]; rfl⟩ g_ ?_ ?_
   ·exact WE
   ·exact Ww
 ·have hltk2:¬ (k:Int) < (((t.inputs).map InRow).length:Int):=by omega
  rw [List.take_of_length_le (by omega)] at hI
  have hr1:=inp_no hI
  have hr2:=hI
  refine R_ (o_ O (Zl ?_))
  refine al_ (R_ (o_ O (bu_ O O O O O (S_ 0 O (E_ O (T_ (ar_ ?_)))))))
  exact jq_retRowT O O O O O 0 O (fun K h=>by rw [hr1,hr2] at h; exact h) sub_end
end Go.Proofs.YtalkkcfojplmdaaGreatDoor
end
section
namespace Go.Proofs.YtalkkcfojplmdaaGreatDoor
open Go.Vc
attribute [local irreducible] JL JC JQ OpWp Con ConN HOk
set_option maxHeartbeats 4000000
theorem all_step {α:Type} {p:α→Bool} {l:List α} {k:Nat} {z:Bool} (h:k < l.length):(z && (l.take (k+1)).all p)=(z && (l.take k).all p && p l[k]):=by
 rw [List.take_succ_eq_append_getElem h,List.all_append,List.all_cons,List.all_nil,Bool.and_true,Bool.and_assoc]
theorem namT_M {p:Pg} {t:Tk} (h:dupB (scaL t ++ arrL p.shared t)=false):Sm.nmss (scaL t) (arrL p.shared t) p.res t.body=Sm.alls (nmM (fillF [] (declL p.shared t)) p.res) t.body:=by
 rw [nmss_alls]
 congr 1
 funext s
 exact (nmM_B (decl_get h) s).symm
theorem called_c (p:Pg) (hp:PgOk p):Con Tryz.prog 51 [.row p.row] [] (fun K=>K (Bl (namB p)) []):=by
 have hsz:=hp.sz.shared
 have hsl:=hp.sz.len
 refine con_intro Tryz.func51 O O b_ (fun c hc=>Wv (fun bx=>?_))
 refine R_ (E_ O (T_ (am_ (Yh ?_))))
 refine br_ O (fun hlen=>M_ O (T_ (au_ ?_)))
 refine jc_ownNil 9 1 g_ ?_
 refine jc_loopS (ι:=Nat × Value × List _) [] (fun i=>i.1≤(p.tasks).length∧i.2.2=((p.tasks).take i.1).map (·.name)) (fun i=>(18,In .i64 (i.1:Int)) :: (3,.cell (.val i.2.1)) :: [(1,.cell (.val (.pointer (some ⟨bx,0,none⟩)))),(16,.cell (.list (p.tasks.map Tk.row))),(17,In .i64 ((p.tasks.map Tk.row).length:Int))]) (fun i=>(.own i.2.1 9 1 (i.2.2.map Wrow)) :: [.blk bx 31 p.row]) (fun i=>(p.tasks).length - i.1) (0,.slice none 0 0,[]) ⟨Nat.zero_le _,rfl⟩ ?_ ?_ ?_
 ·exact Wx
 ·exact Ww
 rintro ⟨q,v,B⟩ hz
 dsimp only at hz ⊢
 obtain ⟨hq,hB⟩:=hz
 have eLq:((p.tasks).map Tk.row).length=(p.tasks).length:=List.length_map _
 by_cases hltq:q < (p.tasks).length
 ·have hltq2:(q:Int) < (((p.tasks).map Tk.row).length:Int):=by omega
  have hBl:=congrArg List.length hB
  simp only [List.length_map,List.length_take] at hBl
  refine Zj ?_
  refine Zm (fun bl=>?_)
  refine an_ (M_ O ?_)
  refine F_ O (L_ 0 O (YK ?_))
  refine ow_append1 1 ((·.name) (p.tasks)[q]) O O O O O O O (fun _=>O) (by show (_+_) * 16≤_; first | omega | (simp only [List.length_append]; omega)) (by first | omega | (simp only [List.length_append]; omega)) (fun v1 hv1=>E_ O (ak_ (Zx ?_)))
  refine jq_againS (i:=(q,v,B)) (q+1,v1,B ++ [(·.name) (p.tasks)[q]]) ⟨hltq,by dsimp only; rw [hB,List.take_succ_eq_append_getElem hltq,List.map_append]; simp only [List.map_cons,List.map_nil]⟩ (by dsimp only; omega) ?_ ?_
  ·exact bc_ 0 O (bc_ 1 O sub_end)
  ·exact Ww
 ·have hltq2:¬ (q:Int) < (((p.tasks).map Tk.row).length:Int):=by omega
  rw [List.take_of_length_le (by omega)] at hB
  subst hB
  refine R_ (o_ O (Zl ?_))
  refine al_ (am_ (am_ (jc_freeze 3 0 O O (by rw [hc]; simp [hb]) ?_)))
  have c1:=ctwice_c p.res
  have c2:=ctwice_c (p.tasks.map (·.name))
  have c3:=hasSh1_c 95 [PV bx] rfl (.blk bx 31 p.row) (fun x=>!hasB p.res x.2.2) p.shared (fun x _=>called1_c p bx x)
  cases hd1:dupB p.res with
  | true =>
   rw [hd1] at c1
   have hres:namB p=false:=by unfold namB; rw [hd1]; rfl
   refine an_ (F_ O (L_ 0 O (o_ O (bm_ O (c1) (M_ O (Z5 ?_))))))
   refine M_ O (Zd ?_)
   refine Wc ?_
   exact WN
  | false =>
   rw [hd1] at c1
   cases hd2:dupB (p.tasks.map (·.name)) with
   | true =>
    rw [hd2] at c2
    have hres:namB p=false:=by unfold namB; rw [hd1,hd2]; rfl
    refine an_ (F_ O (L_ 0 O (o_ O (bm_ O (c1) (M_ O (Zs ?_))))))
    refine bm_ O (c2) (o_ O (bv_ O O O (M_ O (Zd ?_))))
    refine Wc ?_
    exact WN
   | false =>
    rw [hd2] at c2
    have hn3:=not_any_not (fun x:Shd=>hasB p.res x.2.2) p.shared
    cases hd3:p.shared.any (fun x=>!hasB p.res x.2.2) with
    | true =>
     rw [hd3] at c3 hn3
     have hres:namB p=false:=by unfold namB; rw [← hn3]; simp
     refine an_ (F_ O (L_ 0 O (o_ O (bm_ O (c1) (M_ O (Zs ?_))))))
     refine bm_ O (c2) (o_ O (bv_ O O O (M_ O (Ze ?_))))
     refine ow_makeFunc O (ah_ O O b_ (bi_ [0] O O c3 (o_ O (bv_ O O O (T_ (aq_ O O ?_))))))
     exact WN
    | false =>
     rw [hd3] at c3 hn3
     have h0:namB p=p.tasks.all (namT p.res p.shared):=by unfold namB; rw [hd1,hd2,← hn3]; rfl
     refine an_ (F_ O (L_ 0 O (o_ O (bm_ O (c1) (M_ O (Zs ?_))))))
     refine bm_ O (c2) (o_ O (bv_ O O O (M_ O (Ze ?_))))
     refine ow_makeFunc O (ah_ O O b_ (bi_ [0] O O c3 (o_ O (bv_ O O O (T_ (ap_ O O ?_))))))
     refine as_ (al_ (am_ (Yh ?_)))
     refine br_ O (fun hlen=>M_ O (T_ (au_ ?_)))
     refine jc_loopS (ι:=Nat) [] (fun k=>k≤(p.tasks).length∧(p.tasks.take k).all (namT p.res p.shared)=true) (fun k=>(44,In .i64 (k:Int)) :: [(1,.cell (.val (.pointer (some ⟨bx,0,none⟩)))),(42,.cell (.list (p.tasks.map Tk.row))),(43,In .i64 ((p.tasks.map Tk.row).length:Int))]) (fun k=>[.blk bx 31 p.row]) (fun k=>(p.tasks).length - k) 0 ⟨Nat.zero_le _,rfl⟩ ?_ ?_ ?_
     ·exact Wy
     ·exact Ww
     rintro k ⟨hk,hA⟩
     have eLk:((p.tasks).map Tk.row).length=(p.tasks).length:=List.length_map _
     by_cases hltk:k < (p.tasks).length
     ·have hltk2:(k:Int) < (((p.tasks).map Tk.row).length:Int):=by omega
      have zt:=hp.sz.tasks _ (List.getElem_mem hltk)
      have z4:=zt.modes
      have cD:=declare_c p (p.tasks[k]) zt hsz
      refine Zj ?_
      refine Zm (fun bl=>?_)
      refine R_ (A_ 1 O ?_)
      refine A_ 0 O (o_ O (bm_ O (cD) (M_ O (X_ O (X_ O (o_ O (bl_ O O (fun bl=>W_ 0 O (E_ O (T_ (R_ (E_ O (T_ (am_ (R_ (F_ O (L_ 1 O ?_)))))))))))))))))
      refine o_ O (br_ O (fun hlen=>M_ O (T_ (au_ ?_))))
      rename_i bt
      refine jc_ownNil 9 1 g_ ?_
      refine jc_loopS (ι:=Nat × Value × List ByteArray) [] (fun i=>i.1≤((p.tasks[k]).modes).length∧i.2.2=((p.tasks[k]).modes.take i.1).map (·.1)) (fun i=>(57,In .i64 (i.1:Int)) :: (9,Bl (!dupB (scaL (p.tasks[k]) ++ arrL p.shared (p.tasks[k])) && ((p.tasks[k]).modes.take i.1).all (fun x=>hasB ((p.tasks[k]).inputs.map (·.1)) x.2.1))) :: (10,.cell (.val i.2.1)) :: [(55,.cell (.list ((p.tasks[k]).modes.map MdRow))),(56,In .i64 (((p.tasks[k]).modes.map MdRow).length:Int)),(8,.cell (.val (.pointer (some ⟨bl,0,none⟩)))),(7,.cell (.val (.pointer (some ⟨bt,0,none⟩)))),(1,.cell (.val (.pointer (some ⟨bx,0,none⟩)))),(42,.cell (.list (p.tasks.map Tk.row))),(43,In .i64 ((p.tasks.map Tk.row).length:Int)),(44,In .i64 (k:Int))]) (fun i=>(.own i.2.1 9 1 (i.2.2.map Wrow)) :: [NmC bl (fillF [] (declL p.shared (p.tasks[k]))),.blk bt 39 (p.tasks[k]).row,.blk bx 31 p.row]) (fun i=>((p.tasks[k]).modes).length - i.1) (0,.slice none 0 0,[]) ⟨Nat.zero_le _,rfl⟩ ?_ ?_ ?_
      ·refine Y8 ?_
       exact Wy
      ·rw [show (!dupB (scaL (p.tasks[k]) ++ arrL p.shared (p.tasks[k])) && ((p.tasks[k]).modes.take 0).all (fun x=>hasB ((p.tasks[k]).inputs.map (·.1)) x.2.1))=!dupB (scaL (p.tasks[k]) ++ arrL p.shared (p.tasks[k])) by simp]
       exact Ww
      rintro ⟨m,v,B⟩ hz
      dsimp only at hz ⊢
      obtain ⟨hm,hB⟩:=hz
      have eLm:(((p.tasks[k]).modes).map MdRow).length=((p.tasks[k]).modes).length:=List.length_map _
      by_cases hltm:m < ((p.tasks[k]).modes).length
      ·have hltm2:(m:Int) < ((((p.tasks[k]).modes).map MdRow).length:Int):=by omega
       have hBl:=congrArg List.length hB
       simp only [List.length_map,List.length_take] at hBl
       have cI:=input_c (p.tasks[k]) ((p.tasks[k]).modes[m]).2.1
       refine Zj ?_
       refine Zm (fun bl=>?_)
       refine R_ (A_ 3 O ?_)
       refine F_ O (L_ 0 O (o_ O (bm_ O (cI) (M_ O (X_ O (X_ O (o_ O (bl_ O O (fun bl=>S_ 0 O (E_ O (T_ (R_ (M_ O (M_ O (jl_and 1 1 O O O O (nb O) ?_)))))))))))))))
       apply Exists.intro
       refine ⟨fun hb1=>?_,?_⟩
       exact WM
       refine E_ O (T_ (an_ (M_ O (F_ O (L_ 1 O (YK ?_))))))
       refine ow_append1 2 (((p.tasks[k]).modes[m]).1) O O O O O O O (fun _=>O) (by show (_+_) * 16≤_; first | omega | (simp only [List.length_append]; omega)) (by first | omega | (simp only [List.length_append]; omega)) (fun v1 hv1=>E_ O (ak_ (Zx ?_)))
       refine jq_againS (i:=(m,v,B)) (m+1,v1,B ++ [((p.tasks[k]).modes[m]).1]) ⟨hltm,by dsimp only; rw [hB,List.take_succ_eq_append_getElem hltm,List.map_append]; simp only [List.map_cons,List.map_nil]⟩ (by dsimp only; omega) ?_ ?_
       ·exact bc_ 0 O (bc_ 2 O (bc_ 2 O (bc_ 2 O sub_end)))
       ·rw [all_step hltm]
        exact Ww
      ·have hltm2:¬ (m:Int) < ((((p.tasks[k]).modes).map MdRow).length:Int):=by omega
       rw [List.take_of_length_le (by omega)] at hB
       subst hB
       refine R_ (o_ O (Zl ?_))
       refine al_ (am_ (jc_freeze 10 0 O O (by rw [hc]; simp [hb]) ?_))
       rw [List.take_of_length_le (by omega)]
       have cT1:=ctwice_c ((p.tasks[k]).modes.map (·.1))
       cases h4:(p.tasks[k]).modes.all (fun x=>hasB ((p.tasks[k]).inputs.map (·.1)) x.2.1) with
       | false =>
        rw [Bool.and_false]
        have hno:namT p.res p.shared (p.tasks[k])=false:=by unfold namT; rw [h4]; rfl
        have hres:namB p=false:=by rw [h0]; exact all_no hltk hno
        refine an_ (M_ O (o_ O (cd_ O (M_ O (Z5 ?_)))))
        refine M_ O (Zd ?_)
        refine ai_ O O b_ (Wc ?_)
        refine Zr ?_
        exact WK
       | true =>
        rw [Bool.and_true]
        cases h6:dupB (scaL (p.tasks[k]) ++ arrL p.shared (p.tasks[k])) with
        | true =>
         have hno:namT p.res p.shared (p.tasks[k])=false:=by unfold namT; rw [h4,h6]; simp
         have hres:namB p=false:=by rw [h0]; exact all_no hltk hno
         refine an_ (M_ O (o_ O (cd_ O (M_ O (Z5 ?_)))))
         refine M_ O (Zd ?_)
         refine ai_ O O b_ (Wc ?_)
         refine Zr ?_
         exact WK
        | false =>
         cases h5:dupB ((p.tasks[k]).modes.map (·.1)) with
         | true =>
          rw [h5] at cT1
          have hno:namT p.res p.shared (p.tasks[k])=false:=by unfold namT; rw [h4,h5]; rfl
          have hres:namB p=false:=by rw [h0]; exact all_no hltk hno
          refine an_ (M_ O (o_ O (cd_ O (M_ O (Zs ?_)))))
          refine bm_ O (cT1) (o_ O (bv_ O O O (M_ O (Zd ?_))))
          refine ai_ O O b_ (Wc ?_)
          refine Zr ?_
          exact WK
         | false =>
          rw [h5] at cT1
          have cE:=fun bn bp=>each2_c 100 [PV bn,PV bp] rfl (NmC bn (fillF [] (declL p.shared (p.tasks[k])))) (.blk bp 31 p.row) (nmM (fillF [] (declL p.shared (p.tasks[k]))) p.res) (Sm.alls (nmM (fillF [] (declL p.shared (p.tasks[k]))) p.res)) (Sm.alls_all _) (fun s z1 z2=>called2_c p bn bp (fillF [] (declL p.shared (p.tasks[k]))) s z1 z2) (p.tasks[k]).body (hp.ls _ (List.getElem_mem hltk))
          cases h7:Sm.alls (nmM (fillF [] (declL p.shared (p.tasks[k]))) p.res) (p.tasks[k]).body with
          | false =>
           rw [h7] at cE
           have hno:namT p.res p.shared (p.tasks[k])=false:=by unfold namT; rw [h4,h5,h6,namT_M h6,h7]; rfl
           have hres:namB p=false:=by rw [h0]; exact all_no hltk hno
           refine an_ (M_ O (o_ O (cd_ O (M_ O (Zs ?_)))))
           refine bm_ O (cT1) (o_ O (bv_ O O O (YC ?_)))
           refine bg_ 1 O O O O (ah_ O O b_ (ow_makeFunc O (ah_ O O b_ (bi_ [0,1] O O (cE _ _) (ZQ ?_)))))
           refine T_ (aq_ O O ?_)
           refine Zr ?_
           exact WK
          | true =>
           rw [h7] at cE
           have hyes:namT p.res p.shared (p.tasks[k])=true:=by unfold namT; rw [h4,h5,h6,namT_M h6,h7]; rfl
           refine an_ (M_ O (o_ O (cd_ O (M_ O (Zs ?_)))))
           refine bm_ O (cT1) (o_ O (bv_ O O O (YC ?_)))
           refine bg_ 1 O O O O (ah_ O O b_ (ow_makeFunc O (ah_ O O b_ (bi_ [0,1] O O (cE _ _) (ZQ ?_)))))
           refine T_ (ap_ O O ?_)
           refine as_ (Zx ?_)
           refine jq_againS (i:=k) (k+1) ⟨hltk,all_snoc hltk hA hyes⟩ g_ ?_ ?_
           ·exact WE
           ·exact Ww
     ·have hltk2:¬ (k:Int) < (((p.tasks).map Tk.row).length:Int):=by omega
      rw [List.take_of_length_le (by omega)] at hA
      have hres:namB p=true:=by rw [h0]; exact hA
      refine R_ (o_ O (Zl ?_))
      exact WJ
end Go.Proofs.YtalkkcfojplmdaaGreatDoor
end
section
namespace Go.Proofs.YtalkkcfojplmdaaGreatDoor
open Go.Vc
attribute [local irreducible] JL JC JQ OpWp Con ConN HOk
set_option maxHeartbeats 4000000
theorem cwithin_c (n lo hi:Int):Con Tryz.prog 103 [In .i64 n,In .i64 lo,In .i64 hi] [] (fun K=>K (Bl (decide (lo≤n) && decide (n≤hi))) []):=by
 refine con_intro Tryz.func103 O O b_ (fun c hc=>R_ (E_ O (T_ (R_ (M_ O (M_ O (o_ O (cn_ O O (M_ O (jl_and 3 3 O O O O (nb O) ?_))))))))))
 apply Exists.intro
 refine ⟨fun hb1=>?_,?_⟩
 refine Z8 ?_
 exact bd_ O (ah_ O h_ b_ (cu_ O O (ak_ (jq_seg 3 O O O (List.Perm.refl _)))))
 refine E_ O (T_ (ar_ (jq_ret1 O O [] O (fun K h=>h))))
theorem and_size {n:Int} (h:1≤n∧n≤16):decide (andW n (n - 1)=0)=sizeB n:=by
 have:n=1 ∨ n=2 ∨ n=3 ∨ n=4 ∨ n=5 ∨ n=6 ∨ n=7 ∨ n=8 ∨ n=9 ∨ n=10 ∨ n=11 ∨ n=12 ∨ n=13 ∨ n=14 ∨ n=15 ∨ n=16:=by omega
 rcases this with rfl | rfl | rfl | rfl | rfl | rfl | rfl | rfl | rfl | rfl | rfl | rfl | rfl | rfl | rfl | rfl <;> decide +kernel
theorem csize_c (n:Int):Con Tryz.prog 102 [In .i64 n] [] (fun K=>K (Bl (sizeB n)) []):=by
 have hW:=cwithin_c n 1 16
 refine con_intro Tryz.func102 O O b_ (fun c hc=>?_)
 by_cases h:1≤n∧n≤16
 ·have hA:=and_size h
  rw [decide_eq_true h.1,decide_eq_true h.2,Bool.and_true] at hW
  refine R_ (YX ?_)
  refine bm_ O (hW) (M_ O (Zs ?_))
  refine bd_ O (ah_ O O b_ (cg_ O O g_ (ah_ O O b_ (ow_and64 O O (ah_ O O b_ (bn_ O O (o_ O (bp_ O O O (E_ O (T_ (ar_ ?_)))))))))))
  refine jq_ret1 O O [] O (fun K h=>by rw [← hA] at h; exact h)
 ·have hw:(decide (1≤n) && decide (n≤16))=false:=by
   simp only [Bool.and_eq_false_iff,decide_eq_false_iff_not]
   omega
  have hres:sizeB n=false:=by
   unfold sizeB
   simp only [Bool.or_eq_false_iff,decide_eq_false_iff_not]
   omega
  rw [hw] at hW
  refine R_ (YX ?_)
  refine bm_ O (hW) (M_ O (Zd ?_))
  refine ai_ O O b_ (o_ O (bv_ O O O (E_ O (T_ (ar_ ?_)))))
  refine jq_ret1 O O [] O (fun K h=>by rw [hres] at h; exact h)
theorem wordIs_c (n:Int):Con Tryz.prog 126 [In .i64 n] [] (fun K=>K (Bl (decide (-2147483648≤n) && decide (n < 2147483648))) []):=by
 have e:(decide (-2147483648≤n) && decide (n < 2147483648))=(decide (n ≥ -2147483648) && decide (n≤2147483647)):=by
  congr 1
  rw [decide_eq_decide]
  omega
 rw [e]
 refine con_intro Tryz.func126 O O b_ (fun c hc=>R_ (YX ?_))
 refine cn_ O O (M_ O (jl_and 2 2 O O O O (nb O) ?_))
 apply Exists.intro
 refine ⟨fun hb1=>?_,?_⟩
 refine Z8 ?_
 exact cu_ O O (ak_ (jq_seg 2 O O O (List.Perm.refl _)))
 refine E_ O (T_ (ar_ (jq_ret1 O O [] O (fun K h=>h))))
def wdq (x:T):Bool:=decide (-2147483648≤x.num) && decide (x.num < 2147483648)
theorem words1_c (bo:Nat) (x:T) (v:Bool):Con Tryz.prog 154 [.row x.row',Ptr bo] [OkC bo v] (fun K=>K (.tup []) [OkC bo (v && wdq x)]):=by
 have hW:=wordIs_c x.num
 have e:wdq x=(decide (-2147483648≤x.num) && decide (x.num < 2147483648)):=rfl
 rw [← e] at hW
 refine con_intro Tryz.func154 O O b_ (fun c hc=>?_)
 cases v with
 | false =>
  exact R_ (o_ O (ci_ O (fun bx=>T_ (an_ (L_ 1 O (M_ O (ai_ O O b_ (ai_ O O b_ (ai_ O O b_ (o_ O (bv_ O O O (W_ 1 O (ak_ (jq_ret0S (.inr O) O (fun K h=>h) (bc_ 0 O sub_end)))))))))))))))
 | true =>
  refine R_ (o_ O (ci_ O (fun bx=>T_ (an_ (L_ 1 O (M_ O (Ze ?_)))))))
  exact bm_ O (hW) (o_ O (bp_ O O O (W_ 1 O (ak_ (jq_ret0S (.inr O) O (fun K h=>by rw [Bool.true_and] at h; exact h) (bc_ 0 O sub_end))))))
def wdsq (s:Sm):Bool:=decide (0≤s.max) && decide (s.max≤32) && (s.index ++ s.value).all wdT
theorem cwords_c (s:Sm) (hI:s.index.length≤1000) (hV:s.value.length≤1000):Con Tryz.prog 104 [.row s.row'] [] (fun K=>K (Bl (wdsq s)) []):=by
 have hE:=exprs_c s hI hV
 have hW:=cwithin_c s.max 0 32
 have e0:wdsq s=(decide (0≤s.max) && decide (s.max≤32) && (s.index ++ s.value).all wdT):=rfl
 generalize s.index ++ s.value=A at hE e0
 generalize (decide (0≤s.max) && decide (s.max≤32))=z at hW e0
 refine con_intro Tryz.func104 O O b_ (fun c hc=>Wv (fun bx=>?_))
 refine Yh ?_
 refine bm_ O (hW) (o_ O (bl_ O O (fun bl=>W_ 0 O (T_ (am_ (R_ (A_ 1 O (o_ O (bm_ O (hE) ?_)))))))))
 refine o_ O (br_ O (fun hlen=>M_ O (T_ (au_ (jc_loopS (ι:=Nat) [] (fun k=>k≤(A).length) (fun k=>(12,In .i64 (k:Int)) :: [(3,.cell (.val (.pointer (some ⟨bl,0,none⟩)))),(10,.cell (.list (A.map T.row))),(11,In .i64 ((A.map T.row).length:Int))]) (fun k=>[OkC bl (z && (A.take k).all wdT)]) (fun k=>(A).length - k) 0 (Nat.zero_le _) ?_ ?_ ?_)))))
 ·rw [show (z && (A.take 0).all wdT)=z by simp]
  exact Wy
 ·exact Ww
 rintro k hk
 have eLk:((A).map T.row).length=(A).length:=List.length_map _
 by_cases hltk:k < (A).length
 ·have hltk2:(k:Int) < (((A).map T.row).length:Int):=by omega
  have hP:=parts0_c 154 [PV bl] rfl bl 4 wdq wdT wdT_eq (fun x v=>words1_c bl x v) A[k] (z && (A.take k).all wdT)
  refine Zj ?_
  refine Zy ?_
  refine Yt (fun bl=>?_)
  refine an_ (A_ 0 O ?_)
  refine o_ O (ow_makeFunc O (o_ O (bi_ [1] O O hP (ak_ (Zx ?_)))))
  refine jq_againS (i:=k) (k+1) hltk g_ ?_ ?_
  ·rw [all_step hltk]
   exact Wy
  ·exact Ww
 ·have hltk2:¬ (k:Int) < (((A).map T.row).length:Int):=by omega
  rw [List.take_of_length_le (by omega),← e0]
  refine R_ (o_ O (Zl ?_))
  exact al_ (R_ (L_ 0 O (E_ O (T_ (ar_ (jq_ret1S O O (fun K h=>h) sub_end))))))
def ranM1 (ins:List Inp) (m:Md):Bool:=decide (m.2.2.1≤m.2.2.2) && decide ((inpF ins m.2.1).2.1≤m.2.2.1) && decide (m.2.2.2≤(inpF ins m.2.1).2.2)
def ranT1 (t:Tk):Bool:=(decide (1≤t.period) && decide (t.period≤1048576)) && (decide (1≤t.deadline) && decide (t.deadline≤t.period)) && (decide (1≤t.priority) && decide (t.priority≤15)) && (decide (0≤t.jitter) && decide (t.jitter≤t.period)) && t.arrays.all (fun a=>sizeB a.2) && t.inputs.all (fun x=>decide (x.2.1≤x.2.2)) && t.modes.all (ranM1 t.inputs) && Sm.alls wdsq t.body
def ranB1 (p:Pg):Bool:=p.shared.all (fun s=>sizeB s.2.1) && p.tasks.all ranT1
theorem ranM_1 {ins:List Inp} {m:Md} (hd:dupB (ins.map (·.1))=false) (hm:hasB (ins.map (·.1)) m.2.1=true):ranM1 ins m=ranM ins m:=by
 unfold ranM1 ranM
 have hmem:=hasB_iff.1 hm
 obtain ⟨x,hx,hxn⟩:=List.mem_map.1 hmem
 obtain ⟨i,hi,rfl⟩:=List.mem_iff_getElem.1 hx
 have hnd:=dupB_nodup.1 hd
 have huniq:∀ j (hj:j < ins.length),ins[j].1=m.2.1→j=i:=fun j hj hjn=>by
  have:=(List.getElem_inj (i:=j) (j:=i) hnd (h₀:=by rw [List.length_map]; exact hj) (h₁:=by rw [List.length_map]; exact hi)).1 (by rw [List.getElem_map,List.getElem_map,hjn,hxn])
  exact this
 have h0:hasB ((ins.take i).map (·.1)) m.2.1=false:=by
  rw [← Bool.not_eq_true,hasB_iff]
  intro hh
  obtain ⟨y,hy,hyn⟩:=List.mem_map.1 hh
  obtain ⟨j,hj,rfl⟩:=List.mem_take_iff_getElem.1 hy
  have:=huniq j (by omega) hyn
  omega
 rw [(inp_yes hi h0 hxn).1]
 cases hr:(decide (m.2.2.1≤m.2.2.2) && decide (ins[i].2.1≤m.2.2.1) && decide (m.2.2.2≤ins[i].2.2)) with
 | true =>
  symm
  rw [List.all_eq_true]
  intro y hy
  obtain ⟨j,hj,rfl⟩:=List.mem_iff_getElem.1 hy
  by_cases hyn:ins[j].1=m.2.1
  ·obtain rfl:=huniq j hj hyn
   rw [hr,Bool.or_true]
  ·rw [decide_eq_false hyn]; rfl
 | false =>
  symm
  rw [List.all_eq_false]
  refine ⟨ins[i],hx,?_⟩
  rw [hr,decide_eq_true hxn]
  decide
theorem ranT_1 {p:Pg} {t:Tk} (h:namT p.res p.shared t=true):ranT1 t=ranT t:=by
 unfold namT at h
 simp only [Bool.and_eq_true,Bool.not_eq_true'] at h
 obtain ⟨⟨⟨hm,_⟩,hd⟩,_⟩:=h
 have hd2:dupB (t.inputs.map (·.1))=false:=by
  rw [dupB_nodup] at hd ⊢
  exact (List.nodup_append.1 (List.nodup_append.1 hd).1).1
 have e1:t.modes.all (ranM1 t.inputs)=t.modes.all (ranM t.inputs):=all_cong (fun m hmm=>ranM_1 hd2 (List.all_eq_true.1 hm m hmm))
 have e2:Sm.alls wdsq t.body=Sm.wdss t.body:=by rw [wdss_alls]; rfl
 unfold ranT1 ranT
 rw [e1,e2]
 generalize t.arrays.all (fun a=>sizeB a.2)=a1
 generalize t.inputs.all (fun x=>decide (x.2.1≤x.2.2))=a2
 generalize t.modes.all (ranM t.inputs)=a3
 generalize Sm.wdss t.body=a4
 generalize decide (1≤t.period)=c1
 generalize decide (t.period≤1048576)=c2
 generalize decide (1≤t.deadline)=c3
 generalize decide (t.deadline≤t.period)=c4
 generalize decide (1≤t.priority)=c5
 generalize decide (t.priority≤15)=c6
 generalize decide (0≤t.jitter)=c7
 generalize decide (t.jitter≤t.period)=c8
 rw [Bool.eq_iff_iff]
 simp only [Bool.and_eq_true]
 constructor <;> (intro h; simp_all)
theorem ranB_1 {p:Pg} (h:namB p=true):ranB1 p=ranB p:=by
 unfold namB at h
 simp only [Bool.and_eq_true] at h
 unfold ranB1 ranB
 rw [all_cong (fun t ht=>ranT_1 (List.all_eq_true.1 h.2 t ht))]
theorem cranged_c (p:Pg) (hp:PgOk p):Con Tryz.prog 52 [.row p.row] [] (fun K=>K (Bl (ranB1 p)) []):=by
 refine con_intro Tryz.func52 O O b_ (fun c hc=>ZD (fun bx=>?_))
 refine F_ O (L_ 0 O (o_ O (br_ O (fun hlen=>M_ O (T_ (au_ ?_))))))
 refine jc_loopS (ι:=Nat) [] (fun j=>j≤(p.shared).length∧((p.shared).take j).all (fun s=>sizeB s.2.1)=true) (fun j=>(18,In .i64 (j:Int)) :: [(1,.cell (.val (.pointer (some ⟨bx,0,none⟩)))),(16,.cell (.list (p.shared.map ShRow))),(17,In .i64 ((p.shared.map ShRow).length:Int))]) (fun j=>[.blk bx 31 p.row]) (fun j=>(p.shared).length - j) 0 ⟨Nat.zero_le _,rfl⟩ ?_ ?_ ?_
 ·exact Wy
 ·exact Ww
 rintro j ⟨hj,hI⟩
 have eLj:((p.shared).map ShRow).length=(p.shared).length:=List.length_map _
 by_cases hltj:j < (p.shared).length
 ·have hltj2:(j:Int) < (((p.shared).map ShRow).length:Int):=by omega
  refine Zj ?_
  refine Zm (fun bl=>?_)
  refine R_ (F_ O ?_)
  refine F_ O (L_ 0 O (o_ O (bm_ O (csize_c _) (o_ O (cd_ O (T_ (jc_cond O (fun hn=>?_) (fun hy=>?_))))))))
  ·have hp:(fun s=>sizeB s.2.1) (p.shared)[j]=false:=by
    simpa using hn
   have hno:(p.shared).all (fun s=>sizeB s.2.1)=false:=all_no hltj hp
   have hres:ranB1 p=false:=by
    unfold ranB1
    rw [hno]; rfl
   refine Zr ?_
   exact WK
  ·have hp:(fun s=>sizeB s.2.1) (p.shared)[j]=true:=by
    simpa using hy
   refine as_ (Zx ?_)
   refine jq_againS (i:=j) (j+1) ⟨hltj,all_snoc hltj hI hp⟩ g_ ?_ ?_
   ·exact WE
   ·exact Ww
 ·have hltj2:¬ (j:Int) < (((p.shared).map ShRow).length:Int):=by omega
  rw [List.take_of_length_le (by omega)] at hI
  have h0:ranB1 p=p.tasks.all ranT1:=by unfold ranB1; rw [hI]; rfl
  refine R_ (o_ O (Zl ?_))
  refine al_ (am_ (Yh ?_))
  refine br_ O (fun hlen=>M_ O ?_)
  refine T_ (au_ (jc_loopS (ι:=Nat) [] (fun k=>k≤(p.tasks).length∧(p.tasks.take k).all ranT1=true) (fun k=>(31,In .i64 (k:Int)) :: [(1,.cell (.val (.pointer (some ⟨bx,0,none⟩)))),(29,.cell (.list (p.tasks.map Tk.row))),(30,In .i64 ((p.tasks.map Tk.row).length:Int))]) (fun k=>[.blk bx 31 p.row]) (fun k=>(p.tasks).length - k) 0 ⟨Nat.zero_le _,rfl⟩ ?_ ?_ ?_))
  ·exact Wy
  ·exact Ww
  rintro k ⟨hk,hA⟩
  have eLk:((p.tasks).map Tk.row).length=(p.tasks).length:=List.length_map _
  by_cases hltk:k < (p.tasks).length
  ·have hltk2:(k:Int) < (((p.tasks).map Tk.row).length:Int):=by omega
   have eT:ranT1 (p.tasks[k])=(((decide (1≤(p.tasks[k]).period) && decide ((p.tasks[k]).period≤1048576)) && (decide (1≤(p.tasks[k]).deadline) && decide ((p.tasks[k]).deadline≤(p.tasks[k]).period)) && (decide (1≤(p.tasks[k]).priority) && decide ((p.tasks[k]).priority≤15)) && (decide (0≤(p.tasks[k]).jitter) && decide ((p.tasks[k]).jitter≤(p.tasks[k]).period))) && (p.tasks[k]).arrays.all (fun a=>sizeB a.2) && (p.tasks[k]).inputs.all (fun x=>decide (x.2.1≤x.2.2)) && (p.tasks[k]).modes.all (ranM1 (p.tasks[k]).inputs) && Sm.alls wdsq (p.tasks[k]).body):=rfl
   refine Zj ?_
   refine Zm (fun bl=>?_)
   refine am_ (R_ ?_)
   refine F_ O (L_ 0 O (o_ O (bm_ O (cwithin_c _ _ _) (o_ O (cd_ O (M_ O (jl_or 6 4 O O O O (nb O) ?_)))))))
   apply Exists.intro
   refine ⟨fun hb1=>?_,?_⟩
   refine Za ?_
   refine Ye ?_
   exact bm_ O (cwithin_c _ _ _) (ah_ O h_ b_ (cd_ O (ak_ (jq_seg 6 O O O (List.Perm.refl _)))))
   refine M_ O (jl_or 4 12 O O O O (nb O) ?_)
   apply Exists.intro
   refine ⟨fun hb1=>?_,?_⟩
   refine Za ?_
   exact bm_ O (cwithin_c _ _ _) (ah_ O h_ b_ (cd_ O (ak_ (jq_seg 4 O O O (List.Perm.refl _)))))
   refine M_ O (jl_or 6 18 O O O O (nb O) ?_)
   apply Exists.intro
   refine ⟨fun hb1=>?_,?_⟩
   refine Za ?_
   refine Ye ?_
   exact bm_ O (cwithin_c _ _ _) (ah_ O h_ b_ (cd_ O (ak_ (jq_seg 6 O O O (List.Perm.refl _)))))
   refine T_ (jc_cond O (fun hn=>?_) (fun hy=>?_))
   ·have hres:ranB1 p=false:=by
     rw [h0]
     refine all_no hltk ?_
     rw [eT]
     have:((decide (1≤(p.tasks[k]).period) && decide ((p.tasks[k]).period≤1048576)) && (decide (1≤(p.tasks[k]).deadline) && decide ((p.tasks[k]).deadline≤(p.tasks[k]).period)) && (decide (1≤(p.tasks[k]).priority) && decide ((p.tasks[k]).priority≤15)) && (decide (0≤(p.tasks[k]).jitter) && decide ((p.tasks[k]).jitter≤(p.tasks[k]).period)))=false:=by
      revert hn
      cases (decide (1≤(p.tasks[k]).period) && decide ((p.tasks[k]).period≤1048576)) <;> cases (decide (1≤(p.tasks[k]).deadline) && decide ((p.tasks[k]).deadline≤(p.tasks[k]).period)) <;> cases (decide (1≤(p.tasks[k]).priority) && decide ((p.tasks[k]).priority≤15)) <;> cases (decide (0≤(p.tasks[k]).jitter) && decide ((p.tasks[k]).jitter≤(p.tasks[k]).period)) <;> simp
     rw [this]; simp
    exact R_ (E_ O (T_ (ar_ (aw_ (az_ (aw_ (aw_ (az_ (aw_ (jq_ret1S O O (fun K h=>by rw [hres] at h; exact h) sub_end))))))))))
   ·have h1:((decide (1≤(p.tasks[k]).period) && decide ((p.tasks[k]).period≤1048576)) && (decide (1≤(p.tasks[k]).deadline) && decide ((p.tasks[k]).deadline≤(p.tasks[k]).period)) && (decide (1≤(p.tasks[k]).priority) && decide ((p.tasks[k]).priority≤15)) && (decide (0≤(p.tasks[k]).jitter) && decide ((p.tasks[k]).jitter≤(p.tasks[k]).period)))=true:=by
     revert hy
     cases (decide (1≤(p.tasks[k]).period) && decide ((p.tasks[k]).period≤1048576)) <;> cases (decide (1≤(p.tasks[k]).deadline) && decide ((p.tasks[k]).deadline≤(p.tasks[k]).period)) <;> cases (decide (1≤(p.tasks[k]).priority) && decide ((p.tasks[k]).priority≤15)) <;> cases (decide (0≤(p.tasks[k]).jitter) && decide ((p.tasks[k]).jitter≤(p.tasks[k]).period)) <;> simp
    rw [h1,Bool.true_and] at eT
    clear hy
    refine as_ (al_ (am_ (Yh ?_)))
    refine br_ O (fun hlen=>M_ O (T_ (au_ ?_)))
    refine jc_loopS (ι:=Nat) [] (fun a=>a≤((p.tasks[k]).arrays).length∧(((p.tasks[k]).arrays).take a).all (fun a=>sizeB a.2)=true) (fun a=>(64,In .i64 (a:Int)) :: [(62,.cell (.list (((p.tasks[k]).arrays).map ArRow))),(63,In .i64 ((((p.tasks[k]).arrays).map ArRow).length:Int)),(6,.cell (.val (.pointer (some ⟨bl,0,none⟩)))),(1,.cell (.val (.pointer (some ⟨bx,0,none⟩)))),(29,.cell (.list (p.tasks.map Tk.row))),(30,In .i64 ((p.tasks.map Tk.row).length:Int)),(31,In .i64 (k:Int))]) (fun a=>[.blk bl 39 (p.tasks[k]).row,.blk bx 31 p.row]) (fun a=>((p.tasks[k]).arrays).length - a) 0 ⟨Nat.zero_le _,rfl⟩ ?_ ?_ ?_
    ·exact Wx
    ·exact Ww
    rintro a ⟨ha,hAr⟩
    have eLa:(((p.tasks[k]).arrays).map ArRow).length=((p.tasks[k]).arrays).length:=List.length_map _
    by_cases hlta:a < ((p.tasks[k]).arrays).length
    ·have hlta2:(a:Int) < ((((p.tasks[k]).arrays).map ArRow).length:Int):=by omega
     refine Zj ?_
     refine Zm (fun bl=>?_)
     refine R_ (F_ O ?_)
     refine L_ 0 O (o_ O (bm_ O (csize_c _) (o_ O (cd_ O (T_ (jc_cond O (fun hn=>?_) (fun hy=>?_)))))))
     ·have hp:(fun a=>sizeB a.2) ((p.tasks[k]).arrays)[a]=false:=by
       simpa using hn
      have hno:((p.tasks[k]).arrays).all (fun a=>sizeB a.2)=false:=all_no hlta hp
      have hres:ranB1 p=false:=by
       rw [h0]
       exact all_no hltk (by rw [eT,hno]; simp)
      refine Zr ?_
      exact WO
     ·have hp:(fun a=>sizeB a.2) ((p.tasks[k]).arrays)[a]=true:=by
       simpa using hy
      refine as_ (Zx ?_)
      refine jq_againS (i:=a) (a+1) ⟨hlta,all_snoc hlta hAr hp⟩ g_ ?_ ?_
      ·exact bc_ 1 O (bc_ 1 O sub_end)
      ·exact Ww
    ·have hlta2:¬ (a:Int) < ((((p.tasks[k]).arrays).map ArRow).length:Int):=by omega
     rw [List.take_of_length_le (by omega)] at hAr
     refine R_ (o_ O (Zl ?_))
     refine al_ (am_ (Yh ?_))
     refine br_ O (fun hlen=>M_ O ?_)
     refine T_ (au_ ?_)
     refine jc_loopS (ι:=Nat) [] (fun q=>q≤((p.tasks[k]).inputs).length∧(((p.tasks[k]).inputs).take q).all (fun x=>decide (x.2.1≤x.2.2))=true) (fun q=>(76,In .i64 (q:Int)) :: [(74,.cell (.list (((p.tasks[k]).inputs).map InRow))),(75,In .i64 ((((p.tasks[k]).inputs).map InRow).length:Int)),(6,.cell (.val (.pointer (some ⟨bl,0,none⟩)))),(1,.cell (.val (.pointer (some ⟨bx,0,none⟩)))),(29,.cell (.list (p.tasks.map Tk.row))),(30,In .i64 ((p.tasks.map Tk.row).length:Int)),(31,In .i64 (k:Int))]) (fun q=>[.blk bl 39 (p.tasks[k]).row,.blk bx 31 p.row]) (fun q=>((p.tasks[k]).inputs).length - q) 0 ⟨Nat.zero_le _,rfl⟩ ?_ ?_ ?_
     ·exact Wx
     ·exact Ww
     rintro q ⟨hq,hIn⟩
     have eLq:(((p.tasks[k]).inputs).map InRow).length=((p.tasks[k]).inputs).length:=List.length_map _
     by_cases hltq:q < ((p.tasks[k]).inputs).length
     ·have hltq2:(q:Int) < ((((p.tasks[k]).inputs).map InRow).length:Int):=by omega
      refine Zj ?_
      refine Zm (fun bl=>?_)
      refine R_ (F_ O ?_)
      refine L_ 0 O (F_ O (L_ 0 O (o_ O (bz_ O O (T_ (jc_cond O (fun hn=>?_) (fun hy=>?_)))))))
      ·have hp:(fun x=>decide (x.2.1≤x.2.2)) ((p.tasks[k]).inputs)[q]=false:=by
        rw [decide_eq_false_iff_not]
        have:=of_decide_eq_true hn
        omega
       have hno:((p.tasks[k]).inputs).all (fun x=>decide (x.2.1≤x.2.2))=false:=all_no hltq hp
       have hres:ranB1 p=false:=by
        rw [h0]
        exact all_no hltk (by rw [eT,hno]; simp)
       refine Zr ?_
       exact WO
      ·have hp:(fun x=>decide (x.2.1≤x.2.2)) ((p.tasks[k]).inputs)[q]=true:=by
        rw [decide_eq_true_eq]
        have:=of_decide_eq_false hy
        omega
       refine as_ (Zx ?_)
       refine jq_againS (i:=q) (q+1) ⟨hltq,all_snoc hltq hIn hp⟩ g_ ?_ ?_
       ·exact bc_ 1 O (bc_ 1 O sub_end)
       ·exact Ww
     ·have hltq2:¬ (q:Int) < ((((p.tasks[k]).inputs).map InRow).length:Int):=by omega
      rw [List.take_of_length_le (by omega)] at hIn
      refine R_ (o_ O (Zl ?_))
      refine al_ (am_ (Yh ?_))
      refine br_ O (fun hlen=>M_ O ?_)
      refine T_ (au_ ?_)
      refine jc_loopS (ι:=Nat) [] (fun m=>m≤((p.tasks[k]).modes).length∧(((p.tasks[k]).modes).take m).all (ranM1 (p.tasks[k]).inputs)=true) (fun m=>(89,In .i64 (m:Int)) :: [(87,.cell (.list (((p.tasks[k]).modes).map MdRow))),(88,In .i64 ((((p.tasks[k]).modes).map MdRow).length:Int)),(6,.cell (.val (.pointer (some ⟨bl,0,none⟩)))),(1,.cell (.val (.pointer (some ⟨bx,0,none⟩)))),(29,.cell (.list (p.tasks.map Tk.row))),(30,In .i64 ((p.tasks.map Tk.row).length:Int)),(31,In .i64 (k:Int))]) (fun m=>[.blk bl 39 (p.tasks[k]).row,.blk bx 31 p.row]) (fun m=>((p.tasks[k]).modes).length - m) 0 ⟨Nat.zero_le _,rfl⟩ ?_ ?_ ?_
      ·exact Wx
      ·exact Ww
      rintro m ⟨hm,hM⟩
      have eLm:(((p.tasks[k]).modes).map MdRow).length=((p.tasks[k]).modes).length:=List.length_map _
      by_cases hltm:m < ((p.tasks[k]).modes).length
      ·have hltm2:(m:Int) < ((((p.tasks[k]).modes).map MdRow).length:Int):=by omega
       have cI:=input_c (p.tasks[k]) ((p.tasks[k]).modes[m]).2.1
       refine Zj ?_
       refine Zm (fun bl=>?_)
       refine R_ (A_ 1 O ?_)
       refine F_ O (L_ 0 O (o_ O (bm_ O (cI) (M_ O (X_ O (X_ O (o_ O (bl_ O O (fun bl=>S_ 0 O (E_ O (T_ (R_ (F_ O (L_ 1 O (F_ O (L_ 1 O (o_ O (bz_ O O ?_))))))))))))))))))
       refine M_ O (jl_or 5 5 O O O O (nb O) ?_)
       apply Exists.intro
       refine ⟨fun hb1=>?_,?_⟩
       refine ah_ O h_ b_ (bf_ O O O b_ (ah_ O h_ b_ (bg_ 1 O O O O (Za ?_))))
       exact bw_ O O (ak_ (jq_seg 5 O O O (List.Perm.refl _)))
       refine M_ O (jl_or 5 12 O O O O (nb O) ?_)
       apply Exists.intro
       refine ⟨fun hb1=>?_,?_⟩
       refine ah_ O h_ b_ (bf_ O O O b_ (ah_ O h_ b_ (bg_ 1 O O O O (Za ?_))))
       exact bz_ O O (ak_ (jq_seg 5 O O O (List.Perm.refl _)))
       refine T_ (jc_cond O (fun hn=>?_) (fun hy=>?_))
       ·have hp:(ranM1 (p.tasks[k]).inputs) ((p.tasks[k]).modes)[m]=false:=by
         unfold ranM1
         simp only [Bool.or_eq_true,decide_eq_true_eq] at hn
         simp only [Bool.and_eq_false_iff,decide_eq_false_iff_not]
         omega
        have hno:((p.tasks[k]).modes).all (ranM1 (p.tasks[k]).inputs)=false:=all_no hltm hp
        have hres:ranB1 p=false:=by
         rw [h0]
         exact all_no hltk (by rw [eT,hno]; simp)
        refine Zr ?_
        exact WO
       ·have hp:(ranM1 (p.tasks[k]).inputs) ((p.tasks[k]).modes)[m]=true:=by
         unfold ranM1
         simp only [Bool.or_eq_false_iff,decide_eq_false_iff_not] at hy
         simp only [Bool.and_eq_true,decide_eq_true_eq]
         omega
        refine as_ (Zx ?_)
        refine jq_againS (i:=m) (m+1) ⟨hltm,all_snoc hltm hM hp⟩ g_ ?_ ?_
        ·exact bc_ 2 O (bc_ 2 O sub_end)
        ·exact Ww
      ·have hltm2:¬ (m:Int) < ((((p.tasks[k]).modes).map MdRow).length:Int):=by omega
       rw [List.take_of_length_le (by omega)] at hM
       have cE:=each0_c 104 [] rfl wdsq (Sm.alls wdsq) (Sm.alls_all _) (fun s z1 z2=>cwords_c s z1 z2) (p.tasks[k]).body (hp.ls _ (List.getElem_mem hltk))
       cases h7:Sm.alls wdsq (p.tasks[k]).body with
       | false =>
        rw [h7] at cE
        have hres:ranB1 p=false:=by rw [h0]; exact all_no hltk (by rw [eT,h7,Bool.and_false])
        refine R_ (o_ O (Zl ?_))
        refine al_ (Yh ?_)
        refine bm_ O (cE) (o_ O (cd_ O (T_ ?_)))
        refine aq_ O O (Zr ?_)
        exact WK
       | true =>
        rw [h7] at cE
        have hyes:ranT1 (p.tasks[k])=true:=by rw [eT,hAr,hIn,hM,h7]; rfl
        refine R_ (o_ O (Zl ?_))
        refine al_ (Yh ?_)
        refine bm_ O (cE) (o_ O (cd_ O (T_ ?_)))
        refine ap_ O O (as_ (Zx ?_))
        refine jq_againS (i:=k) (k+1) ⟨hltk,all_snoc hltk hA hyes⟩ g_ ?_ ?_
        ·exact WE
        ·exact Ww
  ·have hltk2:¬ (k:Int) < (((p.tasks).map Tk.row).length:Int):=by omega
   rw [List.take_of_length_le (by omega)] at hA
   have hres:ranB1 p=true:=by rw [h0]; exact hA
   refine R_ (o_ O (Zl ?_))
   exact WJ
theorem statements1_c (b:Nat) (s:Sm) (n:Nat) (hn:n≤1000000000):Con Tryz.prog 146 [.row s.row',Ptr b] [.blk b 3 [.val (.int .i64 (n:Int))]] (fun K=>K (Bl true) [.blk b 3 [.val (.int .i64 ((n+1:Nat):Int))]]):=by
 rw [show ((n+1:Nat):Int)=(n:Int)+1 by omega]
 exact con_intro Tryz.func146 O O b_ (fun c hc=>R_ (o_ O (ci_ O (fun bx=>E_ O (T_ (R_ (L_ 1 O (o_ O (bj_ O O g_ (W_ 1 O (T_ (R_ (E_ O (T_ (ar_ (jq_ret1S O O (fun K h=>h) (bc_ 0 O sub_end)))))))))))))))))
theorem statements_c (l:List Sm) (hz:Sm.szs l≤1000000):Con Tryz.prog 92 [.cell (.list (l.map Sm.row))] [] (fun K=>K (In .i64 (Sm.szs l:Int)) []):=by
 have hE:=fun b=>eachN_c 146 b (fun s n hn=>statements1_c b s n hn) l 0 (by omega)
 simp only [Nat.zero_add] at hE
 refine con_intro Tryz.func92 O O b_ (fun c hc=>R_ (E_ O (T_ (R_ (o_ O (bl_ O O (fun bl=>W_ 0 O (T_ (R_ (M_ O (o_ O (ow_makeFunc O (o_ O (bi_ [0] O O (hE _) (T_ (R_ (L_ 0 O (E_ O ?_))))))))))))))))))
 exact T_ (ar_ (jq_ret1S O O (fun K h=>h) sub_end))
theorem limits1_c (t:Tk) (ht:TkSz t):Con Tryz.prog 91 [.row t.row] [] (fun K=>K (Bl (!limT t)) []):=by
 have hS:=statements_c t.body ht.body
 have z1:=ht.inputs
 have z2:=ht.vars
 have q1:(t.inputs.map InRow).length=t.inputs.length:=List.length_map _
 have q2:(t.vars.map Wrow).length=t.vars.length:=List.length_map _
 have q3:(t.arrays.map ArRow).length=t.arrays.length:=List.length_map _
 have q4:(t.modes.map MdRow).length=t.modes.length:=List.length_map _
 have q5:(t.claims.map ClRow).length=t.claims.length:=List.length_map _
 have hres:(decide (((t.inputs.map InRow).length:Int) > 4) || decide (((t.inputs.map InRow).length:Int)+((t.vars.map Wrow).length:Int) > 12) || decide (((t.arrays.map ArRow).length:Int) > 4) || decide (((t.modes.map MdRow).length:Int) > 3) || decide (((t.claims.map ClRow).length:Int) > 4) || decide ((Sm.szs t.body:Int) > 60))=!limT t:=by
  unfold limT
  rw [q1,q2,q3,q4,q5,Bool.eq_iff_iff]
  simp only [Bool.or_eq_true,decide_eq_true_eq,Bool.not_eq_true',Bool.and_eq_false_iff,decide_eq_false_iff_not]
  omega
 refine con_intro Tryz.func91 O O b_ (fun c hc=>Wv (fun bx=>?_))
 refine Yh ?_
 refine br_ O (fun hlen=>o_ O (bz_ O O (M_ O (jl_or 8 4 O O O O (nb O) ?_))))
 apply Exists.intro
 refine ⟨fun hb1=>?_,?_⟩
 refine Za ?_
 refine br_ O (fun hlen=>Za ?_)
 exact br_ O (fun hlen=>ah_ O h_ b_ (bj_ O O g_ (ah_ O h_ b_ (bz_ O O (ak_ (jq_seg 8 O O O (List.Perm.refl _)))))))
 refine M_ O (jl_or 4 14 O O O O (nb O) ?_)
 apply Exists.intro
 refine ⟨fun hb1=>?_,?_⟩
 refine Za ?_
 exact WH
 refine M_ O (jl_or 4 20 O O O O (nb O) ?_)
 apply Exists.intro
 refine ⟨fun hb1=>?_,?_⟩
 refine Za ?_
 exact WH
 refine M_ O (jl_or 4 26 O O O O (nb O) ?_)
 apply Exists.intro
 refine ⟨fun hb1=>?_,?_⟩
 refine Za ?_
 exact WH
 refine M_ O (jl_or 4 32 O O O O (nb O) ?_)
 apply Exists.intro
 refine ⟨fun hb1=>?_,?_⟩
 refine Za ?_
 exact bm_ O (hS) (ah_ O h_ b_ (bz_ O O (ak_ (jq_seg 4 O O O (List.Perm.refl _)))))
 exact E_ O (T_ (ar_ (jq_ret1S O O (fun K h=>by rw [← hres] at h; simp only [Bool.or_assoc] at h ⊢; exact h) sub_end)))
theorem climits_c (p:Pg) (hz:PgSz p):Con Tryz.prog 50 [.row p.row] [] (fun K=>K (Bl (limB p)) []):=by
 have hX:=hasTk0_c 91 [] rfl (fun t=>!limT t) p.tasks (fun t ht=>limits1_c t (hz.tasks t ht))
 have hn:=not_any_not limT p.tasks
 have eR:(p.res.map Wrow).length=p.res.length:=List.length_map _
 have eS:(p.shared.map ShRow).length=p.shared.length:=List.length_map _
 have eT:(p.tasks.map Tk.row).length=p.tasks.length:=List.length_map _
 refine con_intro Tryz.func50 O O b_ (fun c hc=>ZD (fun bx=>?_))
 refine F_ O (L_ 0 O (o_ O (br_ O (fun hlen=>o_ O (bz_ O O (M_ O (jl_or 4 4 O O O O (nb O) ?_)))))))
 apply Exists.intro
 refine ⟨fun hb1=>?_,?_⟩
 refine Za ?_
 exact WH
 refine M_ O (jl_or 4 10 O O O O (nb O) ?_)
 apply Exists.intro
 refine ⟨fun hb1=>?_,?_⟩
 refine Za ?_
 exact br_ O (fun hlen=>ah_ O h_ b_ (bw_ O O (ak_ (jq_seg 4 O O O (List.Perm.refl _)))))
 refine M_ O (jl_or 4 16 O O O O (nb O) ?_)
 apply Exists.intro
 refine ⟨fun hb1=>?_,?_⟩
 refine Za ?_
 exact WH
 refine T_ (jc_cond O (fun hn=>?_) (fun hy=>?_))
 ·have hres:limB p=false:=by
   unfold limB
   simp only [Bool.or_eq_true,decide_eq_true_eq] at hn
   simp only [Bool.and_eq_false_iff,decide_eq_false_iff_not]
   omega
  exact WN
 ·have hres:limB p=!p.tasks.any (fun t=>!limT t):=by
   rw [hn]
   unfold limB
   simp only [Bool.or_eq_false_iff,decide_eq_false_iff_not] at hy
   rw [decide_eq_true (by omega),decide_eq_true (by omega),decide_eq_true (by omega),decide_eq_true (by omega)]
   rfl
  refine as_ (al_ (Yh ?_))
  exact bm_ O (hX) (o_ O (cd_ O (E_ O (T_ (ar_ (jq_ret1S O O (fun K h=>by rw [hres] at h; exact h) sub_end))))))
theorem find1_c (b:Nat) (nm:ByteArray) (t:Tk):Con Tryz.prog 64 [.row t.row,Ptr b] [.blk b 9 [.val (.string nm)]] (fun K=>K (Bl (decide (t.name=nm))) [.blk b 9 [.val (.string nm)]]):=by
 exact con_intro Tryz.func64 O O b_ (fun c hc=>R_ (o_ O (ci_ O (fun bx=>E_ O (T_ (R_ (F_ O (L_ 0 O (L_ 1 O (o_ O (cs_ O O (E_ O (T_ (ar_ (jq_ret1S O O (fun K h=>h) (bc_ 1 O sub_end))))))))))))))))
theorem find_idx (l:List Tk) (nm:ByteArray):max (idxOf (fun t=>decide (t.name=nm)) l) 0=((findF l nm).1:Int)∧decide (idxOf (fun t=>decide (t.name=nm)) l ≥ 0)=(findF l nm).2:=by
 unfold idxOf findF
 cases l.findIdx? (fun t=>decide (t.name=nm)) with
 | none=>exact ⟨rfl,rfl⟩
 | some i=>exact ⟨by show max (i:Int) 0=(i:Int); omega,decide_eq_true (by show (i:Int) ≥ 0; omega)⟩
theorem cFind_c (p:Pg) (nm:ByteArray):Con Tryz.prog 26 [.row p.row,Str nm] [] (fun K=>K (.tup [In .i64 ((findF p.tasks nm).1:Int),Bl (findF p.tasks nm).2]) []):=by
 have hX:=fun b=>idxTk1_c 64 [PV b] rfl (.blk b 9 [.val (.string nm)]) (fun t=>decide (t.name=nm)) p.tasks (fun t _=>find1_c b nm t)
 obtain ⟨r1,r2⟩:=find_idx p.tasks nm
 rw [← r1,← r2]
 refine con_intro Tryz.func26 O O b_ (fun c hc=>R_ (o_ O (ci_ O (fun bx=>o_ O (cj_ O (fun bx=>E_ O (E_ O (T_ (R_ (F_ O (L_ 1 O (o_ O (ow_makeFunc O (o_ O (bi_ [0] O O (hX _) (E_ O (T_ (R_ (M_ O ?_)))))))))))))))))))
 exact o_ O (ck_ O O (M_ O (o_ O (cn_ O O (E_ O (E_ O (T_ (ar_ (jq_ret2S O O O (fun K h=>h) sub_end)))))))))
end Go.Proofs.YtalkkcfojplmdaaGreatDoor
end