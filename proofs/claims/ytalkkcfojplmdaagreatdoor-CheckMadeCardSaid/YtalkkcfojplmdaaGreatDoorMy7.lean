import Derived.Test.YtalkkcfojplmdaaGreatDoorMy6
import Derived.Test.YtalkkcfojplmdaaGreatDoorProg
import Derived.Shelf.Strings.OnBuilder
import Derived.Shelf.Strings.Repeat
section
namespace Go.Proofs.YtalkkcfojplmdaaGreatDoor
open Go.Vc
attribute [local irreducible] JL JC JQ OpWp Con ConN HOk
set_option maxHeartbeats 4000000
theorem climited_c (n:Int):Con Tryz.prog 110 [In .i64 n] [] (fun K=>K (In .i64 (min n 1099511627776)) []):=by
 refine con_intro Tryz.func110 O O b_ (fun c hc=>R_ (E_ O (T_ (R_ (M_ O (o_ O (cl_ O O (E_ O (T_ (ar_ (jq_ret1 O O [] O (fun K h=>h))))))))))))
theorem cparts_c:∀ (fuel:Nat) (e:T) (depth:Int),0≤depth→depth+fuel=21→Con Tryz.prog 196 [.row e.row',In .i64 depth] [] (fun K=>K (In .i64 (wParts e fuel)) []):=by
 intro fuel
 induction fuel with
 | zero =>
  intro e depth h0 h1
  refine con_intro Tryz.func196 O O b_ (fun c hc=>ZD (fun bx=>?_))
  refine M_ O (o_ O (bz_ O O (T_ (jc_condd O (fun h=>R_ (E_ O (T_ (ar_ (aw_ ?_))))) (fun h=>absurd (show 20 < depth by omega) h)))))
  refine jq_ret1 O O [] O (fun K h=>by rw [wParts_zero] at h; exact h)
 | succ f ih =>
  intro e depth h0 h1
  refine con_intro Tryz.func196 O O b_ (fun c hc=>ZD (fun bx=>?_))
  refine M_ O (o_ O (bz_ O O (T_ (jc_condd O (fun h=>by omega) (fun h=>as_ (al_ (R_ (E_ O (T_ ?_)))))))))
  refine am_ (Yh ?_)
  refine br_ O (fun hlen=>M_ O (T_ (au_ ?_)))
  have hmax:e.args.length≤9223372036854775807:=by simpa using hlen
  refine jc_loop [1,2,11,12] (fun k=>k≤e.args.length) (fun k=>[(5,In .i64 (wPartsL (e.args.take k) f 1)),(13,In .i64 (k:Int))]) (fun _=>[]) (fun k=>e.args.length - k) 0 [] (Nat.zero_le _) O ?_ ?_
  ·exact Ww
  ·intro k hk
   refine R_ (o_ O (bw_ O O (T_ (am_ (jc_condd O (fun hlt=>?_) (fun hge=>?_))))))
   ·simp only [List.length_map,Int.ofNat_lt] at hlt
    refine as_ (al_ (B_ (R_ (Zy ?_))))
    refine Yt (fun bl=>?_)
    refine an_ (M_ O (A_ 0 O (M_ O (o_ O (bj_ O O g_ (jl_op (bm_ O (ih _ _ g_ g_) ?_) b_))))))
    have b1:=wParts_bd f e.args[k]
    have b2:=wPartsL_bd f (wParts_bd f) (e.args.take k) 1 (by omega)
    refine o_ O (bj_ O O g_ (jl_op (bm_ O (climited_c _) (E_ O (ak_ (ay_ (al_ (an_ (o_ O (bj_ O O g_ (M_ O (ak_ (jq_again (k+1) [] hlt g_ O ?_))))))))))) b_))
    ·rw [wPartsL_take f e.args 1 k hlt]
     exact Ww
   ·simp only [List.length_map,Int.ofNat_lt] at hge
    refine Yp ?_
    refine ar_ (jq_ret1 O O [] O (fun K h=>by rw [wParts_succ,← List.take_of_length_le (Nat.le_of_not_lt hge)] at h; exact h))
theorem cexprs_c (l:List T):Con Tryz.prog 159 [.cell (.list (l.map T.row))] [] (fun K=>K (In .i64 (wPartsL l 20 0)) []):=by
 refine con_intro Tryz.func159 O O b_ (fun c hc=>R_ (E_ O (T_ (ZV ?_))))
 refine br_ O (fun hlen=>M_ O (T_ (au_ ?_)))
 have hmax:l.length≤9223372036854775807:=by simpa using hlen
 refine jc_loop [6,7] (fun k=>k≤l.length) (fun k=>[(3,In .i64 (wPartsL (l.take k) 20 0)),(8,In .i64 (k:Int))]) (fun _=>[]) (fun k=>l.length - k) 0 [] (Nat.zero_le _) O ?_ ?_
 ·exact Ww
 ·intro k hk
  refine R_ (o_ O (bw_ O O (T_ (am_ (jc_condd O (fun hlt=>?_) (fun hge=>?_))))))
  ·simp only [List.length_map,Int.ofNat_lt] at hlt
   refine as_ (al_ (B_ (R_ (Zy ?_))))
   refine Yt (fun bl=>?_)
   refine an_ (M_ O (A_ 0 O (jl_op (bm_ O (cparts_c 20 _ _ g_ g_) ?_) b_)))
   have b1:=wParts_bd 20 l[k]
   have b2:=wPartsL_bd 20 (wParts_bd 20) (l.take k) 0 (by omega)
   refine o_ O (bj_ O O g_ (jl_op (bm_ O (climited_c _) (E_ O (ak_ (ay_ (al_ (an_ (o_ O (bj_ O O g_ (M_ O (ak_ (jq_again (k+1) [] hlt g_ O ?_))))))))))) b_))
   ·rw [wPartsL_take 20 l 0 k hlt]
    exact Ww
  ·simp only [List.length_map,Int.ofNat_lt] at hge
   refine Yp ?_
   refine ar_ (jq_ret1 O O [] O (fun K h=>by rw [← List.take_of_length_le (Nat.le_of_not_lt hge)] at h; exact h))
theorem cone_zero (s:Sm) (depth:Int) (h:depth=21):Con Tryz.prog 111 [.row s.row',In .i64 depth] [] (fun K=>K (In .i64 (wOne 0 s)) []):=by
 refine con_intro Tryz.func111 O O b_ (fun c hc=>ZD (fun bx=>?_))
 refine M_ O (o_ O (bz_ O O (T_ (jc_condd O (fun h=>R_ (E_ O (T_ (ar_ (aw_ ?_))))) (fun h=>by omega)))))
 refine jq_ret1 O O [] O (fun K h=>by rw [wOne] at h; exact h)
theorem cone_succ (f:Nat) (hw:∀ (l:List Sm) (depth:Int),0≤depth→depth+f=21→Con Tryz.prog 59 [.cell (.list (l.map Sm.row)),In .i64 depth] [] (fun K=>K (In .i64 (wAll f l 0)) []))
 (s:Sm) (depth:Int) (h0:0≤depth) (h1:depth+(f+1:Nat)=21):Con Tryz.prog 111 [.row s.row',In .i64 depth] [] (fun K=>K (In .i64 (wOne (f+1) s)) []):=by
 refine con_intro Tryz.func111 O O b_ (fun c hc=>ZD (fun bx=>?_))
 refine M_ O (o_ O (bz_ O O (T_ (jc_condd O (fun h=>by omega) (fun h=>as_ (al_ (am_ (R_ (F_ O ?_)))))))))
 refine L_ 0 O (T_ (au_ (am_ (Zu ?_))))
 have b1:=wPartsL_bd 20 (wParts_bd 20) s.index 0 (by omega)
 have b2:=wPartsL_bd 20 (wParts_bd 20) s.value 0 (by omega)
 have b3:=wAll_bd f s.thn 0 (by omega)
 have b4:=wAll_bd f s.els 0 (by omega)
 have sums:s.kind=1 ∨ s.kind=2→wOne (f+1) s=lim (1+wPartsL s.index 20 0+wPartsL s.value 20 0):=fun h=>by rw [wOne,if_pos h]
 refine jc_condd O (fun hk=>?_) (fun hk=>?_)
 ·refine as_ (al_ (jc_condd O (fun _=>am_ (ao_ O O k_ k_ (yF_ O (yL_ 0 O (aa_ (fun c=>bm_ O (cexprs_c _) p_) (aa_ (fun c=>bj_ O O g_ p_) (yF_ O (yL_ 0 O (aa_ (fun c=>bm_ O (cexprs_c _) p_) (aa_ (fun c=>bj_ O O g_ p_) (aa_ (fun c=>bm_ O (climited_c _) p_) (yE_ O (ae_ ?_))))))))))))) (fun h=>absurd hk h)))
  refine al_ (ar_ (az_ (aw_ (jq_ret1 O O [] O (fun K h=>by rw [sums (.inl hk)] at h; exact h)))))
 refine an_ (o_ O (bn_ O O (E_ O (T_ (jc_condd O (fun hk2=>?_) (fun hk2=>?_))))))
 ·refine am_ (ao_ O O k_ k_ (yF_ O (yL_ 0 O (aa_ (fun c=>bm_ O (cexprs_c _) p_) (aa_ (fun c=>bj_ O O g_ p_) (yF_ O (yL_ 0 O (aa_ (fun c=>bm_ O (cexprs_c _) p_) (We ?_)))))))))
  refine aw_ (jq_ret1 O O [] O (fun K h=>by rw [sums (.inr hk2)] at h; exact h))
 refine Zu ?_
 refine jc_condd O (fun hk3=>?_) (fun hk3=>?_)
 ·refine am_ (ao_ O O k_ k_ (yF_ O (yL_ 0 O (aa_ (fun c=>bm_ O (cexprs_c _) p_) (YO ?_)))))
  refine aa_ (fun c=>bm_ O (hw _ _ g_ g_) p_) (YO ?_)
  refine aa_ (fun c=>bm_ O (hw _ _ g_ g_) p_) (We ?_)
  refine aw_ (jq_ret1 O O [] O (fun K h=>by rw [wOne,if_neg g_,if_pos hk3] at h; exact h))
 refine Zu ?_
 refine jc_condd O (fun hk4=>?_) (fun hk4=>?_)
 ·have b5:=lim_bd (2+wPartsL s.value 20 0+wAll f s.thn 0) (by omega)
  have b6:0≤Max.max 0 (min s.max 33)+1∧Max.max 0 (min s.max 33)+1≤34:=by omega
  have b7:=prod_bd _ _ b6.1 b6.2 b5.1 b5.2
  unfold lim at b7
  refine Yh ?_
  refine cl_ O O (o_ O (ck_ O O (o_ O (bj_ O O g_ (E_ O (T_ (am_ (ao_ O O k_ k_ (yM_ O (yF_ O (yL_ 0 O (aa_ (fun c=>bm_ O (cexprs_c _) p_) (aa_ (fun c=>bj_ O O g_ p_) (yF_ O ?_))))))))))))))
  refine yL_ 0 O (yM_ O (aa_ (fun c=>bj_ O O g_ p_) (aa_ (fun c=>bm_ O (hw _ _ g_ g_) p_) (aa_ (fun c=>bj_ O O g_ p_) (aa_ (fun c=>bm_ O (climited_c _) p_) (aa_ (fun c=>cz_ O O g_ p_) (We ?_)))))))
  refine aw_ (jq_ret1 O O [] O (fun K h=>by rw [wOne,if_neg g_,if_neg hk3,if_pos hk4] at h; exact h))
 refine Zu ?_
 refine jc_condd O (fun hk5=>?_) (fun hk5=>?_)
 ·refine Y6 ?_
  refine o_ O (bj_ O O g_ (o_ O (bm_ O (hw _ _ g_ g_) (o_ O (bj_ O O g_ (o_ O (bm_ O (climited_c _) (E_ O (T_ (ar_ (az_ (aw_ (jq_ret1 O O [] O (fun K h=>by rw [wOne,if_neg g_,if_neg hk3,if_neg hk4,if_pos hk5] at h; exact h))))))))))))))
 ·refine as_ (ay_ (al_ (R_ (E_ O (T_ (ar_ (jq_ret1 O O [] O (fun K h=>by rw [wOne,if_neg g_,if_neg hk3,if_neg hk4,if_neg hk5] at h; exact h))))))))
theorem cweight_c (f:Nat) (ho:∀ (s:Sm) (depth:Int),0≤depth→depth+f=21→Con Tryz.prog 111 [.row s.row',In .i64 depth] [] (fun K=>K (In .i64 (wOne f s)) []))
 (l:List Sm) (depth:Int) (h0:0≤depth) (h1:depth+f=21):Con Tryz.prog 59 [.cell (.list (l.map Sm.row)),In .i64 depth] [] (fun K=>K (In .i64 (wAll f l 0)) []):=by
 refine con_intro Tryz.func59 O O b_ (fun c hc=>R_ (E_ O (T_ (ZV ?_))))
 refine br_ O (fun hlen=>M_ O (T_ (au_ ?_)))
 have hmax:l.length≤9223372036854775807:=by simpa using hlen
 refine jc_loop [1,8,9] (fun k=>k≤l.length) (fun k=>[(5,In .i64 (wAll f (l.take k) 0)),(10,In .i64 (k:Int))]) (fun _=>[]) (fun k=>l.length - k) 0 [] (Nat.zero_le _) O ?_ ?_
 ·rw [List.take_zero,wAll]
  exact Ww
 ·intro k hk
  refine R_ (o_ O (bw_ O O (T_ (am_ (jc_condd O (fun hlt=>?_) (fun hge=>?_))))))
  ·simp only [List.length_map,Int.ofNat_lt] at hlt
   have b1:=wOne_bd f l[k]
   have b2:=wAll_bd f (l.take k) 0 (by omega)
   refine as_ (al_ (B_ (R_ (Zq ?_))))
   refine Yt (fun bl=>?_)
   refine an_ (M_ O (A_ 0 O (M_ O (o_ O (bm_ O (ho _ _ g_ g_) (o_ O (bj_ O O g_ (o_ O (bm_ O (climited_c _) ?_)))))))))
   refine E_ O (ak_ (Zx ?_))
   refine jq_again (k+1) [] hlt g_ O ?_
   ·rw [wAll_take f l 0 k hlt]
    exact Ww
  ·simp only [List.length_map,Int.ofNat_lt] at hge
   refine Yp ?_
   refine ar_ (jq_ret1 O O [] O (fun K h=>by rw [← List.take_of_length_le (Nat.le_of_not_lt hge)] at h; exact h))
theorem cboth_c:∀ (f:Nat),(∀ (s:Sm) (depth:Int),0≤depth→depth+f=21→Con Tryz.prog 111 [.row s.row',In .i64 depth] [] (fun K=>K (In .i64 (wOne f s)) [])) ∧
 (∀ (l:List Sm) (depth:Int),0≤depth→depth+f=21→Con Tryz.prog 59 [.cell (.list (l.map Sm.row)),In .i64 depth] [] (fun K=>K (In .i64 (wAll f l 0)) []))
 | 0=>by
  have h:∀ (s:Sm) (depth:Int),0≤depth→depth+(0:Nat)=21→Con Tryz.prog 111 [.row s.row',In .i64 depth] [] (fun K=>K (In .i64 (wOne 0 s)) []):=fun s d _ h=>cone_zero s d (by omega)
  exact ⟨h,cweight_c 0 h⟩
 | f+1=>by
  have h:=cone_succ f (cboth_c f).2
  exact ⟨h,cweight_c (f+1) h⟩
theorem cWeight_c (l:List Sm):Con Tryz.prog 21 [.cell (.list (l.map Sm.row))] [] (fun K=>K (In .i64 (wAll 20 l 0)) []):=by
 have hB:=(cboth_c 20).2 l 1 (by omega) (by omega)
 refine con_intro Tryz.func21 O O b_ (fun c hc=>R_ (E_ O (T_ (R_ (M_ O (o_ O (bm_ O (hB) (E_ O (T_ (ar_ (jq_ret1 O O [] O (fun K h=>h))))))))))))
theorem flat_part1 {w:Int→Bool} {l:List Sm} {k:Nat} (h:k < l.length) (f:Nat):(l[k].thn.flatMap (lbF w f)).length≤(l.flatMap (lbF w (f+1))).length:=by
 have:=flat_le (f:=lbF w (f+1)) h
 rw [lbF,List.length_append,List.length_append] at this
 omega
theorem flat_part2 {w:Int→Bool} {l:List Sm} {k:Nat} (h:k < l.length) (f:Nat):(l[k].els.flatMap (lbF w f)).length≤(l.flatMap (lbF w (f+1))).length:=by
 have:=flat_le (f:=lbF w (f+1)) h
 rw [lbF,List.length_append,List.length_append] at this
 omega
theorem clabels_c (F:FuncId) [FI Tryz.prog F] (w:Int→Bool) (hw:∀ k:Int,Con Tryz.prog F [In .i64 k] [] (fun K=>K (Bl (w k)) [])):∀ (f:Nat) (l:List Sm) (depth:Int),0≤depth→depth+f=20→(l.flatMap (lbF w (f+1))).length≤1000000 →
 Con Tryz.prog 76 [.cell (.list (l.map Sm.row)),In .i64 depth,FC F []] [] (fun K=>K (.cell (.list ((l.flatMap (lbF w (f+1))).map Irow))) []):=by
 intro f
 induction f with
 | zero =>
  intro l depth h0 h1 hlim
  refine con_intro Tryz.func76 O O b_ (fun c hc=>R_ (E_ O (T_ (ZV ?_))))
  refine br_ O (fun hlen=>M_ O (T_ (au_ (jc_ownNil 3 1 g_ ?_))))
  refine jc_loopS (ι:=Nat × Value × List Int) [] (fun i=>i.1≤(l).length∧i.2.2=(l.take i.1).flatMap (lbF w (0+1))) (fun i=>(12,In .i64 (i.1:Int)) :: (7,.cell (.val i.2.1)) :: [(1,In .i64 depth),(2,FC F []),(10,.cell (.list (l.map Sm.row))),(11,In .i64 ((l.map Sm.row).length:Int))]) (fun i=>[.own i.2.1 3 1 (i.2.2.map Irow)]) (fun i=>(l).length - i.1) (0,.slice none 0 0,[]) ⟨Nat.zero_le _,rfl⟩ ?_ ?_ ?_
  ·exact Wy
  ·exact Ww
  rintro ⟨k,v,B⟩ hz
  dsimp only at hz ⊢
  obtain ⟨hk,hB⟩:=hz
  have eLk:((l).map Sm.row).length=(l).length:=List.length_map _
  by_cases hltk:k < (l).length
  ·have hltk2:(k:Int) < (((l).map Sm.row).length:Int):=by omega
   have hBl:=congrArg List.length hB
   have hle:=flat_le (f:=lbF w (0+1)) hltk
   have e2:lbF w (0+1) l[k]=lbSelf w l[k] ++ l[k].thn.flatMap (lbF w 0) ++ l[k].els.flatMap (lbF w 0):=rfl
   rw [lb_zero,lb_zero,List.append_nil,List.append_nil] at e2
   have hl2:=congrArg List.length e2
   have cW:=hw l[k].kind
   have hls:(lbSelf w l[k]).length≤1:=by unfold lbSelf; split <;> simp
   cases hk:w l[k].kind with
   | true =>
    rw [hk] at cW
    have hl1:(lbSelf w l[k]).length=1:=by unfold lbSelf; rw [hk]; rfl
    have hself:lbSelf w l[k]=[l[k].label]:=by unfold lbSelf; rw [hk]; rfl
    refine Zj ?_
    refine Zq ?_
    refine Yt (fun bl=>?_)
    refine am_ (R_ ?_)
    refine M_ O (F_ O (L_ 0 O (o_ O (ow_callv0 O O (cW) (T_ (aq_ O O (an_ (M_ O (F_ O (L_ 0 O (YK ?_)))))))))))
    refine ow_append1 1 (l[k].label) O O O O O O O (fun _=>O) (by show (_+_) * 8≤_; first | omega | (simp only [List.length_append]; omega)) (by first | omega | (simp only [List.length_append]; omega)) (fun v1 hv1=>E_ O (T_ (R_ (M_ O ?_))))
    refine o_ O (bw_ O O (T_ (ap_ O v_ (as_ (Zx ?_)))))
    refine jq_againS (i:=(k,v,B)) (k+1,v1,B ++ [l[k].label]) ⟨hltk,by dsimp only; rw [hB,flat_take hltk,e2,hself]; try simp only [List.append_assoc,List.nil_append,List.append_nil]⟩ (by dsimp only; omega) ?_ ?_
    ·exact Wy
    ·exact Ww
   | false =>
    rw [hk] at cW
    have hself:lbSelf w l[k]=[]:=by unfold lbSelf; rw [hk]; rfl
    refine Zj ?_
    refine Zq ?_
    refine Yt (fun bl=>?_)
    refine am_ (R_ ?_)
    refine M_ O (F_ O (L_ 0 O (o_ O (ow_callv0 O O (cW) (T_ (ap_ O O (as_ (al_ (R_ (M_ O (o_ O (bw_ O O (T_ (ap_ O v_ (as_ (ay_ (al_ ?_)))))))))))))))))
    refine an_ (Wr ?_)
    refine ak_ (jq_againS (i:=(k,v,B)) (k+1,v,B) ⟨hltk,by dsimp only; rw [hB,flat_take hltk,e2,hself]; try simp only [List.append_nil]⟩ (by dsimp only; omega) ?_ ?_)
    ·exact WE
    ·exact Ww
  ·have hltk2:¬ (k:Int) < (((l).map Sm.row).length:Int):=by omega
   rw [List.take_of_length_le (by omega)] at hB
   subst hB
   refine R_ (o_ O (Zl ?_))
   refine al_ (R_ (M_ O (E_ O (T_ (ar_ (jq_freeze 6 0 O O (by rw [hc]; simp [hb]) ?_))))))
   refine jq_ret1 O O [] O (fun K h=>h)
 | succ f ih =>
  intro l depth h0 h1 hlim
  refine con_intro Tryz.func76 O O b_ (fun c hc=>R_ (E_ O (T_ (ZV ?_))))
  refine br_ O (fun hlen=>M_ O (T_ (au_ (jc_ownNil 3 1 g_ ?_))))
  refine jc_loopS (ι:=Nat × Value × List Int) [] (fun i=>i.1≤(l).length∧i.2.2=(l.take i.1).flatMap (lbF w (f+1+1))) (fun i=>(12,In .i64 (i.1:Int)) :: (7,.cell (.val i.2.1)) :: [(1,In .i64 depth),(2,FC F []),(10,.cell (.list (l.map Sm.row))),(11,In .i64 ((l.map Sm.row).length:Int))]) (fun i=>[.own i.2.1 3 1 (i.2.2.map Irow)]) (fun i=>(l).length - i.1) (0,.slice none 0 0,[]) ⟨Nat.zero_le _,rfl⟩ ?_ ?_ ?_
  ·exact Wy
  ·exact Ww
  rintro ⟨k,v,B⟩ hz
  dsimp only at hz ⊢
  obtain ⟨hk,hB⟩:=hz
  have eLk:((l).map Sm.row).length=(l).length:=List.length_map _
  by_cases hltk:k < (l).length
  ·have hltk2:(k:Int) < (((l).map Sm.row).length:Int):=by omega
   have hBl:=congrArg List.length hB
   have hle:=flat_le (f:=lbF w (f+1+1)) hltk
   have e2:lbF w (f+1+1) l[k]=lbSelf w l[k] ++ l[k].thn.flatMap (lbF w (f+1)) ++ l[k].els.flatMap (lbF w (f+1)):=rfl
   have hl2:=congrArg List.length e2
   simp only [List.length_append] at hl2
   have hone:([l[k].label]:List Int).length=1:=rfl
   have c1:=ih l[k].thn (depth+1) (by omega) (by omega) (by have:=flat_part1 (w:=w) hltk (f+1); omega)
   have c2:=ih l[k].els (depth+1) (by omega) (by omega) (by have:=flat_part2 (w:=w) hltk (f+1); omega)
   have cW:=hw l[k].kind
   have hls:(lbSelf w l[k]).length≤1:=by unfold lbSelf; split <;> simp
   cases hk:w l[k].kind with
   | true =>
    rw [hk] at cW
    have hl1:(lbSelf w l[k]).length=1:=by unfold lbSelf; rw [hk]; rfl
    have hself:lbSelf w l[k]=[l[k].label]:=by unfold lbSelf; rw [hk]; rfl
    refine Zj ?_
    refine Zq ?_
    refine Yt (fun bl=>?_)
    refine am_ (R_ ?_)
    refine M_ O (F_ O (L_ 0 O (o_ O (ow_callv0 O O (cW) (T_ (aq_ O O (an_ (M_ O (F_ O (L_ 0 O (YK ?_)))))))))))
    refine ow_append1 1 (l[k].label) O O O O O O O (fun _=>O) (by show (_+_) * 8≤_; first | omega | (simp only [List.length_append]; omega)) (by first | omega | (simp only [List.length_append]; omega)) (fun v1 hv1=>E_ O (T_ (R_ (M_ O ?_))))
    refine o_ O (bw_ O O (T_ (aq_ O t_ (R_ (M_ O (F_ O (L_ 1 O (M_ O (Wr ?_)))))))))
    refine o_ O (bm_ O (c1) ?_)
    have hle2:(lbSelf w l[k]).length=1:=by rw [hself]; rfl
    refine o_ O (YL (fun v2 hv2=>?_))
    refine Wr ?_
    refine o_ O (bm_ O (c2) ?_)
    refine o_ O (Z4 (fun v3 hv3=>?_))
    refine Zx ?_
    refine jq_againS (i:=(k,v,B)) (k+1,v3,B ++ [l[k].label] ++ l[k].thn.flatMap (lbF w (f+1)) ++ l[k].els.flatMap (lbF w (f+1))) ⟨hltk,by dsimp only; rw [hB,flat_take hltk,e2,hself]; try simp only [List.append_assoc]⟩ (by dsimp only; omega) ?_ ?_
    ·exact Wy
    ·exact Ww
   | false =>
    rw [hk] at cW
    have hself:lbSelf w l[k]=[]:=by unfold lbSelf; rw [hk]; rfl
    refine Zj ?_
    refine Zq ?_
    refine Yt (fun bl=>?_)
    refine am_ (R_ ?_)
    refine M_ O (F_ O (L_ 0 O (o_ O (ow_callv0 O O (cW) (T_ (ap_ O O (as_ (al_ (R_ (M_ O (o_ O (bw_ O O (T_ (aq_ O t_ (R_ (M_ O (F_ O ?_)))))))))))))))))
    refine L_ 0 O (M_ O (Wr ?_))
    refine o_ O (bm_ O (c1) ?_)
    have hle2:(lbSelf w l[k]).length=0:=by rw [hself]; rfl
    refine o_ O (ow_appendM 1 O O O O O O O (fun _=>O) (by show (_+_) * 8≤_; first | omega | (simp only [List.length_append]; omega)) (by first | omega | (simp only [List.length_append]; omega)) (fun v2 hv2=>E_ O (T_ (an_ (M_ O (F_ O (L_ 1 O (M_ O (Wr ?_)))))))))
    refine o_ O (bm_ O (c2) ?_)
    refine o_ O (Z4 (fun v3 hv3=>?_))
    refine Zx ?_
    refine jq_againS (i:=(k,v,B)) (k+1,v3,B ++ l[k].thn.flatMap (lbF w (f+1)) ++ l[k].els.flatMap (lbF w (f+1))) ⟨hltk,by dsimp only; rw [hB,flat_take hltk,e2,hself]; try simp only [List.append_assoc,List.nil_append]⟩ (by dsimp only; omega) ?_ ?_
    ·exact Wy
    ·exact Ww
  ·have hltk2:¬ (k:Int) < (((l).map Sm.row).length:Int):=by omega
   rw [List.take_of_length_le (by omega)] at hB
   subst hB
   refine R_ (o_ O (Zl ?_))
   refine al_ (R_ (M_ O (E_ O (T_ (ar_ (jq_freeze 6 0 O O (by rw [hc]; simp [hb]) ?_))))))
   refine jq_ret1 O O [] O (fun K h=>h)
theorem isIW_c (k:Int):Con Tryz.prog 77 [In .i64 k] [] (fun K=>K (Bl (isIW k)) []):=by
 have e:isIW k=(decide (k=3) || decide (k=4)):=rfl
 rw [e]
 refine con_intro Tryz.func77 O O b_ (fun c hc=>R_ (YX ?_))
 refine bn_ O O (M_ O (jl_or 2 2 O O O O (nb O) ?_))
 apply Exists.intro
 refine ⟨fun hb1=>?_,?_⟩
 refine Z8 ?_
 exact WF
 refine E_ O (T_ (ar_ (jq_ret1 O O [] O (fun K h=>h))))
theorem isIf_c (k:Int):Con Tryz.prog 105 [In .i64 k] [] (fun K=>K (Bl (isIf k)) []):=by
 have e:isIf k=decide (k=3):=rfl
 rw [e]
 refine con_intro Tryz.func105 O O b_ (fun c hc=>R_ (E_ O (T_ (R_ (M_ O (o_ O (bn_ O O (E_ O (T_ (ar_ (jq_ret1 O O [] O (fun K h=>h))))))))))))
theorem cLabels_c (l:List Sm) (h:Sm.szs l≤1000000):Con Tryz.prog 43 [.cell (.list (l.map Sm.row))] [] (fun K=>K (.cell (.list ((LB l).map Irow))) []):=by
 have hb0:=LB_le l
 have hB:=clabels_c 77 isIW isIW_c 19 l 1 (by omega) (by omega) (by show (l.flatMap (lbF isIW 20)).length≤_; unfold LB at hb0; omega)
 have e:l.flatMap (lbF isIW (19+1))=LB l:=rfl
 rw [e] at hB
 refine con_intro Tryz.func43 O O b_ (fun c hc=>R_ (E_ O (T_ (R_ (M_ O (o_ O (bm_ O (hB) (E_ O (T_ (ar_ (jq_ret1 O O [] O (fun K h=>h))))))))))))
theorem IndexI_c (L:List Int) (n:Int):Con Tryz.prog 156 [.cell (.list (L.map Irow)),In .i64 n] [] (fun K=>K (In .i64 (idxOf (fun x=>decide (x=n)) L)) []):=by
 refine con_intro Tryz.func156 O O b_ (fun c hc=>ZV ?_)
 refine br_ O (fun hlen=>M_ O (T_ (au_ ?_)))
 refine jc_loopS (ι:=Nat) [] (fun k=>k≤(L).length∧(L.take k).any (fun x=>decide (x=n))=false) (fun k=>(8,In .i64 (k:Int)) :: [(0,.cell (.list (L.map Irow))),(1,In .i64 n),(7,In .i64 ((L.map Irow).length:Int))]) (fun k=>[]) (fun k=>(L).length - k) 0 ⟨Nat.zero_le _,rfl⟩ ?_ ?_ ?_
 ·exact sub_end
 ·exact Ww
 rintro k ⟨hk,hI⟩
 have eLk:((L).map Irow).length=(L).length:=List.length_map _
 by_cases hltk:k < (L).length
 ·have hltk2:(k:Int) < (((L).map Irow).length:Int):=by omega
  by_cases he:n=L[k]
  ·have hres:=idx_some hltk (decide_eq_true he.symm) hI
   refine Zj ?_
   refine YR ?_
   refine ZI ?_
   refine cb_ O O (o_ O (bn_ O O (T_ (aq_ O u_ (R_ (M_ O (E_ O (T_ (ar_ (az_ (aw_ (aw_ (az_ (aw_ (jq_ret1 O O [] O (fun K h=>by rw [hres] at h; exact h))))))))))))))))
  ·refine Zj ?_
   refine YR ?_
   refine ZI ?_
   refine cb_ O O (o_ O (bn_ O O (T_ (ap_ O w_ (as_ (Zx ?_))))))
   refine jq_againS (i:=k) (k+1) ⟨hltk,any_snoc hltk hI (decide_eq_false (fun e=>he e.symm))⟩ g_ ?_ ?_
   ·exact sub_end
   ·exact Ww
 ·have hltk2:¬ (k:Int) < (((L).map Irow).length:Int):=by omega
  rw [List.take_of_length_le (by omega)] at hI
  have hres:=idx_none hI
  refine R_ (o_ O (Zl ?_))
  refine al_ (R_ (E_ O (T_ (ar_ (jq_ret1 O O [] O (fun K h=>by rw [hres] at h; exact h))))))
theorem ContainsI_c (L:List Int) (n:Int):Con Tryz.prog 108 [.cell (.list (L.map Irow)),In .i64 n] [] (fun K=>K (Bl (hasI L n)) []):=by
 have hI:=IndexI_c L n
 have e:decide (0≤idxOf (fun x=>decide (x=n)) L)=hasI L n:=idx_any _ _
 rw [← e]
 generalize idxOf (fun x=>decide (x=n)) L=m at hI ⊢
 refine con_intro Tryz.func108 O O b_ (fun c hc=>R_ (E_ O (T_ (R_ (M_ O (M_ O (o_ O (bm_ O (hI) (o_ O (cn_ O O (E_ O (T_ (ar_ (jq_ret1 O O [] O (fun K h=>h)))))))))))))))
theorem labelled2_c (bi:Nat) (F:List Int) (c:Clm):Con Tryz.prog 107 [.row (ClRow c),Ptr bi] [.blk bi 22 [.list (F.map Irow)]] (fun K=>K (Bl (!clmB F c)) [.blk bi 22 [.list (F.map Irow)]]):=by
 have e:(!clmB F c)=(decide (c.1=c.2) || !hasI F c.1 || !hasI F c.2):=by
  unfold clmB
  cases decide (c.1=c.2) <;> cases hasI F c.1 <;> cases hasI F c.2 <;> rfl
 rw [e]
 refine con_intro Tryz.func107 O O b_ (fun c hc=>Wv (fun bx=>?_))
 refine R_ (F_ O (L_ 0 O (YT ?_)))
 refine jl_or 5 5 O O O O (nb O) ?_
 apply Exists.intro
 refine ⟨fun hb1=>?_,?_⟩
 refine ah_ O h_ b_ (bg_ 1 O O O O (Za ?_))
 exact bm_ O (ContainsI_c _ _) (ah_ O h_ b_ (cd_ O (ak_ (jq_seg 5 O O O (List.Perm.refl _)))))
 refine M_ O (jl_or 5 12 O O O O (nb O) ?_)
 apply Exists.intro
 refine ⟨fun hb1=>?_,?_⟩
 refine ah_ O h_ b_ (bg_ 1 O O O O (Za ?_))
 exact bm_ O (ContainsI_c _ _) (ah_ O h_ b_ (cd_ O (ak_ (jq_seg 5 O O O (List.Perm.refl _)))))
 exact E_ O (T_ (ar_ (jq_ret1S O O (fun K h=>by simp only [Bool.or_assoc] at h ⊢; exact h) (bc_ 1 O sub_end))))
theorem aget_constI (k:Int) (v:Bool):∀ l:List Int,aget (l.map (fun s=>(s,v))) k=if hasI l k=true then some v else none
 | []=>rfl
 | e :: l=>by
  rw [List.map_cons,aget,aget_constI k v l]
  have:hasI (e :: l) k=(decide (e=k) || hasI l k):=rfl
  rw [this]
  by_cases h:e=k
  ·rw [if_pos h,decide_eq_true h]; rfl
  ·rw [if_neg h,decide_eq_false h]; rfl
theorem clabelled_c (t:Tk) (hz:Sm.szs t.body≤1000000):Con Tryz.prog 55 [.row t.row] [] (fun K=>K (Bl (labF t)) []):=by
 have hL:=cLabels_c t.body hz
 have hle:=ifs_le t.body
 have hF:=clabels_c 105 isIf isIf_c 19 t.body 1 (by omega) (by omega) (by show (t.body.flatMap (lbF isIf 20)).length≤_; have:=flat_szs (lbF_le isIf 20) t.body; omega)
 have e1:t.body.flatMap (lbF isIf (19+1))=ifsOf t.body:=by
  unfold ifsOf
  congr 1
  funext x
  exact (lb_rl 20 x).symm
 rw [e1] at hF
 have e0:labF t=((LB t.body).all (fun n=>decide (1≤n) && decide (n≤12)) && !dupI (LB t.body) && t.claims.all (clmB (ifsOf t.body))):=rfl
 generalize LB t.body=L at hL e0
 generalize ifsOf t.body=F at hF e0
 have hX:=fun b=>hasCl1_c 107 [PV b] rfl (.blk b 22 [.list (F.map Irow)]) (fun c=>!clmB F c) t.claims (fun c _=>labelled2_c b F c)
 have hT:=not_any_not (clmB F) t.claims
 refine con_intro Tryz.func55 O O b_ (fun c hc=>Wv (fun bx=>?_))
 refine R_ (o_ O (ow_makeMapE Int Bool Value.bool (fun bm hbm=>E_ O (T_ (am_ (R_ (F_ O (L_ 1 O (o_ O (bm_ O (hL) (o_ O (br_ O (fun hlen=>M_ O ?_)))))))))))))
 refine T_ (au_ ?_)
 refine jc_loopS (ι:=Nat) [] (fun k=>k≤(L).length∧(L.take k).all (fun n=>decide (1≤n) && decide (n≤12))=true∧dupI (L.take k)=false) (fun k=>(12,In .i64 (k:Int)) :: [(3,.cell (.val (.map (some bm)))),(1,.cell (.val (.pointer (some ⟨bx,0,none⟩)))),(10,.cell (.list (L.map Irow))),(11,In .i64 ((L.map Irow).length:Int))]) (fun k=>[.mapc bm (mapE Value.bool ((L.take k).map (fun s=>(s,true)))),.blk bx 39 t.row]) (fun k=>(L).length - k) 0 ⟨Nat.zero_le _,⟨rfl,rfl⟩⟩ ?_ ?_ ?_
 ·exact Wx
 ·exact Ww
 rintro k ⟨hk,⟨hI,hd⟩⟩
 have eLk:((L).map Irow).length=(L).length:=List.length_map _
 by_cases hltk:k < (L).length
 ·have hltk2:(k:Int) < (((L).map Irow).length:Int):=by omega
  have cW:=cwithin_c L[k] 1 12
  have hg:(aget ((L.take k).map (fun s=>(s,true))) L[k]).getD false=hasI (L.take k) L[k]:=by rw [aget_constI]; cases hasI (L.take k) L[k] <;> rfl
  cases hw:(decide (1≤L[k]) && decide (L[k]≤12)) with
  | false =>
   rw [hw] at cW
   have hres:labF t=false:=by rw [e0]; rw [all_no hltk hw]; rfl
   refine Zj ?_
   refine ZI ?_
   refine cb_ O O (E_ O (T_ (am_ (R_ (M_ O ?_)))))
   refine o_ O (bm_ O (cW) (o_ O (cd_ O (M_ O (ai_ O O b_ (Z5 ?_))))))
   refine ZK ?_
   refine aw_ (az_ (aw_ ?_))
   refine aw_ (az_ (aw_ (jq_ret1 O O [] O (fun K h=>by rw [hres] at h; exact h))))
  | true =>
   rw [hw] at cW
   cases h3:hasI (L.take k) L[k] with
   | true =>
    rw [h3] at hg
    have hres:labF t=false:=by rw [e0]; rw [dupI_yes hltk h3,Bool.not_true,Bool.and_false]; rfl
    refine Zj ?_
    refine ZI ?_
    refine cb_ O O (E_ O (T_ (am_ (R_ (M_ O ?_)))))
    refine o_ O (bm_ O (cW) (o_ O (cd_ O (M_ O (Zs ?_)))))
    refine bd_ O (ah_ O O b_ (ow_mapGetOB (κ:=Int) (M:=(L.take k).map (fun s=>(s,true))) 0 O O O O O (o_ O (bv_ O O O (T_ (aq_ O h_ (R_ (E_ O (T_ (ar_ (aw_ (az_ (aw_ ?_)))))))))))))
    refine aw_ (az_ (aw_ (jq_ret1 O O [] O (fun K h=>by rw [hres] at h; exact h))))
   | false =>
    rw [h3] at hg
    have hd2:dupI (L.take (k+1))=false:=by rw [List.take_succ_eq_append_getElem hltk,dupI_snoc,hd,h3]; rfl
    have hup:aset ((L.take k).map (fun s=>(s,true))) L[k] true=(L.take (k+1)).map (fun s=>(s,true)):=by
     rw [aset_new _ (by rw [aget_constI,h3]; rfl),List.take_succ_eq_append_getElem hltk,List.map_append]; rfl
    refine Zj ?_
    refine ZI ?_
    refine cb_ O O (E_ O (T_ (am_ (R_ (M_ O ?_)))))
    refine o_ O (bm_ O (cW) (o_ O (cd_ O (M_ O (Zs ?_)))))
    refine bd_ O (ah_ O O b_ (ow_mapGetOB (κ:=Int) (M:=(L.take k).map (fun s=>(s,true))) 0 O O O O O (o_ O (bv_ O O O (T_ (ap_ O h_ (as_ (al_ (an_ (M_ O (M_ O (ag_ (ow_mapPut (κ:=Int) (vv:=Value.bool) (M:=(L.take k).map (fun s=>(s,true))) 0 O O O O O (ak_ ?_))))))))))))))
    refine Zx ?_
    refine jq_againS (i:=k) (k+1) ⟨hltk,all_snoc hltk hI hw,hd2⟩ g_ ?_ ?_
    ·rw [← hup]
     exact Wx
    ·exact Ww
 ·have hltk2:¬ (k:Int) < (((L).map Irow).length:Int):=by omega
  rw [List.take_of_length_le (by omega)] at hI hd
  rw [hI,hd,Bool.not_false,Bool.true_and,Bool.true_and,← hT] at e0
  rw [e0]
  refine R_ (o_ O (Zl ?_))
  refine al_ (R_ (F_ O (L_ 1 O (o_ O (bm_ O (hF) (o_ O (bl_ O O (fun bl=>W_ 0 O ?_))))))))
  exact T_ (R_ (F_ O (L_ 2 O (o_ O (ow_makeFunc O (o_ O (bi_ [0] O O (hX _) (o_ O (cd_ O (E_ O (T_ (ar_ (jq_ret1S O O (fun K h=>h) sub_end)))))))))))))
end Go.Proofs.YtalkkcfojplmdaaGreatDoor
end
section
namespace Go.Proofs.YtalkkcfojplmdaaGreatDoor
open Go.Vc
attribute [local irreducible] JL JC JQ OpWp Con ConN
attribute [local irreducible] nameB plainB shpF
set_option maxHeartbeats 4000000
theorem okSs_nil (F:Nat):okSs F []=true:=by cases F <;> simp [okSs]
theorem ok_right (F:Nat) (s:Sm):okOne (okSs F) s=(rightB s && okSs F s.thn && okSs F s.els && (s.index ++ s.value).all (shpF 20)):=by
 obtain ⟨k,nm,ix,v,mx,lb,th,el⟩:=s
 simp only [okOne,rightB,Sm.kind,Sm.name,Sm.index,Sm.value,Sm.max,Sm.label,Sm.thn,Sm.els]
 have hone:∀ l:List T,oneB l=(decide (l.length=1) && l.all (shpF 20)):=by
  intro l
  rcases l with _ | ⟨x,_ | ⟨y,l⟩⟩ <;> simp [oneB]
 rw [Bool.eq_iff_iff]
 rcases ix with _ | ⟨i,_ | ⟨i2,ix⟩⟩ <;> rcases v with _ | ⟨x,_ | ⟨x2,v⟩⟩ <;> rcases th with _ | ⟨t,th⟩ <;> rcases el with _ | ⟨e,el⟩ <;> simp [hone,okSs_nil] <;> (try split) <;> (try split) <;> (try split) <;> (try split) <;> (try split) <;> simp_all [and_assoc,and_comm,and_left_comm]
end Go.Proofs.YtalkkcfojplmdaaGreatDoor
end
section
namespace Go.Proofs.YtalkkcfojplmdaaGreatDoor
open Go.Vc
attribute [local irreducible] JL JC JQ OpWp Con ConN
attribute [local irreducible] nameB plainB shpF okSs rightB
set_option maxHeartbeats 8000000
def lsS:Nat→List Sm→Prop
 | 0,_=>True
 | F+1,l=>∀ s ∈ l,s.index.length≤1000∧s.value.length≤1000∧lsS F s.thn∧lsS F s.els
theorem formed_c:∀ (F:Nat) (l:List Sm),F≤20→lsS F l→Con Tryz.prog 136 [.cell (.list (l.map Sm.row)),In .i64 (21 - (F:Int))] [] (fun K=>K (Bl (okSs F l)) []):=by
 intro F
 induction F with
 | zero =>
  intro l _ _
  have e:okSs 0 l=true:=by unfold okSs; rfl
  refine con_intro Tryz.func136 O O b_ (fun c hc=>R_ (E_ O (T_ (am_ (R_ (M_ O (o_ O (bz_ O O (T_ (aq_ O O (R_ (E_ O (T_ (ar_ (aw_ (jq_ret1 O O [] O (fun K h=>by rw [e] at h; exact h)))))))))))))))))
 | succ F ih =>
  intro l hF hl
  have eL:(l.map Sm.row).length=l.length:=List.length_map _
  have hF1:(21 - ((F+1:Nat):Int)+1)=21 - (F:Int):=by omega
  have hF2:¬ 20 < (21 - ((F+1:Nat):Int)):=by omega
  have hF3:0≤(21 - ((F+1:Nat):Int))∧(21 - ((F+1:Nat):Int))≤20:=by omega
  have ih:=fun x=>ih x (by omega)
  rw [← hF1] at ih
  have eo:okSs (F+1) l=l.all (okOne (okSs F)):=by unfold okSs; rfl
  have hl2:∀ s ∈ l,s.index.length≤1000∧s.value.length≤1000∧lsS F s.thn∧lsS F s.els:=hl
  generalize (21 - ((F+1:Nat):Int))=d at hF1 hF2 hF3 ih ⊢
  refine con_intro Tryz.func136 O O b_ (fun c hc=>ZV ?_)
  refine bz_ O O (T_ (ap_ O w_ (as_ (al_ (am_ (R_ (M_ O (o_ O (br_ O (fun hlen=>?_))))))))))
  refine M_ O (T_ (au_ (jc_loopS (ι:=Nat) [] (fun k=>k≤l.length∧(l.take k).all (okOne (okSs F))=true) (fun k=>[(1,In .i64 d),(11,.cell (.list (l.map Sm.row))),(12,In .i64 ((l.map Sm.row).length:Int)),(13,In .i64 (k:Int))]) (fun _=>[]) (fun k=>l.length - k) 0 ⟨Nat.zero_le _,rfl⟩ ?_ ?_ ?_)))
  ·exact sub_end
  ·exact Ww
  rintro k ⟨hk,hall⟩
  by_cases hlt:k < l.length
  ·have hlt2:(k:Int) < ((l.map Sm.row).length:Int):=by omega
   obtain ⟨q1,q2,q3,q4⟩:=hl2 _ (List.getElem_mem hlt)
   have i1:=ih _ q3
   have i2:=ih _ q4
   have hE:=exprs_c _ q1 q2
   have hok:=ok_right F l[k]
   refine Zj ?_
   refine Zq ?_
   refine Yt (fun bl=>?_)
   refine am_ (R_ ?_)
   refine A_ 0 O (o_ O (bm_ O (right_c _) (o_ O (cd_ O (M_ O (jl_or 6 3 O O O O (nb O) ?_))))))
   apply Exists.intro
   refine ⟨fun hb1=>?_,?_⟩
   refine Za ?_
   refine Wi ?_
   exact bm_ O (i1) (ah_ O h_ b_ (cd_ O (ak_ (jq_seg 6 O O O (List.Perm.refl _)))))
   refine M_ O (jl_or 6 11 O O O O (nb O) ?_)
   apply Exists.intro
   refine ⟨fun hb1=>?_,?_⟩
   refine Za ?_
   refine Wi ?_
   exact bm_ O (i2) (ah_ O h_ b_ (cd_ O (ak_ (jq_seg 6 O O O (List.Perm.refl _)))))
   refine T_ ?_
   have hS:∀ x:T,Con Tryz.prog 186 [.row x.row',In .i64 1] [] (fun K=>K (Bl (shpF 20 x)) []):=fun x=>shapedB_c 20 x (by omega)
   refine jc_cond O (fun hn=>?_) (fun hy=>?_)
   ·have hp:okOne (okSs F) l[k]=false:=by
     rw [hok]
     cases h1:rightB l[k] <;> cases h2:okSs F l[k].thn <;> cases h3:okSs F l[k].els <;> simp_all
    have hno:=all_no hlt hp
    refine R_ (E_ O (T_ (ar_ (aw_ (az_ (aw_ (aw_ (az_ (aw_ (jq_ret1 O O [] O (fun K h=>by rw [eo,hno] at h; exact h)))))))))))
   ·have hy2:rightB l[k]=true∧okSs F l[k].thn=true∧okSs F l[k].els=true:=by
     cases h1:rightB l[k] <;> cases h2:okSs F l[k].thn <;> cases h3:okSs F l[k].els <;> simp_all
    obtain ⟨y1,y2,y3⟩:=hy2
    rw [y1,y2,y3,Bool.true_and,Bool.true_and,Bool.true_and] at hok
    generalize l[k].index ++ l[k].value=E at hE hok
    have eE:(E.map T.row).length=E.length:=List.length_map _
    refine as_ (al_ (R_ (A_ 0 O (o_ O (bm_ O (hE) (o_ O (br_ O (fun hlen=>M_ O (T_ (au_ ?_))))))))))
    refine jc_loopS (ι:=Nat) [] (fun q=>q≤E.length∧(E.take q).all (shpF 20)=true) (fun q=>[(1,In .i64 d),(11,.cell (.list (l.map Sm.row))),(12,In .i64 ((l.map Sm.row).length:Int)),(13,In .i64 (k:Int)),(37,.cell (.list (E.map T.row))),(38,In .i64 ((E.map T.row).length:Int)),(39,In .i64 (q:Int))]) (fun _=>[]) (fun q=>E.length - q) 0 ⟨Nat.zero_le _,rfl⟩ ?_ ?_ ?_
    ·exact sub_end
    ·exact Ww
    rintro q ⟨hq,hqa⟩
    by_cases hqt:q < E.length
    ·have hqt2:(q:Int) < ((E.map T.row).length:Int):=by omega
     have hSq:=hS E[q]
     refine Zj ?_
     refine Zy ?_
     refine Yt (fun bl=>?_)
     refine R_ (A_ 0 O ?_)
     refine o_ O (bm_ O (hSq) (o_ O (cd_ O (T_ (jc_cond O (fun hn=>?_) (fun hy=>?_))))))
     ·have hp:E.all (shpF 20)=false:=all_no hqt (by simpa using hn)
      have hno:=all_no hlt (hok.trans hp)
      refine Zr ?_
      refine az_ (aw_ (aw_ (az_ (aw_ (jq_ret1 O O [] O (fun K h=>by rw [eo,hno] at h; exact h))))))
     ·refine as_ (Zx ?_)
      refine jq_againS (q+1) ⟨hqt,all_snoc hqt hqa (by simpa using hy)⟩ g_ ?_ ?_
      ·exact sub_end
      ·exact Ww
    ·have hqt2:¬ (q:Int) < ((E.map T.row).length:Int):=by omega
     rw [List.take_of_length_le (by omega)] at hqa
     refine R_ (o_ O (Zl ?_))
     refine Zx ?_
     refine jq_againS (k+1) ⟨hlt,all_snoc hlt hall (hok.trans hqa)⟩ g_ ?_ ?_
     ·exact sub_end
     ·exact Ww
  ·have hlt2:¬ (k:Int) < ((l.map Sm.row).length:Int):=by omega
   rw [List.take_of_length_le (by omega)] at hall
   refine R_ (o_ O (Zl ?_))
   refine al_ (R_ (E_ O (T_ (ar_ (jq_ret1 O O [] O (fun K h=>by rw [eo,hall] at h; exact h))))))
end Go.Proofs.YtalkkcfojplmdaaGreatDoor
end
section
namespace Go.Proofs.YtalkkcfojplmdaaGreatDoor
set_option maxRecDepth 100000
def laysJoin_ren:Go.Shelf.Ren:=⟨fun | 156=>143 | 165=>191 | 166=>141 | 169=>90 | 240=>188 | 241=>233 | 276=>229 | 277=>246 | n=>n,fun | 0=>0 | 3=>3 | 4=>4 | 5=>5 | 9=>9 | 20=>20 | 31=>27 | 37=>73 | 70=>130 | 72=>132 | 75=>174 | 76=>175 | 80=>138 | 127=>180 | 164=>221 | n=>n,fun  | n=>n⟩
theorem laysJoin:Go.Proofs.Lays.n156 Tryz.prog laysJoin_ren:={
 mixed:=by kernel_rfl,
 f156:=Tryz.func143.trans (congrArg some (by kernel_rfl)),
 f165:=Tryz.func191.trans (congrArg some (by kernel_rfl)),
 f166:=Tryz.func141.trans (congrArg some (by kernel_rfl)),
 f169:=Tryz.func90.trans (congrArg some (by kernel_rfl)),
 f240:=Tryz.func188.trans (congrArg some (by kernel_rfl)),
 f241:=Tryz.func233.trans (congrArg some (by kernel_rfl)),
 f276:=Tryz.func229.trans (congrArg some (by kernel_rfl)),
 f277:=Tryz.func246.trans (congrArg some (by kernel_rfl)),
 t0:=Tryz.underlying0,
 a0:=Tryz.isAgg0,
 z0:=Tryz.sizeOf0,
 v0:=Tryz.zeroValue0,
 t3:=Tryz.underlying3,
 a3:=Tryz.isAgg3,
 z3:=Tryz.sizeOf3,
 v3:=Tryz.zeroValue3,
 t4:=Tryz.underlying4,
 a4:=Tryz.isAgg4,
 z4:=Tryz.sizeOf4,
 v4:=Tryz.zeroValue4,
 t9:=Tryz.underlying9,
 a9:=Tryz.isAgg9,
 z9:=Tryz.sizeOf9,
 v9:=Tryz.zeroValue9,
 t20:=Tryz.underlying20,
 a20:=Tryz.isAgg20,
 z20:=Tryz.sizeOf20,
 v20:=Tryz.zeroValue20,
 t31:=Tryz.underlying27,
 a31:=Tryz.isAgg27,
 z31:=Tryz.sizeOf27,
 v31:=Tryz.zeroValue27,
 t37:=Tryz.underlying73,
 a37:=Tryz.isAgg73,
 z37:=Tryz.sizeOf73,
 v37:=Tryz.zeroValue73,
 t70:=Tryz.underlying130,
 a70:=Tryz.isAgg130,
 z70:=Tryz.sizeOf130,
 v70:=Tryz.zeroValue130,
 t72:=Tryz.underlying132,
 a72:=Tryz.isAgg132,
 z72:=Tryz.sizeOf132,
 v72:=Tryz.zeroValue132,
 t75:=Tryz.underlying174,
 a75:=Tryz.isAgg174,
 z75:=Tryz.sizeOf174,
 v75:=Tryz.zeroValue174,
 t76:=Tryz.underlying175,
 a76:=Tryz.isAgg175,
 z76:=Tryz.sizeOf175,
 v76:=Tryz.zeroValue175,
 t127:=Tryz.underlying180,
 a127:=Tryz.isAgg180,
 z127:=Tryz.sizeOf180,
 v127:=Tryz.zeroValue180,
 t164:=Tryz.underlying221,
 a164:=Tryz.isAgg221,
 z164:=Tryz.sizeOf221,
 v164:=Tryz.zeroValue221 }
theorem laysJoinX:Go.Proofs.Builder.Extra Tryz.prog laysJoin_ren:={
 sizeBuilder:=by kernel_rfl,
 liesBuilder:=by kernel_rfl,
 t5:=Tryz.underlying5,
 a5:=Tryz.isAgg5,
 z5:=Tryz.sizeOf5,
 v5:=Tryz.zeroValue5,
 infoByte:=by kernel_rfl,
 cellsByte:=by kernel_rfl,
 sizeByte:=by kernel_rfl,
 neB5:=by decide }
def laysRepeat_ren:Go.Shelf.Ren:=⟨fun | 99=>190 | 105=>142 | 165=>191 | 166=>141 | 169=>90 | 170=>89 | 206=>232 | 212=>189 | 240=>188 | 241=>233 | 263=>230 | 264=>231 | 276=>229 | 277=>246 | n=>n,fun | 0=>0 | 3=>3 | 4=>4 | 5=>5 | 9=>9 | 20=>20 | 37=>73 | 46=>121 | 51=>199 | 53=>202 | 70=>130 | 72=>132 | 75=>174 | 76=>175 | 80=>138 | 109=>208 | 127=>180 | 146=>223 | 148=>225 | 164=>221 | n=>n,fun  | n=>n⟩
theorem laysRepeat:Go.Proofs.Lays.n105 Tryz.prog laysRepeat_ren:={
 mixed:=by kernel_rfl,
 f99:=Tryz.func190.trans (congrArg some (by kernel_rfl)),
 f105:=Tryz.func142.trans (congrArg some (by kernel_rfl)),
 f165:=Tryz.func191.trans (congrArg some (by kernel_rfl)),
 f166:=Tryz.func141.trans (congrArg some (by kernel_rfl)),
 f169:=Tryz.func90.trans (congrArg some (by kernel_rfl)),
 f170:=Tryz.func89.trans (congrArg some (by kernel_rfl)),
 f206:=Tryz.func232.trans (congrArg some (by kernel_rfl)),
 f212:=Tryz.func189.trans (congrArg some (by kernel_rfl)),
 f240:=Tryz.func188.trans (congrArg some (by kernel_rfl)),
 f241:=Tryz.func233.trans (congrArg some (by kernel_rfl)),
 f263:=Tryz.func230.trans (congrArg some (by kernel_rfl)),
 f264:=Tryz.func231.trans (congrArg some (by kernel_rfl)),
 f276:=Tryz.func229.trans (congrArg some (by kernel_rfl)),
 f277:=Tryz.func246.trans (congrArg some (by kernel_rfl)),
 t0:=Tryz.underlying0,
 a0:=Tryz.isAgg0,
 z0:=Tryz.sizeOf0,
 v0:=Tryz.zeroValue0,
 t3:=Tryz.underlying3,
 a3:=Tryz.isAgg3,
 z3:=Tryz.sizeOf3,
 v3:=Tryz.zeroValue3,
 t4:=Tryz.underlying4,
 a4:=Tryz.isAgg4,
 z4:=Tryz.sizeOf4,
 v4:=Tryz.zeroValue4,
 t5:=Tryz.underlying5,
 a5:=Tryz.isAgg5,
 z5:=Tryz.sizeOf5,
 v5:=Tryz.zeroValue5,
 t9:=Tryz.underlying9,
 a9:=Tryz.isAgg9,
 z9:=Tryz.sizeOf9,
 v9:=Tryz.zeroValue9,
 t20:=Tryz.underlying20,
 a20:=Tryz.isAgg20,
 z20:=Tryz.sizeOf20,
 v20:=Tryz.zeroValue20,
 t37:=Tryz.underlying73,
 a37:=Tryz.isAgg73,
 z37:=Tryz.sizeOf73,
 v37:=Tryz.zeroValue73,
 t46:=Tryz.underlying121,
 a46:=Tryz.isAgg121,
 z46:=Tryz.sizeOf121,
 v46:=Tryz.zeroValue121,
 t51:=Tryz.underlying199,
 a51:=Tryz.isAgg199,
 z51:=Tryz.sizeOf199,
 v51:=Tryz.zeroValue199,
 t53:=Tryz.underlying202,
 a53:=Tryz.isAgg202,
 z53:=Tryz.sizeOf202,
 v53:=Tryz.zeroValue202,
 t70:=Tryz.underlying130,
 a70:=Tryz.isAgg130,
 z70:=Tryz.sizeOf130,
 v70:=Tryz.zeroValue130,
 t72:=Tryz.underlying132,
 a72:=Tryz.isAgg132,
 z72:=Tryz.sizeOf132,
 v72:=Tryz.zeroValue132,
 t75:=Tryz.underlying174,
 a75:=Tryz.isAgg174,
 z75:=Tryz.sizeOf174,
 v75:=Tryz.zeroValue174,
 t76:=Tryz.underlying175,
 a76:=Tryz.isAgg175,
 z76:=Tryz.sizeOf175,
 v76:=Tryz.zeroValue175,
 t109:=Tryz.underlying208,
 a109:=Tryz.isAgg208,
 z109:=Tryz.sizeOf208,
 v109:=Tryz.zeroValue208,
 t127:=Tryz.underlying180,
 a127:=Tryz.isAgg180,
 z127:=Tryz.sizeOf180,
 v127:=Tryz.zeroValue180,
 t146:=Tryz.underlying223,
 a146:=Tryz.isAgg223,
 z146:=Tryz.sizeOf223,
 v146:=Tryz.zeroValue223,
 t148:=Tryz.underlying225,
 a148:=Tryz.isAgg225,
 z148:=Tryz.sizeOf225,
 v148:=Tryz.zeroValue225,
 t164:=Tryz.underlying221,
 a164:=Tryz.isAgg221,
 z164:=Tryz.sizeOf221,
 v164:=Tryz.zeroValue221 }
theorem laysRepeatX:Go.Proofs.Builder.Extra Tryz.prog laysRepeat_ren:={
 sizeBuilder:=by kernel_rfl,
 liesBuilder:=by kernel_rfl,
 t5:=Tryz.underlying5,
 a5:=Tryz.isAgg5,
 z5:=Tryz.sizeOf5,
 v5:=Tryz.zeroValue5,
 infoByte:=by kernel_rfl,
 cellsByte:=by kernel_rfl,
 sizeByte:=by kernel_rfl,
 neB5:=by decide }
end Go.Proofs.YtalkkcfojplmdaaGreatDoor
end
section
namespace Go.Proofs.YtalkkcfojplmdaaGreatDoor
open Go.Vc
set_option maxHeartbeats 4000000
set_option maxRecDepth 20000
def spN:Nat→ByteArray
 | 0=>⟨#[]⟩
 | n+1=>spN n ++ Ksp
theorem spN_size:∀ n,(spN n).size=2 * n
 | 0=>rfl
 | n+1=>by rw [spN,ByteArray.size_append,spN_size n]; show _+2=_; omega
theorem spN_rep:∀ n:Nat,(⟨(Lib.repeatL [32,32] n).toArray⟩:ByteArray)=spN n
 | 0=>rfl
 | n+1=>by
  rw [spN,← spN_rep n,Lib.repeatL_add,Lib.repeatL_one]
  apply ByteArray.ext
  simp
def joinB:List ByteArray→ByteArray
 | []=>⟨#[]⟩
 | [x]=>x
 | x :: y :: l=>x ++ (⟨#[32]⟩:ByteArray) ++ joinB (y :: l)
theorem joinB_lib:∀ l:List ByteArray,(⟨(Lib.join (l.map (·.data.toList)) [32]).toArray⟩:ByteArray)=joinB l
 | []=>rfl
 | [x]=>by
  simp only [List.map_cons,List.map_nil,Lib.join_one,joinB]
 | x :: y :: l=>by
  have ih:=joinB_lib (y :: l)
  rw [joinB,← ih]
  simp only [List.map_cons,Lib.join_cons]
  apply ByteArray.ext
  simp [Lib.joinTail]
theorem repeat_c (n:Nat) (hn:n≤1000):Con Tryz.prog 142 [.cell (.val (.string Ksp)),In .i64 (n:Int)] [] (fun K=>K (Str (spN n)) []):=by
 rintro vs w A _ _ _ ⟨v,r,rfl,⟨rfl,_⟩,v2,r2,rfl,⟨rfl,_⟩,hr⟩ _ _
 simp only [SOks] at hr
 subst hr
 refine (Any.strings_Repeat laysRepeat laysRepeatX Ksp n w g_ (by show 2 * n≤_; omega)).mono ?_
 rintro e w' ⟨rfl,hb⟩
 exact ⟨_,_,[],rfl,fun K h=>h,⟨congrArg Value.string (spN_rep n),rfl⟩,by simp,by simp [Go.Vc.hb],by simp [Go.Vc.hb],⟨hb.os,hb.tape,hb.output,hb.size,fun k hk _=>hb.block k hk⟩⟩
theorem wrow_cells {w:World} {A:Nat→Prop} {k:Nat}:∀ {L:List ByteArray} {vs:List Value},RdRows w A k (L.map Wrow) vs→vs=L.map Value.string
 | [],vs,h=>by simpa [RdRows] using h
 | n :: L,vs,h=>by
  obtain ⟨cc,r,rfl,_,h2,h3⟩:=h
  obtain ⟨v,r',rfl,h4,h5⟩:=h2
  simp only [RdRow] at h5
  subst h5
  rw [wrow_cells h3]
  obtain ⟨rfl,_⟩:=h4
  rfl
theorem join_c (L:List ByteArray) (hL:L≠[]) (hl:L.length≤1000) (hn:(joinB L).size≤140737488355328):Con Tryz.prog 143 [.cell (.list (L.map Wrow)),.cell (.val (.string ⟨#[32]⟩))] [] (fun K=>K (Str (joinB L)) []):=by
 have hlen:(L.map Wrow).length=L.length:=List.length_map _
 rintro vs w A _ _ _ ⟨v,r,rfl,⟨a,cap,rfl,h1,h2,h3⟩,v2,r2,rfl,⟨rfl,_⟩,hr⟩ _ _
 simp only [SOks] at hr
 subst hr
 have h0:L.length≠0:=fun h=>hL (List.eq_nil_of_length_eq_zero h)
 rcases h3 with h3 | ⟨b,off,vs,k,rfl,_,hc,hk,hrd⟩
 ·omega
 have hvs:=wrow_cells hrd
 have hjl:(Lib.join (L.map (·.data.toList)) [32]).length=(joinB L).size:=by
  rw [← joinB_lib]
  show _=(Lib.join (L.map (·.data.toList)) [32]).toArray.size
  simp
 have hbk:b < w.heap.size:=cells_lt hc (by rw [hvs,List.length_map]; omega)
 rw [hlen] at h1 ⊢
 refine (Any.strings_Join laysJoin laysJoinX b off cap L ⟨#[32]⟩ w (fun j x hx=>hc j _ (by rw [hvs,List.getElem?_map,hx]; rfl)) hbk (by unfold maxLen at h2; omega) h1 (by show (Lib.join (L.map (·.data.toList)) [32]).length≤_; omega)).mono ?_
 rintro e w' ⟨rfl,hb⟩
 exact ⟨_,_,[],rfl,fun K h=>h,⟨congrArg Value.string (joinB_lib L),rfl⟩,by simp,by simp [Go.Vc.hb],by simp [Go.Vc.hb],⟨hb.os,hb.tape,hb.output,hb.size,fun k hk _=>hb.block k hk⟩⟩
attribute [local irreducible] JL JC JQ OpWp Con ConN HOk
abbrev Wblk (b:Nat) (p:Option Addr) (v:Value):Ch:=.blk b 134 [.val (.pointer p),.val v]
abbrev Wptr (b:Nat):S:=.cell (.val (.pointer (some ⟨b,0,none⟩)))
def WP (b:Nat) (p:Option Addr):Prop:=p=none ∨ p=some ⟨b,0,none⟩
theorem noEscape_run (v:Value) (w:World):(callFunc 229 #[v]).run Tryz.prog w=.ok (.value v) w:=by
 rw [run_callFunc_extern Tryz.func229 (by kernel_rfl) (by kernel_rfl) (by kernel_rfl) (e:=Extern.AbiNoEscape.same) (by kernel_rfl),Lib.run_noEscape]
 rfl
theorem copyCheck_c (b:Nat) (v:Value) (p:Option Addr) (hp:WP b p):Con Tryz.prog 188 [Wptr b] [Wblk b p v] (fun K=>K (.tup []) [Wblk b (some ⟨b,0,none⟩) v]):=by
 refine con_intro Tryz.func188 O O b_ (fun c hc=>?_)
 rcases hp with rfl | rfl
 ·refine R_ (YF ?_)
  refine o_ O (ow_ptrNil O O O (T_ (aq_ O O (an_ (M_ O (M_ O (o_ O (ow_toUnsafe (te:=132) 0 O O (by decide) O O b_ (o_ O (ow_noEscape (noEscape_run _) O O (o_ O (ow_fromUnsafe (u:=132) 0 O O O O k_ (N_ O (F_ O ?_))))))))))))))
  refine W_ 0 O (ak_ (jq_ret0 (.inr O) O [0] O (fun K h=>h)))
 ·refine R_ (YF ?_)
  refine o_ O (ow_ptrNotNil O O O (T_ (ap_ O O (R_ (YF ?_)))))
  refine M_ O (o_ O (ow_ptrSame (te:=132) O O O (T_ ?_)))
  refine ap_ O O (as_ (jq_ret0 (.inr O) O [0] O (fun K h=>h)))
theorem writeString_c (b:Nat) (v:Value) (p:Option Addr) (X s:ByteArray) (hp:WP b p) (hX:X.size+s.size≤140737488355328):Con Tryz.prog 141 [Wptr b,Str s] [Wblk b p v,Bw v X]
 (fun K=>∀ v':Value,True→K (.tup [In .i64 s.size,.cell (.val .nilIface)]) [Wblk b (some ⟨b,0,none⟩) v',Bw v' (X ++ s)]):=by
 have hcc:=copyCheck_c b v p hp
 refine con_intro Tryz.func141 O O b_ (fun c hc=>R_ (E_ O (YX ?_)))
 refine bi_ [0] O O (hcc) (T_ (R_ (M_ O (YF ?_))))
 refine M_ O ?_
 refine o_ O (ow_appendS 1 O O O O O O O O g_ (fun v1 _=>N_ O (F_ O (W_ 1 O (T_ (R_ (M_ O (o_ O (co_ O O (E_ O (E_ O (T_ (ar_ (jq_ret2 O O O [0,0] O (fun K h=>h _ trivial)))))))))))))))
theorem builderLen_c (b:Nat) (p:Option Addr) (v:Value) (X:ByteArray):Con Tryz.prog 89 [Wptr b] [Wblk b p v,Bw v X] (fun K=>K (In .i64 (X.size:Int)) [Wblk b p v,Bw v X]):=by
 have hl:((bytesI X).map Brow).length=X.size:=by rw [List.length_map,bytesI_len]
 refine con_intro Tryz.func89 O O b_ (fun c hc=>R_ (E_ O (T_ (R_ (M_ O (N_ O (F_ O (L_ 0 O (o_ O (cw_ 1 O O (fun hlen=>E_ O (T_ (ar_ (jq_ret1 O O [0,0] O (fun K h=>by rw [← hl] at h; exact h)))))))))))))))
theorem builderString_c (b:Nat) (p:Option Addr) (v:Value) (X:ByteArray) (h0:0 < X.size) (h63:X.size≤140737488355328):Con Tryz.prog 90 [Wptr b] [Wblk b p v,Bw v X] (fun K=>K (Str X) [Wblk b p v]):=by
 have hl:((bytesI X).map Brow).length=X.size:=by rw [List.length_map,bytesI_len]
 refine con_intro Tryz.func90 O O b_ (fun c hc=>jc_ownSome 1 O g_ (fun g cap hv h1 h2=>?_))
 rw [hl] at hv h1
 subst hv
 refine R_ (E_ O (T_ (am_ (jc_hpV 11 (n:=12) O 0 [.pointer p,.slice (some ⟨g,0,none⟩) X.size cap] k_ O O (df_ (i:=0) O k_ k_ k_ b_ ZP (dk_ O) ?_)))))
 refine df_ (i:=1) O k_ k_ k_ b_ ZP (dr_ O) ?_
 refine df_ (i:=2) O k_ k_ k_ b_ ZP (dl_ O O O b_) ?_
 refine df_ (i:=3) O k_ k_ k_ b_ ZP (dm_ 0 O O O mem0 O) ?_
 refine df_ (i:=4) O k_ k_ k_ b_ ZP (hok_sliceData O g_) ?_
 refine df_ (i:=5) O k_ k_ k_ b_ ZP (dk_ O) ?_
 refine df_ (i:=6) O k_ k_ k_ b_ ZP (dr_ O) ?_
 refine df_ (i:=7) O k_ k_ k_ b_ ZP (dl_ O O O b_) ?_
 refine df_ (i:=8) O k_ k_ k_ b_ ZP (dm_ 0 O O O mem0 O) ?_
 refine df_ (i:=9) O k_ k_ k_ b_ ZP (hok_lenV O g_) ?_
 refine dg_ (i:=10) O k_ b_ (ow_unsafeString 1 O O O O O O h0 g_ ⟨?_,?_⟩)
 exact keep1 0 O
 refine hp_tail (di_ (i:=11) O k_ b_ (by decide) (be_ O (ht_done k_ (al_ (ar_ (jq_ret1 O O [0] O (fun K h=>h)))))))
theorem builderString0_c (b:Nat) (p:Option Addr):Con Tryz.prog 90 [Wptr b] [Wblk b p NilV,Bw NilV ⟨#[]⟩] (fun K=>K (Str ⟨#[]⟩) [Wblk b p NilV]):=by
 refine con_intro Tryz.func90 O O b_ (fun c hc=>R_ (E_ O (T_ (am_ (jc_hpV 11 (n:=12) O 0 [.pointer p,.slice none 0 0] k_ O O (df_ (i:=0) O k_ k_ k_ b_ ZP (dk_ O) ?_))))))
 refine df_ (i:=1) O k_ k_ k_ b_ ZP (dr_ O) ?_
 refine df_ (i:=2) O k_ k_ k_ b_ ZP (dl_ O O O b_) ?_
 refine df_ (i:=3) O k_ k_ k_ b_ ZP (dm_ 0 O O O mem0 O) ?_
 refine df_ (i:=4) O k_ k_ k_ b_ ZP (hok_sliceDataNil O) ?_
 refine df_ (i:=5) O k_ k_ k_ b_ ZP (dk_ O) ?_
 refine df_ (i:=6) O k_ k_ k_ b_ ZP (dr_ O) ?_
 refine df_ (i:=7) O k_ k_ k_ b_ ZP (dl_ O O O b_) ?_
 refine df_ (i:=8) O k_ k_ k_ b_ ZP (dm_ 0 O O O mem0 O) ?_
 refine df_ (i:=9) O k_ k_ k_ b_ ZP (hok_lenV O g_) ?_
 refine dg_ (i:=10) O k_ b_ (ow_unsafeString0 O O ⟨?_,?_⟩)
 exact keep1 0 O
 refine hp_tail (di_ (i:=11) O k_ b_ (by decide) (be_ O (ht_done k_ (al_ (ar_ (jq_ret1 O O [0] O (fun K h=>h)))))))
def lnT (n:Nat) (L:List ByteArray):ByteArray:=(spN n ++ joinB L) ++ (⟨#[10]⟩:ByteArray)
theorem line_c (b:Nat) (v:Value) (p:Option Addr) (X:ByteArray) (n:Nat) (L:List ByteArray) (hp:WP b p) (hn:n≤1000) (hL:L≠[]) (hl:L.length≤1000) (hj:(joinB L).size≤100000000) (hX:X.size≤140000000000000) :
 Con Tryz.prog 86 [Wptr b,In .i64 (n:Int),.cell (.list (L.map Wrow))] [Wblk b p v,Bw v X]
  (fun K=>∀ v':Value,True→K (.tup []) [Wblk b (some ⟨b,0,none⟩) v',Bw v' (X ++ lnT n L)]):=by
 have hs:=spN_size n
 have hR:=repeat_c n hn
 have hJ:=join_c L hL hl (by omega)
 have hsz:(lnT n L).size=(spN n).size+(joinB L).size+1:=by unfold lnT; rw [ByteArray.size_append,ByteArray.size_append]; rfl
 have hW:=writeString_c b v p X (lnT n L) hp (by omega)
 refine con_intro Tryz.func86 O O b_ (fun c hc=>jc_anyB 9 none O k_ k_ (yM_ O (yN_ O (yF_ O (yM_ O (aa_ (fun c=>bm_ O (hR) p_) (yM_ O (aa_ (fun c=>bm_ O (hJ) p_) (aa_ (fun c=>ow_strcat O O g_ p_) (Yc ?_))))))))))
 refine o_ O (bt_ [0,0] O O (hW) (fun pp hpp=>ak_ ?_))
 trace_state
 refine jq_ret0 (.inr O) O [0,0] O (fun K h=>h _ trivial)
end Go.Proofs.YtalkkcfojplmdaaGreatDoor
end
section
namespace Go.Proofs.YtalkkcfojplmdaaGreatDoor
open Go.Vc
attribute [local irreducible] JL JC JQ OpWp Con ConN HOk
attribute [local irreducible] nameB plainB smallB shpF okSs rightB
set_option maxHeartbeats 4000000
def declB (t:Tk):Bool:=hdB t && t.inputs.all inB && t.vars.all nameB && t.arrays.all arB && t.modes.all mdB && t.claims.all clB
theorem okTk_decl (t:Tk):okTk t=(declB t && okSs 20 t.body):=by
 unfold okTk declB
 cases hdB t <;> cases okSs 20 t.body <;> simp
theorem declared_c (t:Tk):Con Tryz.prog 135 [.row t.row] [] (fun K=>K (Bl (declB t)) []):=by
 have hres:declB t=(((((hdB t && t.inputs.all inB) && t.vars.all nameB) && t.arrays.all arB) && t.modes.all mdB) && t.claims.all clB):=rfl
 refine con_intro Tryz.func135 O O b_ (fun c hc=>Wv (fun bx=>?_))
 refine Yh ?_
 refine bm_ O (namedB_c _) (M_ O (jl_and 10 3 O O O O (nb O) ?_))
 apply Exists.intro
 refine ⟨fun hb1=>?_,?_⟩
 refine Za ?_
 refine bf_ O O O b_ (ah_ O h_ b_ (bg_ 0 O O O O (Za ?_)))
 refine Ye ?_
 exact bq_ O O b_ O O b_ (ah_ O h_ b_ (bm_ O (plainL_c [t.period,t.deadline,t.priority,t.jitter]) (ak_ (jq_seg 10 O O O (List.Perm.refl _)))))
 refine E_ O (T_ (am_ (Yh ?_)))
 refine br_ O (fun hlen=>M_ O (T_ ?_))
 have hz0:(nameB t.name && [t.period,t.deadline,t.priority,t.jitter].all plainB)=hdB t:=by simp [hdB,Bool.and_assoc]
 rw [hz0]
 rw [hres]
 clear hres
 generalize hz1:hdB t=z0 at *
 refine au_ ?_
 have eL0:((t.inputs).map InRow).length=(t.inputs).length:=List.length_map _
 refine jc_loopS (ι:=Nat) [] (fun k=>k≤(t.inputs).length) (fun k=>[(1,.cell (.val (.pointer (some ⟨bx,0,none⟩)))),(3,Bl (z0 && ((t.inputs).take k).all inB)),(30,.cell (.list ((t.inputs).map InRow))),(31,In .i64 (((t.inputs).map InRow).length:Int)),(32,In .i64 (k:Int))]) (fun _=>[.blk bx 39 t.row]) (fun k=>(t.inputs).length - k) 0 (Nat.zero_le _) ?_ ?_ ?_
 ·exact Wy
 ·rw [show (z0 && ((t.inputs).take 0).all inB)=z0 by simp]
  exact Ww
 intro k hk
 by_cases hlt:k < (t.inputs).length
 ·have hlt2:(k:Int) < (((t.inputs).map InRow).length:Int):=by omega
  have e1:=all_step (p:=inB) (z:=z0) hlt
  generalize (z0 && ((t.inputs).take k).all inB)=zz at e1 ⊢
  refine Zj ?_
  refine Zm (fun bl=>?_)
  refine an_ (M_ O ?_)
  refine M_ O (jl_and 3 1 O O O O (nb O) ?_)
  apply Exists.intro
  refine ⟨fun hb1=>?_,?_⟩
  refine Za ?_
  exact WQ
  refine M_ O (jl_and 6 6 O O O O (nb O) ?_)
  apply Exists.intro
  refine ⟨fun hb1=>?_,?_⟩
  refine Za ?_
  refine Ye ?_
  exact bq_ O O b_ O O b_ (ah_ O h_ b_ (bm_ O (signedL_c [(t.inputs[k]).2.1,(t.inputs[k]).2.2]) (ak_ (jq_seg 6 O O O (List.Perm.refl _)))))
  refine E_ O (ak_ (Zx ?_))
  refine jq_bl 3 O (b':=zz && inB (t.inputs)[k]) (by simp [inB,Bool.and_assoc]) (jq_againS (k+1) hlt g_ ?_ ?_)
  ·exact WE
  ·rw [e1]
   exact Ww
 have hlt2:¬ (k:Int) < (((t.inputs).map InRow).length:Int):=by omega
 rw [List.take_of_length_le (show (t.inputs).length≤k by omega)]
 clear hlt hk
 refine R_ (o_ O (Zl ?_))
 refine al_ (am_ (Yh ?_))
 refine br_ O (fun hlen=>M_ O ?_)
 refine T_ ?_
 generalize hz2:(z0 && (t.inputs).all inB)=z1 at *
 refine au_ ?_
 have eL1:((t.vars).map Wrow).length=(t.vars).length:=List.length_map _
 refine jc_loopS (ι:=Nat) [] (fun k=>k≤(t.vars).length) (fun k=>[(1,.cell (.val (.pointer (some ⟨bx,0,none⟩)))),(3,Bl (z1 && ((t.vars).take k).all nameB)),(52,.cell (.list ((t.vars).map Wrow))),(53,In .i64 (((t.vars).map Wrow).length:Int)),(54,In .i64 (k:Int))]) (fun _=>[.blk bx 39 t.row]) (fun k=>(t.vars).length - k) 0 (Nat.zero_le _) ?_ ?_ ?_
 ·exact Wy
 ·rw [show (z1 && ((t.vars).take 0).all nameB)=z1 by simp]
  exact Ww
 intro k hk
 by_cases hlt:k < (t.vars).length
 ·have hlt2:(k:Int) < (((t.vars).map Wrow).length:Int):=by omega
  have e1:=all_step (p:=nameB) (z:=z1) hlt
  generalize (z1 && ((t.vars).take k).all nameB)=zz at e1 ⊢
  refine Zj ?_
  refine ZI ?_
  refine cb_ O O (E_ O (T_ (an_ (M_ O (M_ O ?_)))))
  refine jl_and 2 1 O O O O (nb O) ?_
  apply Exists.intro
  refine ⟨fun hb1=>?_,?_⟩
  refine Z8 ?_
  exact bm_ O (namedB_c _) (ak_ (jq_seg 2 O O O (List.Perm.refl _)))
  refine E_ O (ak_ (Zx ?_))
  refine jq_bl 3 O (b':=zz && nameB (t.vars)[k]) (O) (jq_againS (k+1) hlt g_ ?_ ?_)
  ·exact Wy
  ·rw [e1]
   exact Ww
 have hlt2:¬ (k:Int) < (((t.vars).map Wrow).length:Int):=by omega
 rw [List.take_of_length_le (show (t.vars).length≤k by omega)]
 clear hlt hk
 refine R_ (o_ O (Zl ?_))
 refine al_ (am_ (Yh ?_))
 refine br_ O (fun hlen=>M_ O ?_)
 refine T_ ?_
 generalize hz3:(z1 && (t.vars).all nameB)=z2 at *
 refine au_ ?_
 have eL2:((t.arrays).map ArRow).length=(t.arrays).length:=List.length_map _
 refine jc_loopS (ι:=Nat) [] (fun k=>k≤(t.arrays).length) (fun k=>[(1,.cell (.val (.pointer (some ⟨bx,0,none⟩)))),(3,Bl (z2 && ((t.arrays).take k).all arB)),(65,.cell (.list ((t.arrays).map ArRow))),(66,In .i64 (((t.arrays).map ArRow).length:Int)),(67,In .i64 (k:Int))]) (fun _=>[.blk bx 39 t.row]) (fun k=>(t.arrays).length - k) 0 (Nat.zero_le _) ?_ ?_ ?_
 ·exact Wy
 ·rw [show (z2 && ((t.arrays).take 0).all arB)=z2 by simp]
  exact Ww
 intro k hk
 by_cases hlt:k < (t.arrays).length
 ·have hlt2:(k:Int) < (((t.arrays).map ArRow).length:Int):=by omega
  have e1:=all_step (p:=arB) (z:=z2) hlt
  generalize (z2 && ((t.arrays).take k).all arB)=zz at e1 ⊢
  refine Zj ?_
  refine Zm (fun bl=>?_)
  refine an_ (M_ O ?_)
  refine M_ O (jl_and 3 1 O O O O (nb O) ?_)
  apply Exists.intro
  refine ⟨fun hb1=>?_,?_⟩
  refine Za ?_
  exact WQ
  refine M_ O (jl_and 4 6 O O O O (nb O) ?_)
  apply Exists.intro
  refine ⟨fun hb1=>?_,?_⟩
  refine Za ?_
  exact bq_ O O b_ O O b_ (ah_ O h_ b_ (bm_ O (plainL_c [(t.arrays[k]).2]) (ak_ (jq_seg 4 O O O (List.Perm.refl _)))))
  refine E_ O (ak_ (Zx ?_))
  refine jq_bl 3 O (b':=zz && arB (t.arrays)[k]) (by simp [arB,Bool.and_assoc]) (jq_againS (k+1) hlt g_ ?_ ?_)
  ·exact WE
  ·rw [e1]
   exact Ww
 have hlt2:¬ (k:Int) < (((t.arrays).map ArRow).length:Int):=by omega
 rw [List.take_of_length_le (show (t.arrays).length≤k by omega)]
 clear hlt hk
 refine R_ (o_ O (Zl ?_))
 refine al_ (am_ (Yh ?_))
 refine br_ O (fun hlen=>M_ O ?_)
 refine T_ ?_
 generalize hz4:(z2 && (t.arrays).all arB)=z3 at *
 refine au_ ?_
 have eL3:((t.modes).map MdRow).length=(t.modes).length:=List.length_map _
 refine jc_loopS (ι:=Nat) [] (fun k=>k≤(t.modes).length) (fun k=>[(1,.cell (.val (.pointer (some ⟨bx,0,none⟩)))),(3,Bl (z3 && ((t.modes).take k).all mdB)),(85,.cell (.list ((t.modes).map MdRow))),(86,In .i64 (((t.modes).map MdRow).length:Int)),(87,In .i64 (k:Int))]) (fun _=>[.blk bx 39 t.row]) (fun k=>(t.modes).length - k) 0 (Nat.zero_le _) ?_ ?_ ?_
 ·exact Wy
 ·rw [show (z3 && ((t.modes).take 0).all mdB)=z3 by simp]
  exact Ww
 intro k hk
 by_cases hlt:k < (t.modes).length
 ·have hlt2:(k:Int) < (((t.modes).map MdRow).length:Int):=by omega
  have e1:=all_step (p:=mdB) (z:=z3) hlt
  generalize (z3 && ((t.modes).take k).all mdB)=zz at e1 ⊢
  refine Zj ?_
  refine Zm (fun bl=>?_)
  refine an_ (M_ O ?_)
  refine M_ O (jl_and 3 1 O O O O (nb O) ?_)
  apply Exists.intro
  refine ⟨fun hb1=>?_,?_⟩
  refine Za ?_
  exact WQ
  refine M_ O (jl_and 3 6 O O O O (nb O) ?_)
  apply Exists.intro
  refine ⟨fun hb1=>?_,?_⟩
  refine Za ?_
  exact WQ
  refine M_ O (jl_and 6 11 O O O O (nb O) ?_)
  apply Exists.intro
  refine ⟨fun hb1=>?_,?_⟩
  refine Za ?_
  refine Ye ?_
  exact bq_ O O b_ O O b_ (ah_ O h_ b_ (bm_ O (signedL_c [(t.modes[k]).2.2.1,(t.modes[k]).2.2.2]) (ak_ (jq_seg 6 O O O (List.Perm.refl _)))))
  refine E_ O (ak_ (Zx ?_))
  refine jq_bl 3 O (b':=zz && mdB (t.modes)[k]) (by simp [mdB,Bool.and_assoc]) (jq_againS (k+1) hlt g_ ?_ ?_)
  ·exact WE
  ·rw [e1]
   exact Ww
 have hlt2:¬ (k:Int) < (((t.modes).map MdRow).length:Int):=by omega
 rw [List.take_of_length_le (show (t.modes).length≤k by omega)]
 clear hlt hk
 refine R_ (o_ O (Zl ?_))
 refine al_ (am_ (Yh ?_))
 refine br_ O (fun hlen=>M_ O ?_)
 refine T_ ?_
 generalize hz5:(z3 && (t.modes).all mdB)=z4 at *
 refine au_ ?_
 have eL4:((t.claims).map ClRow).length=(t.claims).length:=List.length_map _
 refine jc_loopS (ι:=Nat) [] (fun k=>k≤(t.claims).length) (fun k=>[(1,.cell (.val (.pointer (some ⟨bx,0,none⟩)))),(3,Bl (z4 && ((t.claims).take k).all clB)),(112,.cell (.list ((t.claims).map ClRow))),(113,In .i64 (((t.claims).map ClRow).length:Int)),(114,In .i64 (k:Int))]) (fun _=>[.blk bx 39 t.row]) (fun k=>(t.claims).length - k) 0 (Nat.zero_le _) ?_ ?_ ?_
 ·exact Wy
 ·rw [show (z4 && ((t.claims).take 0).all clB)=z4 by simp]
  exact Ww
 intro k hk
 by_cases hlt:k < (t.claims).length
 ·have hlt2:(k:Int) < (((t.claims).map ClRow).length:Int):=by omega
  have e1:=all_step (p:=clB) (z:=z4) hlt
  generalize (z4 && ((t.claims).take k).all clB)=zz at e1 ⊢
  refine Zj ?_
  refine Zm (fun bl=>?_)
  refine an_ (M_ O ?_)
  refine M_ O (jl_and 6 1 O O O O (nb O) ?_)
  apply Exists.intro
  refine ⟨fun hb1=>?_,?_⟩
  refine Za ?_
  refine Ye ?_
  exact bq_ O O b_ O O b_ (ah_ O h_ b_ (bm_ O (plainL_c [(t.claims[k]).1,(t.claims[k]).2]) (ak_ (jq_seg 6 O O O (List.Perm.refl _)))))
  refine E_ O (ak_ (Zx ?_))
  refine jq_bl 3 O (b':=zz && clB (t.claims)[k]) (by simp [clB]) (jq_againS (k+1) hlt g_ ?_ ?_)
  ·exact WE
  ·rw [e1]
   exact Ww
 have hlt2:¬ (k:Int) < (((t.claims).map ClRow).length:Int):=by omega
 rw [List.take_of_length_le (show (t.claims).length≤k by omega)]
 clear hlt hk
 refine R_ (o_ O (Zl ?_))
 refine al_ (R_ (M_ O (E_ O (T_ (ar_ (jq_ret1 O O [] O (fun K h=>h)))))))
theorem printable_c (p:Pg) (hls:∀ t ∈ p.tasks,lsS 20 t.body):Con Tryz.prog 84 [.row p.row] [] (fun K=>K (Bl (okPg p)) []):=by
 refine con_intro Tryz.func84 O O b_ (fun c hc=>?_)
 skip
 refine Wv (fun bx=>?_)
 refine am_ (jc_cut (ι:=Unit) [] (fun _=>(p.res).all nameB=true) (fun _=>[(1,.cell (.val (.pointer (some ⟨bx,0,none⟩))))]) (fun _=>[.blk bx 31 p.row]) ?_ ?_)
 ·refine Yh ?_
  refine br_ O (fun hlen=>M_ O (T_ (au_ ?_)))
  have eL:((p.res).map Wrow).length=(p.res).length:=List.length_map _
  refine jc_loopS (ι:=Nat) [] (fun k=>k≤(p.res).length∧((p.res).take k).all nameB=true) (fun k=>[(1,.cell (.val (.pointer (some ⟨bx,0,none⟩)))),(10,.cell (.list ((p.res).map Wrow))),(11,In .i64 (((p.res).map Wrow).length:Int)),(12,In .i64 (k:Int))]) (fun _=>[.blk bx 31 p.row]) (fun k=>(p.res).length - k) 0 ⟨Nat.zero_le _,rfl⟩ ?_ ?_ ?_
  ·exact Wy
  ·exact Ww
  rintro k ⟨hk,hall⟩
  by_cases hlt:k < (p.res).length
  ·have hlt2:(k:Int) < (((p.res).map Wrow).length:Int):=by omega
   refine Zj ?_
   refine ZI ?_
   refine cb_ O O (YX ?_)
   refine bm_ O (namedB_c _) ?_
   refine o_ O (cd_ O (T_ (jc_cond O (fun hn=>?_) (fun hy=>?_))))
   ·have hp:nameB (p.res)[k]=false:=by
     simpa using hn
    have hno:(p.res).all nameB=false:=all_no hlt hp
    have hres:okPg p=false:=by unfold okPg; simp [hno]
    refine Zr ?_
    refine aw_ (jq_ret1 O O [] O (fun K h=>by rw [hres] at h; exact h))
   ·have hp:nameB (p.res)[k]=true:=by
     simpa using hy
    refine as_ (Zx ?_)
    refine jq_againS (k+1) ⟨hlt,all_snoc hlt hall hp⟩ g_ ?_ ?_
    ·exact Wy
    ·exact Ww
  ·have hlt2:¬ (k:Int) < (((p.res).map Wrow).length:Int):=by omega
   refine R_ (o_ O (Zl ?_))
   refine jq_cutS () (by rw [List.take_of_length_le g_] at hall; exact hall) ?_ ?_
   ·exact Wy
   ·exact Ww
 intro _ h1
 refine am_ (jc_cut (ι:=Unit) [] (fun _=>(p.shared).all shB=true) (fun _=>[(1,.cell (.val (.pointer (some ⟨bx,0,none⟩))))]) (fun _=>[.blk bx 31 p.row]) ?_ ?_)
 ·refine Yh ?_
  refine br_ O (fun hlen=>M_ O (T_ (au_ ?_)))
  have eL:((p.shared).map ShRow).length=(p.shared).length:=List.length_map _
  refine jc_loopS (ι:=Nat) [] (fun k=>k≤(p.shared).length∧((p.shared).take k).all shB=true) (fun k=>[(1,.cell (.val (.pointer (some ⟨bx,0,none⟩)))),(21,.cell (.list ((p.shared).map ShRow))),(22,In .i64 (((p.shared).map ShRow).length:Int)),(23,In .i64 (k:Int))]) (fun _=>[.blk bx 31 p.row]) (fun k=>(p.shared).length - k) 0 ⟨Nat.zero_le _,rfl⟩ ?_ ?_ ?_
  ·exact Wy
  ·exact Ww
  rintro k ⟨hk,hall⟩
  by_cases hlt:k < (p.shared).length
  ·have hlt2:(k:Int) < (((p.shared).map ShRow).length:Int):=by omega
   refine Zj ?_
   refine Zm (fun bl=>?_)
   refine R_ (F_ O ?_)
   refine F_ O (L_ 0 O (o_ O (bm_ O (namedB_c _) (o_ O (cd_ O (M_ O (jl_or 6 5 O O O O (nb O) ?_)))))))
   apply Exists.intro
   refine ⟨fun hb1=>?_,?_⟩
   refine ah_ O h_ b_ (bf_ O O O b_ (Za ?_))
   exact bq_ O O b_ O O b_ (ah_ O h_ b_ (bm_ O (plainL_c [(p.shared[k]).2.1]) (ah_ O h_ b_ (cd_ O (ak_ (jq_seg 6 O O O (List.Perm.refl _)))))))
   refine M_ O (jl_or 4 13 O O O O (nb O) ?_)
   apply Exists.intro
   refine ⟨fun hb1=>?_,?_⟩
   refine Za ?_
   exact bm_ O (namedB_c _) (ah_ O h_ b_ (cd_ O (ak_ (jq_seg 4 O O O (List.Perm.refl _)))))
   refine T_ (jc_cond O (fun hn=>?_) (fun hy=>?_))
   ·have hp:shB (p.shared)[k]=false:=by
     unfold shB; cases q1:nameB (p.shared[k]).1 <;> cases q2:plainB (p.shared[k]).2.1 <;> cases q3:nameB (p.shared[k]).2.2 <;> simp_all
    have hno:(p.shared).all shB=false:=all_no hlt hp
    have hres:okPg p=false:=by unfold okPg; simp [hno]
    refine Zr ?_
    refine aw_ (jq_ret1 O O [] O (fun K h=>by rw [hres] at h; exact h))
   ·have hp:shB (p.shared)[k]=true:=by
     unfold shB; cases q1:nameB (p.shared[k]).1 <;> cases q2:plainB (p.shared[k]).2.1 <;> cases q3:nameB (p.shared[k]).2.2 <;> simp_all
    refine as_ (Zx ?_)
    refine jq_againS (k+1) ⟨hlt,all_snoc hlt hall hp⟩ g_ ?_ ?_
    ·exact WE
    ·exact Ww
  ·have hlt2:¬ (k:Int) < (((p.shared).map ShRow).length:Int):=by omega
   refine R_ (o_ O (Zl ?_))
   refine jq_cutS () (by rw [List.take_of_length_le g_] at hall; exact hall) ?_ ?_
   ·exact Wy
   ·exact Ww
 intro _ h2
 refine am_ (jc_cut (ι:=Unit) [] (fun _=>(p.tasks).all okTk=true) (fun _=>[(1,.cell (.val (.pointer (some ⟨bx,0,none⟩))))]) (fun _=>[.blk bx 31 p.row]) ?_ ?_)
 ·refine Yh ?_
  refine br_ O (fun hlen=>M_ O (T_ (au_ ?_)))
  have eL:((p.tasks).map Tk.row).length=(p.tasks).length:=List.length_map _
  refine jc_loopS (ι:=Nat) [] (fun k=>k≤(p.tasks).length∧((p.tasks).take k).all okTk=true) (fun k=>[(1,.cell (.val (.pointer (some ⟨bx,0,none⟩)))),(48,.cell (.list ((p.tasks).map Tk.row))),(49,In .i64 (((p.tasks).map Tk.row).length:Int)),(50,In .i64 (k:Int))]) (fun _=>[.blk bx 31 p.row]) (fun k=>(p.tasks).length - k) 0 ⟨Nat.zero_le _,rfl⟩ ?_ ?_ ?_
  ·exact Wy
  ·exact Ww
  rintro k ⟨hk,hall⟩
  by_cases hlt:k < (p.tasks).length
  ·have hlt2:(k:Int) < (((p.tasks).map Tk.row).length:Int):=by omega
   have hF:=formed_c 20 (p.tasks[k]).body (by omega) (hls _ (List.getElem_mem hlt))
   refine Zj ?_
   refine Zm (fun bl=>?_)
   refine R_ (A_ 0 O ?_)
   refine o_ O (bm_ O (declared_c _) (o_ O (cd_ O (M_ O (jl_or 4 3 O O O O (nb O) ?_)))))
   apply Exists.intro
   refine ⟨fun hb1=>?_,?_⟩
   refine Za ?_
   exact bm_ O (hF) (ah_ O h_ b_ (cd_ O (ak_ (jq_seg 4 O O O (List.Perm.refl _)))))
   refine T_ (jc_cond O (fun hn=>?_) (fun hy=>?_))
   ·have hp:okTk (p.tasks)[k]=false:=by
     rw [okTk_decl]; cases q1:declB (p.tasks[k]) <;> cases q2:okSs 20 (p.tasks[k]).body <;> simp_all
    have hno:(p.tasks).all okTk=false:=all_no hlt hp
    have hres:okPg p=false:=by unfold okPg; simp [hno]
    refine Zr ?_
    refine aw_ (jq_ret1 O O [] O (fun K h=>by rw [hres] at h; exact h))
   ·have hp:okTk (p.tasks)[k]=true:=by
     rw [okTk_decl]; cases q1:declB (p.tasks[k]) <;> cases q2:okSs 20 (p.tasks[k]).body <;> simp_all
    refine as_ (Zx ?_)
    refine jq_againS (k+1) ⟨hlt,all_snoc hlt hall hp⟩ g_ ?_ ?_
    ·exact WE
    ·exact Ww
  ·have hlt2:¬ (k:Int) < (((p.tasks).map Tk.row).length:Int):=by omega
   refine R_ (o_ O (Zl ?_))
   refine jq_cutS () (by rw [List.take_of_length_le g_] at hall; exact hall) ?_ ?_
   ·exact Wy
   ·exact Ww
 intro _ h3
 have hres:okPg p=true:=by unfold okPg; rw [h1,h2,h3]; rfl
 refine R_ (E_ O (T_ (ar_ (jq_ret1 O O [] O (fun K h=>by rw [hres] at h; exact h)))))
end Go.Proofs.YtalkkcfojplmdaaGreatDoor
end
section
namespace Go.Proofs.YtalkkcfojplmdaaGreatDoor
open Go.Vc
attribute [local irreducible] JL JC JQ OpWp Con ConN HOk
attribute [local irreducible] nameB plainB smallB shpF okSs rightB
set_option maxHeartbeats 4000000
def mxS (f:Sm→Nat) (l:List Sm):Nat:=l.foldl (fun m s=>max m (f s)) 0
theorem mxS_snoc (f:Sm→Nat) (l:List Sm) (s:Sm):mxS f (l ++ [s])=max (mxS f l) (f s):=by simp [mxS]
theorem mxS_take {f:Sm→Nat} {l:List Sm} {k:Nat} (h:k < l.length):mxS f (l.take (k+1))=max (mxS f (l.take k)) (f l[k]):=by
 rw [List.take_succ_eq_append_getElem h,mxS_snoc]
theorem mxS_lt {f:Sm→Nat} {n:Nat}:∀ {l:List Sm},n < mxS f l ↔ ∃ s ∈ l,n < f s:=by
 intro l
 unfold mxS
 have:∀ (l:List Sm) (m:Nat),n < l.foldl (fun m s=>max m (f s)) m ↔ n < m ∨ ∃ s ∈ l,n < f s:=by
  intro l
  induction l with
  | nil=>intro m; simp
  | cons a l ih =>
   intro m
   rw [List.foldl_cons,ih]
   constructor
   ·rintro (h | ⟨s,hs,h⟩)
    ·by_cases h1:n < m
     ·exact .inl h1
     ·exact .inr ⟨a,by simp,by omega⟩
    ·exact .inr ⟨s,by simp [hs],h⟩
   ·rintro (h | ⟨s,hs,h⟩)
    ·exact .inl g_
    ·rcases List.mem_cons.1 hs with rfl | hs
     ·exact .inl g_
     ·exact .inr ⟨s,hs,h⟩
 rw [this]
 simp
def tdOne (rec:List Sm→Nat) (s:Sm):Nat:=1+max (rec s.thn) (rec s.els)
def tdS:Nat→List Sm→Nat
 | 0,l=>mxS (fun _=>1) l
 | L+1,l=>mxS (tdOne (tdS L)) l
theorem tdS_le:∀ (L:Nat) (l:List Sm),tdS L l≤L+1
 | 0,l=>by
  have h:¬ 1 < tdS 0 l:=by unfold tdS; rw [mxS_lt]; simp
  omega
 | L+1,l=>by
  have h:¬ L+2 < tdS (L+1) l:=by
   unfold tdS
   rw [mxS_lt]
   rintro ⟨s,_,h⟩
   unfold tdOne at h
   have:=tdS_le L s.thn
   have:=tdS_le L s.els
   omega
  omega
def DeepP (L:Nat):Prop:=∀ l:List Sm,Con Tryz.prog 137 [.cell (.list (l.map Sm.row)),In .i64 (L:Int)] [] (fun K=>K (In .i64 (tdS L l:Int)) [])
theorem deep_zero:DeepP 0:=by
 intro l
 have eL:(l.map Sm.row).length=l.length:=List.length_map _
 refine con_intro Tryz.func137 O O b_ (fun c hc=>R_ (E_ O (T_ (ZV ?_))))
 refine br_ O (fun hlen=>M_ O (T_ (au_ ?_)))
 refine jc_loopS (ι:=Nat) [] (fun k=>k≤l.length) (fun k=>[(1,In .i64 ((0:Nat):Int)),(5,In .i64 (mxS (fun _=>1) (l.take k):Int)),(9,.cell (.list (l.map Sm.row))),(10,In .i64 ((l.map Sm.row).length:Int)),(11,In .i64 (k:Int))]) (fun _=>[]) (fun k=>l.length - k) 0 (Nat.zero_le _) ?_ ?_ ?_
 ·exact sub_end
 ·exact Ww
 intro k hk
 by_cases hlt:k < l.length
 ·have hlt2:(k:Int) < ((l.map Sm.row).length:Int):=by omega
  refine Zj ?_
  refine Zq ?_
  refine Yt (fun bl=>?_)
  refine R_ (E_ O ?_)
  refine T_ (Wp ?_)
  refine T_ (ap_ O O (as_ (al_ (an_ (M_ O (M_ O (o_ O (ck_ O O (E_ O (ak_ (ay_ ?_)))))))))))
  refine al_ (an_ (Wr ?_))
  refine ak_ (jq_againS (k+1) hlt g_ ?_ ?_)
  ·exact sub_end
  ·rw [mxS_take hlt,show ((max (mxS (fun _=>1) (l.take k)) 1:Nat):Int)=max (mxS (fun _=>1) (l.take k):Int) 1 by omega]
   exact Ww
 ·have hlt2:¬ (k:Int) < ((l.map Sm.row).length:Int):=by omega
  rw [List.take_of_length_le (show l.length≤k by omega)]
  refine R_ (o_ O (Zl ?_))
  refine al_ (R_ (M_ O (E_ O (T_ (ar_ (jq_ret1 O O [] O (fun K h=>h)))))))
theorem deep_succ (L:Nat) (hL:L≤1000) (ih:DeepP L):DeepP (L+1):=by
 intro l
 have eL:(l.map Sm.row).length=l.length:=List.length_map _
 have hp:(0:Int) < ((L+1:Nat):Int):=by omega
 have hI:∀ m:List Sm,Con Tryz.prog 137 [.cell (.list (m.map Sm.row)),In .i64 (((L+1:Nat):Int) - 1)] [] (fun K=>K (In .i64 (tdS L m:Int)) []):=by
  rw [show (((L+1:Nat):Int) - 1)=(L:Int) by omega]
  exact ih
 have hd:((L+1:Nat):Int)≤1001:=by omega
 have e0:tdS (L+1) l=mxS (tdOne (tdS L)) l:=rfl
 rw [e0]
 generalize ((L+1:Nat):Int)=d at hp hI hd ⊢
 refine con_intro Tryz.func137 O O b_ (fun c hc=>R_ (E_ O (T_ (ZV ?_))))
 refine br_ O (fun hlen=>M_ O (T_ (au_ ?_)))
 refine jc_loopS (ι:=Nat) [] (fun k=>k≤l.length) (fun k=>[(1,In .i64 d),(5,In .i64 (mxS (tdOne (tdS L)) (l.take k):Int)),(9,.cell (.list (l.map Sm.row))),(10,In .i64 ((l.map Sm.row).length:Int)),(11,In .i64 (k:Int))]) (fun _=>[]) (fun k=>l.length - k) 0 (Nat.zero_le _) ?_ ?_ ?_
 ·exact sub_end
 ·exact Ww
 intro k hk
 by_cases hlt:k < l.length
 ·have hlt2:(k:Int) < ((l.map Sm.row).length:Int):=by omega
  have t1:=tdS_le L l[k].thn
  have t2:=tdS_le L l[k].els
  refine Zj ?_
  refine Zq ?_
  refine Yt (fun bl=>?_)
  refine R_ (E_ O ?_)
  refine T_ (Wp ?_)
  refine T_ (aq_ O u_ (ao_ O O k_ k_ (yM_ O (yF_ O (yL_ 0 O (yM_ O (aa_ (fun c=>cg_ O O g_ p_) (aa_ (fun c=>bm_ O (hI _) p_) (yF_ O (yL_ 0 O ?_))))))))))
  refine yM_ O (aa_ (fun c=>cg_ O O g_ p_) (aa_ (fun c=>bm_ O (hI _) p_) (aa_ (fun c=>ck_ O O p_) (aa_ (fun c=>bj_ O O g_ p_) (yE_ O (ae_ (al_ (an_ (M_ O (M_ O (o_ O (ck_ O O (E_ O (ak_ (ay_ (al_ ?_))))))))))))))))
  refine an_ (Wr ?_)
  refine ak_ (jq_againS (k+1) hlt g_ ?_ ?_)
  ·exact sub_end
  ·rw [mxS_take hlt,show ((max (mxS (tdOne (tdS L)) (l.take k)) (tdOne (tdS L) l[k]):Nat):Int)=max (mxS (tdOne (tdS L)) (l.take k):Int) (1+max (tdS L l[k].thn:Int) (tdS L l[k].els:Int)) by unfold tdOne; omega]
   exact Ww
 ·have hlt2:¬ (k:Int) < ((l.map Sm.row).length:Int):=by omega
  rw [List.take_of_length_le (show l.length≤k by omega)]
  refine R_ (o_ O (Zl ?_))
  refine al_ (R_ (M_ O (E_ O (T_ (ar_ (jq_ret1 O O [] O (fun K h=>h)))))))
theorem deepS_c:∀ L:Nat,L≤1000→DeepP L
 | 0,_=>deep_zero
 | L+1,h=>deep_succ L (by omega) (deepS_c L (by omega))
def dd:Nat→List Sm→Bool
 | 0,l=>!l.isEmpty
 | n+1,l=>l.any (fun s=>dd n s.thn || dd n s.els)
theorem tdS_dd:∀ (n:Nat) (l:List Sm),n < tdS n l ↔ dd n l=true
 | 0,l=>by
  unfold tdS dd
  rw [mxS_lt]
  cases l <;> simp
 | n+1,l=>by
  unfold tdS dd
  rw [mxS_lt,List.any_eq_true]
  constructor
  ·rintro ⟨s,hs,h⟩
   refine ⟨s,hs,?_⟩
   unfold tdOne at h
   rw [Bool.or_eq_true,← tdS_dd n,← tdS_dd n]
   omega
  ·rintro ⟨s,hs,h⟩
   refine ⟨s,hs,?_⟩
   rw [Bool.or_eq_true,← tdS_dd n,← tdS_dd n] at h
   unfold tdOne
   omega
def exOne (rec:List Sm→Bool) (s:Sm):Bool:=(s.index.any dpx || s.value.any dpx) || rec s.thn || rec s.els
def exS:Nat→List Sm→Bool
 | 0,_=>false
 | n+1,l=>l.any (exOne (exS n))
theorem dpF_split:∀ (n:Nat) (l:List Sm),dpF n l=(dd n l || exS n l)
 | 0,l=>by simp [dpF,dd,exS]
 | n+1,l=>by
  have h1:∀ s:Sm,dpS (dpF n) s=((dd n s.thn || dd n s.els) || exOne (exS n) s):=by
   intro s
   unfold dpS exOne
   rw [dpF_split n,dpF_split n]
   cases dd n s.thn <;> cases dd n s.els <;> cases exS n s.thn <;> cases exS n s.els <;> simp
  rw [Bool.eq_iff_iff]
  unfold dpF dd exS
  simp only [Bool.or_eq_true,List.any_eq_true,h1]
  constructor
  ·rintro ⟨s,hs,h | h⟩
   ·exact .inl ⟨s,hs,h⟩
   ·exact .inr ⟨s,hs,h⟩
  ·rintro (⟨s,hs,h⟩ | ⟨s,hs,h⟩)
   ·exact ⟨s,hs,.inl h⟩
   ·exact ⟨s,hs,.inr h⟩
theorem lsS_mono:∀ {n m:Nat} {l:List Sm},n≤m→lsS m l→lsS n l
 | 0,_,_,_,_=>trivial
 | n+1,0,_,h,_=>by omega
 | n+1,m+1,l,h,hl=>fun s hs=>by
  obtain ⟨h1,h2,h3,h4⟩:=hl s hs
  exact ⟨h1,h2,lsS_mono g_ h3,lsS_mono g_ h4⟩
theorem any_app {α:Type} (p:α→Bool) (l m:List α):(l ++ m).any p=(l.any p || m.any p):=List.any_append
theorem deep1_c (s:Sm) (hI:s.index.length≤1000) (hV:s.value.length≤1000):Con Tryz.prog 138 [.row s.row'] [] (fun K=>K (Bl (!(s.index.any dpx || s.value.any dpx))) []):=by
 have hE:=exprs_c s hI hV
 rw [← any_app]
 generalize s.index ++ s.value=E at hE ⊢
 have eE:(E.map T.row).length=E.length:=List.length_map _
 refine con_intro Tryz.func138 O O b_ (fun c hc=>ZD (fun bx=>?_))
 refine A_ 0 O (o_ O (bm_ O (hE) (o_ O (br_ O (fun hlen=>M_ O (T_ (au_ ?_)))))))
 refine jc_loopS (ι:=Nat) [] (fun k=>k≤E.length∧(E.take k).any dpx=false) (fun k=>[(6,.cell (.list (E.map T.row))),(7,In .i64 ((E.map T.row).length:Int)),(8,In .i64 (k:Int))]) (fun _=>[]) (fun k=>E.length - k) 0 ⟨Nat.zero_le _,rfl⟩ ?_ ?_ ?_
 ·exact sub_end
 ·exact Ww
 rintro k ⟨hk,hall⟩
 by_cases hlt:k < E.length
 ·have hlt2:(k:Int) < ((E.map T.row).length:Int):=by omega
  have hD:=Depth_c 8 E[k] (by omega)
  have hdl:=dl_eq 8 E[k]
  by_cases hd:8 < E[k].dep
  ·have hd2:(8:Int) < (dl 8 E[k]:Int):=by omega
   have hres:E.any dpx=true:=any_yes hlt (by unfold dpx; exact decide_eq_true hd)
   refine Zj ?_
   refine Zy ?_
   refine Yt (fun bl=>?_)
   refine R_ (A_ 0 O ?_)
   refine o_ O (bm_ O (hD) (o_ O (bz_ O O (T_ (aq_ O u_ (Zr ?_))))))
   refine aw_ (jq_ret1 O O [] O (fun K h=>by rw [hres] at h; exact h))
  ·have hd2:¬ (8:Int) < (dl 8 E[k]:Int):=by omega
   refine Zj ?_
   refine Zy ?_
   refine Yt (fun bl=>?_)
   refine R_ (A_ 0 O ?_)
   refine o_ O (bm_ O (hD) (Ws ?_))
   refine Zx ?_
   refine jq_againS (k+1) ⟨hlt,any_snoc hlt hall (by unfold dpx; exact decide_eq_false hd)⟩ g_ ?_ ?_
   ·exact sub_end
   ·exact Ww
 ·have hlt2:¬ (k:Int) < ((E.map T.row).length:Int):=by omega
  rw [List.take_of_length_le (by omega)] at hall
  refine R_ (o_ O (Zl ?_))
  refine al_ (R_ (E_ O (T_ (ar_ (jq_ret1 O O [] O (fun K h=>by rw [hall] at h; exact h))))))
abbrev Fn1:S:=.cell (.val (.func (.func 138) #[] #[]))
def EachP (n:Nat):Prop:=∀ l:List Sm,dd n l=false→lsS n l→Con Tryz.prog 99 [.cell (.list (l.map Sm.row)),Fn1] [] (fun K=>K (Bl (!exS n l)) [])
theorem each_step (n : Nat) (hrec : ∀ n', n = n' + 1 → EachP n') : EachP n := by
  intro l hdd hls
  have eL : (l.map Sm.row).length = l.length := List.length_map _
  refine con_intro Tryz.func99 O O b_ (fun c hc => ZV ?_)
  refine br_ O (fun hlen => M_ O (T_ (au_ ?_)))
  refine jc_loopS (ι := Nat) [] (fun k => k ≤ l.length ∧ ∀ n', n = n' + 1 → (l.take k).any (exOne (exS n')) = false) (fun k => [(1, Fn1), (7, .cell (.list (l.map Sm.row))), (8, In .i64 ((l.map Sm.row).length : Int)), (9, In .i64 (k : Int))]) (fun _ => []) (fun k => l.length - k) 0 ⟨Nat.zero_le _, fun _ _ => rfl⟩ ?_ ?_ ?_
  · exact sub_end
  · exact Ww
  rintro k ⟨hk, hall⟩
  by_cases hlt : k < l.length
  · have hlt2 : (k : Int) < ((l.map Sm.row).length : Int) := by omega
    obtain ⟨n', rfl⟩ : ∃ n', n = n' + 1 := by
      cases n with
      | zero =>
        cases l with
        | nil => simp at hlt
        | cons a l => cases hdd
      | succ n => exact ⟨n, rfl⟩
    have hall := hall n' rfl
    obtain ⟨q1, q2, q3, q4⟩ := hls _ (List.getElem_mem hlt)
    have hds : dd n' l[k].thn = false ∧ dd n' l[k].els = false := by
      have h1 := List.any_eq_false.1 hdd l[k] (List.getElem_mem hlt)
      simpa using h1
    have i1 := hrec n' rfl _ hds.1 q3
    have i2 := hrec n' rfl _ hds.2 q4
    have hF := deep1_c _ q1 q2
    have eo : exOne (exS n') l[k] = ((l[k].index.any dpx || l[k].value.any dpx) || exS n' l[k].thn || exS n' l[k].els) := rfl
    refine Zj ?_
    refine Zq ?_
    refine Yt (fun bl => ?_)
    refine R_ (M_ O ?_)
    refine A_ 0 O (o_ O (ow_callv0 O O (hF) (o_ O (cd_ O (M_ O (jl_or 5 4 O O O O (nb O) ?_))))))
    apply Exists.intro
    refine ⟨fun hb1 => ?_, ?_⟩
    refine Za ?_
    exact bd_ O (ah_ O h_ b_ (bm_ O (i1) (ah_ O h_ b_ (cd_ O (ak_ (jq_seg 5 O O O (List.Perm.refl _)))))))
    refine M_ O (jl_or 5 11 O O O O (nb O) ?_)
    apply Exists.intro
    refine ⟨fun hb1 => ?_, ?_⟩
    refine Za ?_
    exact bd_ O (ah_ O h_ b_ (bm_ O (i2) (ah_ O h_ b_ (cd_ O (ak_ (jq_seg 5 O O O (List.Perm.refl _)))))))
    refine T_ (jc_cond O (fun hn => ?_) (fun hy => ?_))
    · have hp : exOne (exS n') l[k] = true := by
        rw [eo]
        cases h1 : (l[k].index.any dpx || l[k].value.any dpx) <;> cases h2 : exS n' l[k].thn <;> cases h3 : exS n' l[k].els <;> simp_all
      have hres : exS (n' + 1) l = true := any_yes hlt hp
      refine Zr ?_
      refine aw_ (jq_ret1 O O [] O (fun K h => by rw [hres] at h; exact h))
    · have hp : exOne (exS n') l[k] = false := by
        rw [eo]
        cases h1 : (l[k].index.any dpx || l[k].value.any dpx) <;> cases h2 : exS n' l[k].thn <;> cases h3 : exS n' l[k].els <;> simp_all
      refine as_ (Zx ?_)
      refine jq_againS (k + 1) ⟨hlt, fun n2 e2 => by obtain rfl : n' = n2 := by omega
                                                     exact any_snoc hlt hall hp⟩ (by omega) ?_ ?_
      · exact sub_end
      · exact Ww
  · have hlt2 : ¬ (k : Int) < ((l.map Sm.row).length : Int) := by omega
    have hres : exS n l = false := by
      cases n with
      | zero => rfl
      | succ n =>
        have := hall n rfl
        rw [List.take_of_length_le (by omega)] at this
        exact this
    refine R_ (o_ O (Zl ?_))
    refine al_ (R_ (E_ O (T_ (ar_ (jq_ret1 O O [] O (fun K h => by rw [hres] at h; exact h))))))
theorem each_c : ∀ n : Nat, EachP n
  | 0 => each_step 0 (fun n' h => by omega)
  | n + 1 => each_step (n + 1) (fun n' h => by obtain rfl : n = n' := by omega
                                               exact each_c n)
theorem pdeep_c (l:List Sm) (hl:lsS 20 l):Con Tryz.prog 85 [.cell (.list (l.map Sm.row))] [] (fun K=>K (Bl (dpF 8 l)) []):=by
 have hD:=deepS_c 8 (by omega) l
 have hs:=tdS_dd 8 l
 have e:=dpF_split 8 l
 refine con_intro Tryz.func85 O O b_ (fun c hc=>?_)
 cases hdd:dd 8 l with
 | true =>
  have h8:(8:Int) < (tdS 8 l:Int):=by have:=hs.2 hdd; omega
  have hres:dpF 8 l=true:=by rw [e,hdd]; rfl
  refine ZV ?_
  refine bm_ O (hD) (o_ O (bz_ O O (T_ (aq_ O u_ (R_ (E_ O (T_ (ar_ (aw_ (jq_ret1 O O [] O (fun K h=>by rw [hres] at h; exact h)))))))))))
 | false =>
  have h8:¬ (8:Int) < (tdS 8 l:Int):=by
   intro h
   have:=hs.1 (by omega)
   rw [hdd] at this
   cases this
  have hres:dpF 8 l=exS 8 l:=by rw [e,hdd]; rfl
  have hE:=each_c 8 l hdd (lsS_mono (by omega) hl)
  refine ZV ?_
  refine bm_ O (hD) (Ws ?_)
  refine al_ (R_ (M_ O (o_ O (bm_ O (hE) (o_ O (cd_ O ?_))))))
  refine E_ O (T_ (ar_ (jq_ret1 O O [] O (fun K h=>by rw [hres,← Bool.not_not (exS 8 l)] at h; exact h))))
end Go.Proofs.YtalkkcfojplmdaaGreatDoor
end
section
namespace Go.Proofs.YtalkkcfojplmdaaGreatDoor
open Go.Vc
attribute [local irreducible] JL JC JQ OpWp Con ConN HOk
attribute [local irreducible] byteAt runLen isL isD isName hasW rd fineS numS textT hdT stsT stT
set_option maxHeartbeats 4000000
abbrev Wb (b:Nat) (v:Value):Ch:=Wblk b (some ⟨b,0,none⟩) v
abbrev KeqP:ByteArray:=⟨#[61]⟩
theorem num_c (n:Int) (h:-2147483647≤n∧n≤2147483647):Con Tryz.prog 87 [In .i64 n] [] (fun K=>K (Str (numS n)) []):=by
 have hI:=itoa_c n h.1 h.2
 refine con_intro Tryz.func87 O O b_ (fun c hc=>R_ (E_ O (T_ (R_ (M_ O (o_ O (bm_ O (hI) (E_ O (T_ (ar_ (jq_ret1 O O [] O (fun K h=>h))))))))))))
theorem numF_c {n:Int} (h:Pl n):Con Tryz.prog 87 [In .i64 n] [] (fun K=>K (Str (numS n)) []):=num_c n ⟨by have:=h.1; omega,h.2⟩
theorem ptextF_c {t:T} (h:Fx t):Con Tryz.prog 193 [.row t.row'] [] (fun K=>K (Str (textT t)) []):=expr_c t h.1 (text_small h.1 h.2)
theorem ln1 {s:Sm} {x:T} (q:Nat) (hk:s.kind=1) (hv:s.value=[x]):lnT q [s.name,KeqP,textT x]=spN q ++ hdT s:=by
 rw [hdT1 hk hv]
 simp only [lnT,joinB]
 apply ByteArray.ext
 apply Array.ext'
 simp
theorem ln2 {s:Sm} {x y:T} (q:Nat) (hk:s.kind=2) (hi:s.index=[y]) (hv:s.value=[x]):lnT q [((s.name ++ Kx1) ++ textT y) ++ (⟨#[93]⟩:ByteArray),KeqP,textT x]=spN q ++ hdT s:=by
 rw [hdT2 hk hi hv]
 simp only [lnT,joinB]
 apply ByteArray.ext
 apply Array.ext'
 simp
theorem ln3 {s:Sm} {x:T} (q:Nat) (hk:s.kind=3) (hv:s.value=[x]):lnT q [⟨#[105,102]⟩,textT x,⟨#[108,97,98,101,108]⟩,numS s.label,⟨#[123]⟩]=spN q ++ hdT s:=by
 rw [hdT3 hk hv]
 simp only [lnT,joinB]
 apply ByteArray.ext
 apply Array.ext'
 simp
theorem ln4 {s:Sm} {x:T} (q:Nat) (hk:s.kind=4) (hv:s.value=[x]):lnT q [⟨#[119,104,105,108,101]⟩,textT x,⟨#[109,97,120]⟩,numS s.max,⟨#[108,97,98,101,108]⟩,numS s.label,⟨#[123]⟩]=spN q ++ hdT s:=by
 rw [hdT4 hk hv]
 simp only [lnT,joinB]
 apply ByteArray.ext
 apply Array.ext'
 simp
theorem ln5 {s:Sm} (q:Nat) (hk:s.kind=5):lnT q [⟨#[108,111,99,107]⟩,s.name,⟨#[123]⟩]=spN q ++ hdT s:=by
 rw [hdT5 hk]
 simp only [lnT,joinB]
 apply ByteArray.ext
 apply Array.ext'
 simp
theorem lnElse (q:Nat):lnT q [⟨#[125]⟩,⟨#[101,108,115,101]⟩,⟨#[123]⟩]=spN q ++ Kelse2:=by
 simp only [lnT,joinB]
 apply ByteArray.ext
 apply Array.ext'
 simp
theorem lnClose (q:Nat):lnT q [⟨#[125]⟩]=spN q ++ Kclose:=by
 simp only [lnT,joinB]
 apply ByteArray.ext
 apply Array.ext'
 simp
theorem lineT_c {b:Nat} {v:Value} {X:ByteArray} {q:Nat} {L:List ByteArray} {Y:ByteArray} (hY:lnT q L=spN q ++ Y) (hq:q≤1000) (hL:L≠[]) (hl:L.length≤1000) (hs:Y.size≤1000000) (hX:X.size≤140000000000000) :
 Con Tryz.prog 86 [Wptr b,In .i64 (q:Int),.cell (.list (L.map Wrow))] [Wb b v,Bw v X]
  (fun K=>∀ v':Value,True→K (.tup []) [Wb b v',Bw v' ((X ++ spN q) ++ Y)]):=by
 have h1:(lnT q L).size=(spN q).size+(joinB L).size+1:=by unfold lnT; rw [ByteArray.size_append,ByteArray.size_append]; rfl
 rw [hY,ByteArray.size_append] at h1
 have:=line_c b v (some ⟨b,0,none⟩) X q L (.inr rfl) hq hL hl (by omega) hX
 rw [hY,← ByteArray.append_assoc] at this
 exact this
def WBody (b:Nat) (n:Nat):Prop:=∀ (l:List Sm) (q:Nat) (X:ByteArray) (v:Value),(∀ s ∈ l,fineS n s)→q+n≤50→X.size+60000 * Sm.szs l≤100000000000000 →
 Con Tryz.prog 145 [Wptr b,.cell (.list (l.map Sm.row)),In .i64 (q:Int)] [Wb b v,Bw v X] (fun K=>∀ v':Value,True→K (.tup []) [Wb b v',Bw v' (X ++ stsT (spN q) l)])
theorem wbody_step (b:Nat) (n:Nat) (hrec:∀ n',n=n'+1→WBody b n'):WBody b n:=by
 intro l q X v0 hfine hsp hX
 have eL:(l.map Sm.row).length=l.length:=List.length_map _
 have hq2:=spN_size q
 refine con_intro Tryz.func145 O O b_ (fun c hc=>R_ (M_ O (o_ O (br_ O (fun hlen=>M_ O (T_ (au_ ?_)))))))
 refine jc_loopS (ι:=Nat × Value) [] (fun i=>i.1≤l.length) (fun i=>[(0,Wptr b),(2,In .i64 (q:Int)),(8,.cell (.list (l.map Sm.row))),(9,In .i64 ((l.map Sm.row).length:Int)),(10,In .i64 (i.1:Int))]) (fun i=>[Wb b i.2,Bw i.2 (X ++ stsT (spN q) (l.take i.1))]) (fun i=>l.length - i.1) (0,v0) (Nat.zero_le _) ?_ ?_ ?_
 ·rw [show X ++ stsT (spN q) (l.take 0)=X by rw [List.take_zero,stsT,ba_nil]]
  exact Wx
 ·exact Ww
 rintro ⟨k,v⟩ hk
 dsimp only at hk ⊢
 by_cases hlt:k < l.length
 ·have hlt2:(k:Int) < ((l.map Sm.row).length:Int):=by omega
  have hfk:=hfine l[k] (List.getElem_mem hlt)
  have hszk:=szs_take_succ hlt
  have hs0:=sts_size (sp:=spN q) (l:=l.take k) (fun s hs=>hfine s (List.mem_of_mem_take hs)) (by omega)
  have hsk:=st_size n (spN q) l[k] hfk (by omega)
  have hYs:(X ++ stsT (spN q) (l.take k)).size+60000 * l[k].sz≤100000000000000:=by rw [ByteArray.size_append]; omega
  have hnext:X ++ stsT (spN q) (l.take (k+1))=(X ++ stsT (spN q) (l.take k)) ++ stT (spN q) l[k]:=by rw [stsT_take (spN q) hlt,ByteArray.append_assoc]
  generalize X ++ stsT (spN q) (l.take k)=Y at hYs hnext ⊢
  have hz1:1≤l[k].sz:=by rw [Sm.sz_eq]; omega
  refine Zj ?_
  refine Zq ?_
  refine Yt (fun bl=>?_)
  refine am_ ?_
  obtain ⟨s,hs⟩:∃ s,s=l[k]:=⟨_,rfl⟩
  rw [← hs] at hfk hsk hYs hnext hz1 ⊢
  have hhd:=hd_size hfk
  have hY2:(Y ++ spN q).size=Y.size+(spN q).size:=ByteArray.size_append ..
  obtain ⟨n',rfl⟩:∃ n',n=n'+1:=by
   cases n with
   | zero=>exact absurd hfk (by unfold fineS; exact id)
   | succ n=>exact ⟨n,rfl⟩
  have hrec:=hrec n' rfl
  unfold fineS at hfk
  refine jc_cut (ι:=Value) [] (fun _=>3≤s.kind) (fun v=>[(0,Wptr b),(2,In .i64 (q:Int)),(8,.cell (.list (l.map Sm.row))),(9,In .i64 ((l.map Sm.row).length:Int)),(10,In .i64 (k:Int)),(7,.cell (.val (.pointer (some ⟨bl,0,none⟩))))]) (fun v=>[Wb b v,Bw v ((Y ++ spN q) ++ hdT s),.blk bl 66 s.row']) ?_ ?_
  ·rcases hfk with ⟨hk1,hn,x,hv,fx⟩ | ⟨hk1,hn,y,x,hi,hv,fy,fx⟩ | ⟨hk1,⟨x,hv,fx⟩,hl,_⟩ | ⟨hk1,⟨x,hv,fx⟩,hm,hl,_⟩ | ⟨hk1,hn,_⟩
   ·have hln:=lineT_c (b:=b) (v:=v) (X:=Y) (ln1 q hk1 hv) (by omega) (by simp) (by simp) (by omega) (by omega)
    rw [row1 hv]
    have e1:[x].length=1:=rfl
    have ht:=ptextF_c fx
    refine YB ?_
    refine Zu ?_
    refine aq_ O u_ (am_ (jc_anyB 10 none O k_ k_ (yM_ O (yM_ O (yF_ O (yL_ 0 O ?_))))))
    refine yF_ O (yL_ 0 O (ZA ?_))
    refine aa_ (fun c=>bm_ O (ht) p_) (Z7 ?_)
    refine o_ O (bt_ [1,1] O O (hln) (fun pp hpp=>T_ (av_ (bb_ O (ax_ (ba_ (al_ (an_ ?_))))))))
    refine Wr ?_
    refine ak_ (jq_againS (i:=(k,v)) (k+1,pp) hlt (by dsimp only; omega) ?_ ?_)
    ·dsimp only
     rw [hnext,stT_leaf (spN q) (.inl hk1),← ByteArray.append_assoc]
     exact Wx
    ·exact Ww
   ·have hln:=lineT_c (b:=b) (v:=v) (X:=Y) (ln2 q hk1 hi hv) (by omega) (by simp) (by simp) (by omega) (by omega)
    have hxs:=fx.size
    have hys:=fy.size
    have hns:=name_size hn
    rw [row2 hi hv]
    have e1:[x].length=1:=rfl
    have e2:[y].length=1:=rfl
    have ht:=ptextF_c fx
    have ht2:=ptextF_c fy
    refine YB ?_
    refine Zu ?_
    refine ap_ O v_ (Zu ?_)
    refine aq_ O u_ (am_ ?_)
    refine jc_anyB 18 none O k_ k_ (yM_ O (yM_ O (yF_ O (yL_ 0 O (aa_ (fun c=>ow_strcat rfl O (by simp only [ba_lit,List.length_cons,List.length_nil];omega) p_) (yF_ O (yL_ 0 O (ZA ?_))))))))
    refine aa_ (fun c=>bm_ O (ht2) p_) ?_
    refine Zf ?_
    refine yF_ O (yL_ 0 O (ZA ?_))
    refine aa_ (fun c=>bm_ O (ht) p_) ?_
    refine Z7 ?_
    refine o_ O (bt_ [1,1] O O (hln) (fun pp hpp=>T_ (av_ (bb_ O (ax_ (ba_ (al_ (an_ (Wr ?_)))))))))
    refine ak_ (jq_againS (i:=(k,v)) (k+1,pp) hlt (by dsimp only; omega) ?_ ?_)
    ·dsimp only
     rw [hnext,stT_leaf (spN q) (.inr hk1),← ByteArray.append_assoc]
     exact Wx
    ·exact Ww
   ·have hln:=lineT_c (b:=b) (v:=v) (X:=Y) (ln3 q hk1 hv) (by omega) (by simp) (by simp) (by omega) (by omega)
    rw [row1 hv]
    have e1:[x].length=1:=rfl
    have ht:=ptextF_c fx
    have hN:=numF_c hl
    refine YB ?_
    refine Zu ?_
    refine ap_ O v_ (Zu ?_)
    refine ap_ O v_ (R_ ?_)
    refine o_ O (bn_ O O (E_ O (T_ (aq_ O u_ (jc_anyB 11 none O k_ k_ (yM_ O (yM_ O (yF_ O (yL_ 0 O (ZA ?_))))))))))
    refine aa_ (fun c=>bm_ O (ht) p_) (yF_ O (yL_ 0 O (aa_ (fun c=>bm_ O (hN) p_) (aa_ (fun c=>bq_ O O b_ O O b_ p_) ?_))))
    refine ae_ (afin_none (o_ O (bt_ [1,1] O O (hln) (fun pp hpp=>ak_ (ay_ ?_)))))
    rw [← row1 hv]
    refine jq_cutS pp g_ ?_ ?_
    ·exact WG
    ·exact Ww
   ·have hln:=lineT_c (b:=b) (v:=v) (X:=Y) (ln4 q hk1 hv) (by omega) (by simp) (by simp) (by omega) (by omega)
    rw [row1 hv]
    have e1:[x].length=1:=rfl
    have ht:=ptextF_c fx
    have hN:=numF_c hl
    have hM:=numF_c hm
    refine YB ?_
    refine Zu ?_
    refine ap_ O v_ (Zu ?_)
    refine ap_ O v_ (R_ ?_)
    refine o_ O (bn_ O O (E_ O (T_ (ap_ O v_ (Zu ?_)))))
    refine aq_ O u_ (jc_anyB 14 none O k_ k_ (yM_ O (yM_ O (yF_ O (yL_ 0 O (ZA ?_))))))
    refine aa_ (fun c=>bm_ O (ht) p_) (yF_ O (yL_ 0 O (aa_ (fun c=>bm_ O (hM) p_) (yF_ O (yL_ 0 O (aa_ (fun c=>bm_ O (hN) p_) (Z7 ?_)))))))
    refine o_ O (bt_ [1,1] O O (hln) (fun pp hpp=>ak_ (ay_ ?_)))
    rw [← row1 hv]
    refine jq_cutS pp g_ ?_ ?_
    ·exact WG
    ·exact Ww
   ·have hln:=lineT_c (b:=b) (v:=v) (X:=Y) (ln5 q hk1) (by omega) (by simp) (by simp) (by omega) (by omega)
    refine YB ?_
    refine Zu ?_
    refine ap_ O v_ (Zu ?_)
    refine ap_ O v_ (R_ ?_)
    refine o_ O (bn_ O O (E_ O (T_ (ap_ O v_ (Zu ?_)))))
    refine ap_ O v_ (Zu ?_)
    refine aq_ O u_ (an_ (M_ O ?_))
    refine M_ O (F_ O (L_ 0 O (YK ?_)))
    refine bt_ [1,1] O O (hln) (fun pp hpp=>ak_ (ay_ (jq_cutS pp g_ ?_ ?_)))
    ·exact WG
    ·exact Ww
  intro v3 hk3
  have hk12:¬ (s.kind=1 ∨ s.kind=2):=by omega
  have hthn:∀ t ∈ s.thn,fineS n' t:=by
   rcases hfk with h | h | h | h | h
   ·exact absurd (.inl h.1) hk12
   ·exact absurd (.inr h.1) hk12
   ·exact h.2.2.2.1
   ·exact h.2.2.2.2.1
   ·exact h.2.2.1
  have hels:∀ t ∈ s.els,fineS n' t:=by
   rcases hfk with h | h | h | h | h
   ·exact absurd (.inl h.1) hk12
   ·exact absurd (.inr h.1) hk12
   ·exact h.2.2.2.2
   ·rw [h.2.2.2.2.2]; simp
   ·rw [h.2.2.2]; simp
  have ez:=Sm.sz_eq s
  have hZ:((Y ++ spN q) ++ hdT s).size=(Y ++ spN q).size+(hdT s).size:=ByteArray.size_append ..
  have e1:stT (spN q) s=(spN q ++ hdT s) ++ stsT (spN (q+1)) s.thn ++ (if s.els=[] then ⟨#[]⟩ else (spN q ++ Kelse2) ++ stsT (spN (q+1)) s.els) ++ (spN q ++ Kclose):=stT_node (spN q) hk12
  have hq3:=spN_size (q+1)
  have hT:=sts_size hthn (sp:=spN (q+1)) (by omega)
  have hE:=sts_size hels (sp:=spN (q+1)) (by omega)
  clear hfk
  generalize hZe:(Y ++ spN q) ++ hdT s=Zt at hZ ⊢
  have con1:=hrec s.thn (q+1) Zt v3 hthn (by omega) (by omega)
  rw [show ((q+1:Nat):Int)=(q:Int)+1 by omega] at con1
  have hZ2:(Zt ++ stsT (spN (q+1)) s.thn).size=Zt.size+(stsT (spN (q+1)) s.thn).size:=ByteArray.size_append ..
  have eE:(s.els.map Sm.row).length=s.els.length:=List.length_map _
  refine R_ (M_ O (F_ O (L_ 2 O (M_ O (o_ O (bj_ O O g_ (o_ O (bt_ [0,0] O O (con1) (fun pp hpp=>T_ (am_ ?_))))))))))
  generalize hZ2e:Zt ++ stsT (spN (q+1)) s.thn=Z2 at hZ2 ⊢
  by_cases hnil:s.els=[]
  ·have hz:¬ (0:Int) < ((s.els.map Sm.row).length:Int):=by rw [hnil]; simp
   have hcl:=fun v=>lineT_c (b:=b) (v:=v) (X:=Z2) (lnClose q) (by omega) (by simp) (by simp) (by show 2≤_; omega) (by omega)
   refine R_ (F_ O (L_ 2 O (o_ O (br_ O (fun hlen=>Ws ?_)))))
   refine al_ (an_ (M_ O (M_ O (YK ?_))))
   refine bt_ [0,0] O O (hcl _) (fun pp hpp=>ak_ (ay_ ?_))
   refine al_ (an_ (Wr ?_))
   refine ak_ (jq_againS (i:=(k,v)) (k+1,pp) hlt (by dsimp only; omega) ?_ ?_)
   ·dsimp only
    rw [hnext,e1,if_pos hnil,ba_nil,← hZ2e,← hZe]
    simp only [ByteArray.append_assoc]
    exact Wx
   ·exact Ww
  ·have hz:(0:Int) < ((s.els.map Sm.row).length:Int):=by
    have:=List.length_pos_iff.2 hnil
    omega
   have hel:=fun v=>lineT_c (b:=b) (v:=v) (X:=Z2) (lnElse q) (by omega) (by simp) (by simp) (by show 9≤_; omega) (by omega)
   have hZ3:((Z2 ++ spN q) ++ Kelse2).size=Z2.size+(spN q).size+9:=by rw [ByteArray.size_append,ByteArray.size_append]; rfl
   have con2:=fun v=>hrec s.els (q+1) ((Z2 ++ spN q) ++ Kelse2) v hels (by omega) (by omega)
   rw [show ((q+1:Nat):Int)=(q:Int)+1 by omega] at con2
   have hZ4:(((Z2 ++ spN q) ++ Kelse2) ++ stsT (spN (q+1)) s.els).size=((Z2 ++ spN q) ++ Kelse2).size+(stsT (spN (q+1)) s.els).size:=ByteArray.size_append ..
   have hcl:=fun v=>lineT_c (b:=b) (v:=v) (X:=((Z2 ++ spN q) ++ Kelse2) ++ stsT (spN (q+1)) s.els) (lnClose q) (by omega) (by simp) (by simp) (by show 2≤_; omega) (by omega)
   refine R_ (F_ O (L_ 2 O (o_ O (br_ O (fun hlen=>o_ O (bz_ O O (T_ (aq_ O u_ (R_ (M_ O (M_ O (YK ?_))))))))))))
   refine bt_ [0,0] O O (hel _) (fun pp hpp=>T_ (an_ (M_ O (F_ O ?_))))
   refine L_ 2 O (M_ O (o_ O (bj_ O O g_ (o_ O (bt_ [0,0] O O (con2 _) (fun pp hpp=>T_ (an_ (M_ O (M_ O (YK ?_))))))))))
   refine bt_ [0,0] O O (hcl _) (fun pp hpp=>ak_ (ay_ (al_ (an_ (Wr ?_)))))
   refine ak_ (jq_againS (i:=(k,v)) (k+1,pp) hlt (by dsimp only; omega) ?_ ?_)
   ·dsimp only
    rw [hnext,e1,if_neg hnil,← hZ2e,← hZe]
    simp only [ByteArray.append_assoc]
    exact Wx
   ·exact Ww
 ·have hlt2:¬ (k:Int) < ((l.map Sm.row).length:Int):=by omega
  rw [List.take_of_length_le (by omega)]
  refine R_ (o_ O (bw_ O O (T_ (am_ (ap_ O w_ (av_ (ax_ (ax_ (ba_ (jq_ret0 (.inr O) O [0,0] O (fun K h=>h v trivial)))))))))))
theorem wbody_c (b : Nat) : ∀ n : Nat, WBody b n
  | 0 => wbody_step b 0 (fun n' h => by omega)
  | n + 1 => wbody_step b (n + 1) (fun n' h => by obtain rfl : n' = n := by omega
                                                  exact wbody_c b n')
end Go.Proofs.YtalkkcfojplmdaaGreatDoor
end
section
namespace Go.Proofs.YtalkkcfojplmdaaGreatDoor
open Go.Vc
attribute [local irreducible] JL JC JQ OpWp Con ConN HOk
attribute [local irreducible] byteAt runLen isL isD isName hasW rd fineS numS textT hdT stsT stT
set_option maxHeartbeats 4000000
theorem lw_resT (x:ByteArray):lnT 0 [(⟨#[114,101,115,111,117,114,99,101]⟩:ByteArray),x]=resT x:=by
 unfold resT
 simp only [lnT,joinB,spN]
 apply ByteArray.ext
 apply Array.ext'
 simp
theorem lw_shT (x:Shd):lnT 0 [(⟨#[115,104,97,114,101,100]⟩:ByteArray),x.1,numS x.2.1,x.2.2]=shT x:=by
 unfold shT
 simp only [lnT,joinB,spN]
 apply ByteArray.ext
 apply Array.ext'
 simp
theorem lw_inT (x:Inp):lnT 0 [(⟨#[105,110,112,117,116]⟩:ByteArray),x.1,numS x.2.1,numS x.2.2]=inT x:=by
 unfold inT
 simp only [lnT,joinB,spN]
 apply ByteArray.ext
 apply Array.ext'
 simp
theorem lw_vaT (x:ByteArray):lnT 0 [(⟨#[118,97,114]⟩:ByteArray),x]=vaT x:=by
 unfold vaT
 simp only [lnT,joinB,spN]
 apply ByteArray.ext
 apply Array.ext'
 simp
theorem lw_arT (x:Arr):lnT 0 [(⟨#[97,114,114,97,121]⟩:ByteArray),x.1,numS x.2]=arT x:=by
 unfold arT
 simp only [lnT,joinB,spN]
 apply ByteArray.ext
 apply Array.ext'
 simp
theorem lw_mdT (x:Md):lnT 0 [(⟨#[109,111,100,101]⟩:ByteArray),x.1,x.2.1,numS x.2.2.1,numS x.2.2.2]=mdT x:=by
 unfold mdT
 simp only [lnT,joinB,spN]
 apply ByteArray.ext
 apply Array.ext'
 simp
theorem lw_clT (x:Clm):lnT 0 [(⟨#[110,101,118,101,114]⟩:ByteArray),numS x.1,numS x.2]=clT x:=by
 unfold clT
 simp only [lnT,joinB,spN]
 apply ByteArray.ext
 apply Array.ext'
 simp
theorem lw_tkHd (x:Tk):lnT 0 [(⟨#[116,97,115,107]⟩:ByteArray),x.name,(⟨#[112,101,114,105,111,100]⟩:ByteArray),numS x.period,(⟨#[100,101,97,100,108,105,110,101]⟩:ByteArray),numS x.deadline,(⟨#[112,114,105,111,114,105,116,121]⟩:ByteArray),numS x.priority,(⟨#[106,105,116,116,101,114]⟩:ByteArray),numS x.jitter]=tkHd x:=by
 unfold tkHd
 simp only [lnT,joinB,spN]
 apply ByteArray.ext
 apply Array.ext'
 simp
theorem lwBody:lnT 0 [(⟨#[98,111,100,121]⟩:ByteArray)]=(⟨#[98,111,100,121,10]⟩:ByteArray):=rfl
theorem lwEnd:lnT 0 [(⟨#[101,110,100]⟩:ByteArray)]=(⟨#[101,110,100,10]⟩:ByteArray):=rfl
theorem line0_c {b:Nat} {v:Value} {p:Option Addr} {X:ByteArray} {L:List ByteArray} {Y:ByteArray} (hp:WP b p) (hY:lnT 0 L=Y) (hL:L≠[]) (hl:L.length≤1000) (hs:Y.size≤1000000) (hX:X.size≤140000000000000) :
 Con Tryz.prog 86 [Wptr b,In .i64 0,.cell (.list (L.map Wrow))] [Wblk b p v,Bw v X]
  (fun K=>∀ v':Value,True→K (.tup []) [Wb b v',Bw v' (X ++ Y)]):=by
 have h1:(lnT 0 L).size=(spN 0).size+(joinB L).size+1:=by unfold lnT; rw [ByteArray.size_append,ByteArray.size_append]; rfl
 rw [hY] at h1
 have:=line_c b v p X 0 L hp (by omega) hL hl (by omega) hX
 rw [hY] at this
 exact this
theorem wtask_c (b:Nat) (p:Option Addr) (v:Value) (X:ByteArray) (t:Tk) (hp:WP b p) (hok:okTk t=true) (hdt:dpF 8 t.body=false) (hts:TkSz t) (hX:X.size≤90000000000000) :
 Con Tryz.prog 88 [Wptr b,.row t.row] [Wblk b p v,Bw v X] (fun K=>∀ v':Value,True→K (.tup []) [Wb b v',Bw v' (X ++ tkT t)]):=by
 obtain ⟨h0,hb,h1,h2,h3,h4,h5⟩:=hd_of hok
 have z1:=hts.inputs
 have z2:=hts.vars
 have z3:=hts.arrays
 have z4:=hts.modes
 have z5:=hts.claims
 have z6:=hts.body
 have e0:=tk1_size h0
 have hln:=line0_c (b:=b) (v:=v) (p:=p) (X:=X) hp (lw_tkHd t) (by simp) (by simp) (by omega) (by omega)
 obtain ⟨g0,g1,g2,g3,g4⟩:=tk1_ok h0
 have hY0:(X ++ tkHd t).size=X.size+(tkHd t).size:=ByteArray.size_append ..
 refine con_intro Tryz.func88 O O b_ (fun c hc=>R_ (o_ O (ci_ O (fun bx=>T_ (am_ (jc_anyB 16 none O k_ k_ (yM_ O (yF_ O (yL_ 0 O (yF_ O (yL_ 0 O (aa_ (fun c=>bm_ O (numF_c g1) p_) (yF_ O (yL_ 0 O (aa_ (fun c=>bm_ O (numF_c g2) p_) (yF_ O ?_))))))))))))))))
 refine yL_ 0 O (aa_ (fun c=>bm_ O (numF_c g3) p_) (yF_ O (yL_ 0 O (aa_ (fun c=>bm_ O (numF_c g4) p_) (Z7 ?_)))))
 refine o_ O (bt_ [1,1] O O (hln) (fun pp hpp=>T_ ?_))
 generalize hE0:X ++ tkHd t=Y0 at hY0 ⊢
 have hY0:Y0.size≤90000000000200:=by omega
 refine am_ (jc_cut (ι:=Value) [] (fun _=>True) (fun _=>[(0,Wptr b),(3,.cell (.val (.pointer (some ⟨bx,0,none⟩))))]) (fun v=>[Wb b v,Bw v (Y0 ++ catL inT (t.inputs)),.blk bx 39 t.row]) ?_ ?_)
 ·refine Wj (fun hlen=>?_)
  have eL:((t.inputs).map InRow).length=(t.inputs).length:=List.length_map _
  refine jc_loopS (ι:=Nat × Value) [] (fun i=>i.1≤(t.inputs).length) (fun i=>(32,.cell (.list ((t.inputs).map InRow))) :: (33,In .i64 (((t.inputs).map InRow).length:Int)) :: (34,In .i64 (i.1:Int)) :: [(0,Wptr b),(3,.cell (.val (.pointer (some ⟨bx,0,none⟩))))]) (fun i=>[Wb b i.2,Bw i.2 (Y0 ++ catL inT ((t.inputs).take i.1)),.blk bx 39 t.row]) (fun i=>(t.inputs).length - i.1) (0,pp) (Nat.zero_le _) ?_ ?_ ?_
  ·rw [show Y0 ++ catL inT ((t.inputs).take 0)=Y0 by rw [List.take_zero,catL,ba_nil]]
   exact WG
  ·exact Ww
  rintro ⟨k,v⟩ hk
  dsimp only at hk ⊢
  by_cases hlt:k < (t.inputs).length
  ·have hlt2:(k:Int) < (((t.inputs).map InRow).length:Int):=by omega
   have hsz:=catL_takeS (f:=inT) (l:=t.inputs) (fun x hx=>inT_size (h1 x hx)) k
   have hnx:=catL_take inT (Y0) hlt
   have hfs:=inT_size (h1 _ (List.getElem_mem hlt))
   have hYs:(Y0 ++ catL inT ((t.inputs).take k)).size≤90000000000200+200000:=by rw [ByteArray.size_append]; omega
   generalize Y0 ++ catL inT ((t.inputs).take k)=Z at hYs hnx ⊢
   have hlk:=line0_c (b:=b) (v:=v) (X:=Z) (.inr rfl) (lw_inT (t.inputs)[k]) (by simp) (by simp) (by omega) (by omega)
   have gk:=inT_ok (h1 _ (List.getElem_mem hlt))
   obtain ⟨g0,g1,g2⟩:=gk
   refine Zj ?_
   refine Zm (fun bl=>?_)
   refine jc_anyB 10 none O k_ k_ (yM_ O ?_)
   refine yF_ O (yL_ 0 O (yF_ O (yL_ 0 O (aa_ (fun c=>bm_ O (num_c _ g1) p_) (yF_ O (yL_ 0 O (aa_ (fun c=>bm_ O (num_c _ g2) p_) (Z7 ?_))))))))
   refine o_ O (bt_ [1,1] O O (hlk) (fun pp hpp=>ak_ (ay_ (al_ (an_ ?_)))))
   refine Wr ?_
   refine ak_ (jq_againS (i:=(k,v)) (k+1,pp) hlt (by dsimp only; omega) ?_ ?_)
   ·dsimp only
    rw [hnx]
    exact WR
   ·exact Ww
  ·have hlt2:¬ (k:Int) < (((t.inputs).map InRow).length:Int):=by omega
   rw [List.take_of_length_le (show (t.inputs).length≤k by omega)]
   refine R_ (o_ O (Zl ?_))
   refine jq_cutS v trivial ?_ ?_
   ·exact WG
   ·exact Ww
 intro vN0 _
 have hS:=catL_size (f:=inT) (l:=t.inputs) (fun x hx=>inT_size (h1 x hx))
 generalize hE1:Y0 ++ catL inT (t.inputs)=Y1 at *
 have hY1:Y1.size≤90000000200200:=by rw [← hE1,ByteArray.size_append]; omega
 clear hS hY0
 refine am_ (jc_cut (ι:=Value) [] (fun _=>True) (fun _=>[(0,Wptr b),(3,.cell (.val (.pointer (some ⟨bx,0,none⟩))))]) (fun v=>[Wb b v,Bw v (Y1 ++ catL vaT (t.vars)),.blk bx 39 t.row]) ?_ ?_)
 ·refine Wj (fun hlen=>?_)
  have eL:((t.vars).map Wrow).length=(t.vars).length:=List.length_map _
  refine jc_loopS (ι:=Nat × Value) [] (fun i=>i.1≤(t.vars).length) (fun i=>(51,.cell (.list ((t.vars).map Wrow))) :: (52,In .i64 (((t.vars).map Wrow).length:Int)) :: (53,In .i64 (i.1:Int)) :: [(0,Wptr b),(3,.cell (.val (.pointer (some ⟨bx,0,none⟩))))]) (fun i=>[Wb b i.2,Bw i.2 (Y1 ++ catL vaT ((t.vars).take i.1)),.blk bx 39 t.row]) (fun i=>(t.vars).length - i.1) (0,vN0) (Nat.zero_le _) ?_ ?_ ?_
  ·rw [show Y1 ++ catL vaT ((t.vars).take 0)=Y1 by rw [List.take_zero,catL,ba_nil]]
   exact WG
  ·exact Ww
  rintro ⟨k,v⟩ hk
  dsimp only at hk ⊢
  by_cases hlt:k < (t.vars).length
  ·have hlt2:(k:Int) < (((t.vars).map Wrow).length:Int):=by omega
   have hsz:=catL_takeS (f:=vaT) (l:=t.vars) (fun x hx=>vaT_size (h2 x hx)) k
   have hnx:=catL_take vaT (Y1) hlt
   have hfs:=vaT_size (h2 _ (List.getElem_mem hlt))
   have hYs:(Y1 ++ catL vaT ((t.vars).take k)).size≤90000000200200+200000:=by rw [ByteArray.size_append]; omega
   generalize Y1 ++ catL vaT ((t.vars).take k)=Z at hYs hnx ⊢
   have hlk:=line0_c (b:=b) (v:=v) (X:=Z) (.inr rfl) (lw_vaT (t.vars)[k]) (by simp) (by simp) (by omega) (by omega)
   have gk:=vaT_ok (h2 _ (List.getElem_mem hlt))
   skip
   refine Zj ?_
   refine ZI ?_
   refine cb_ O O (E_ O (T_ (an_ (M_ O (M_ O ?_)))))
   refine YK ?_
   refine bt_ [0,0] O O (hlk) (fun pp hpp=>ak_ (Zx ?_))
   refine jq_againS (i:=(k,v)) (k+1,pp) hlt (by dsimp only; omega) ?_ ?_
   ·dsimp only
    rw [hnx]
    exact WG
   ·exact Ww
  ·have hlt2:¬ (k:Int) < (((t.vars).map Wrow).length:Int):=by omega
   rw [List.take_of_length_le (show (t.vars).length≤k by omega)]
   refine R_ (o_ O (Zl ?_))
   refine jq_cutS v trivial ?_ ?_
   ·exact WG
   ·exact Ww
 intro vN1 _
 have hS:=catL_size (f:=vaT) (l:=t.vars) (fun x hx=>vaT_size (h2 x hx))
 generalize hE2:Y1 ++ catL vaT (t.vars)=Y2 at *
 have hY2:Y2.size≤90000000400200:=by rw [← hE2,ByteArray.size_append]; omega
 clear hS hY1
 refine am_ (jc_cut (ι:=Value) [] (fun _=>True) (fun _=>[(0,Wptr b),(3,.cell (.val (.pointer (some ⟨bx,0,none⟩))))]) (fun v=>[Wb b v,Bw v (Y2 ++ catL arT (t.arrays)),.blk bx 39 t.row]) ?_ ?_)
 ·refine Wj (fun hlen=>?_)
  have eL:((t.arrays).map ArRow).length=(t.arrays).length:=List.length_map _
  refine jc_loopS (ι:=Nat × Value) [] (fun i=>i.1≤(t.arrays).length) (fun i=>(63,.cell (.list ((t.arrays).map ArRow))) :: (64,In .i64 (((t.arrays).map ArRow).length:Int)) :: (65,In .i64 (i.1:Int)) :: [(0,Wptr b),(3,.cell (.val (.pointer (some ⟨bx,0,none⟩))))]) (fun i=>[Wb b i.2,Bw i.2 (Y2 ++ catL arT ((t.arrays).take i.1)),.blk bx 39 t.row]) (fun i=>(t.arrays).length - i.1) (0,vN1) (Nat.zero_le _) ?_ ?_ ?_
  ·rw [show Y2 ++ catL arT ((t.arrays).take 0)=Y2 by rw [List.take_zero,catL,ba_nil]]
   exact WG
  ·exact Ww
  rintro ⟨k,v⟩ hk
  dsimp only at hk ⊢
  by_cases hlt:k < (t.arrays).length
  ·have hlt2:(k:Int) < (((t.arrays).map ArRow).length:Int):=by omega
   have hsz:=catL_takeS (f:=arT) (l:=t.arrays) (fun x hx=>arT_size (h3 x hx)) k
   have hnx:=catL_take arT (Y2) hlt
   have hfs:=arT_size (h3 _ (List.getElem_mem hlt))
   have hYs:(Y2 ++ catL arT ((t.arrays).take k)).size≤90000000400200+200000:=by rw [ByteArray.size_append]; omega
   generalize Y2 ++ catL arT ((t.arrays).take k)=Z at hYs hnx ⊢
   have hlk:=line0_c (b:=b) (v:=v) (X:=Z) (.inr rfl) (lw_arT (t.arrays)[k]) (by simp) (by simp) (by omega) (by omega)
   have gk:=arT_ok (h3 _ (List.getElem_mem hlt))
   obtain ⟨g0,g1⟩:=gk
   refine Zj ?_
   refine Zm (fun bl=>?_)
   refine jc_anyB 7 none O k_ k_ (yM_ O ?_)
   refine yF_ O (yL_ 0 O (yF_ O (yL_ 0 O (aa_ (fun c=>bm_ O (numF_c g1) p_) (Z7 ?_)))))
   refine o_ O (bt_ [1,1] O O (hlk) (fun pp hpp=>ak_ (Zx ?_)))
   refine jq_againS (i:=(k,v)) (k+1,pp) hlt (by dsimp only; omega) ?_ ?_
   ·dsimp only
    rw [hnx]
    exact WR
   ·exact Ww
  ·have hlt2:¬ (k:Int) < (((t.arrays).map ArRow).length:Int):=by omega
   rw [List.take_of_length_le (show (t.arrays).length≤k by omega)]
   refine R_ (o_ O (Zl ?_))
   refine jq_cutS v trivial ?_ ?_
   ·exact WG
   ·exact Ww
 intro vN2 _
 have hS:=catL_size (f:=arT) (l:=t.arrays) (fun x hx=>arT_size (h3 x hx))
 generalize hE3:Y2 ++ catL arT (t.arrays)=Y3 at *
 have hY3:Y3.size≤90000000600200:=by rw [← hE3,ByteArray.size_append]; omega
 clear hS hY2
 refine am_ (jc_cut (ι:=Value) [] (fun _=>True) (fun _=>[(0,Wptr b),(3,.cell (.val (.pointer (some ⟨bx,0,none⟩))))]) (fun v=>[Wb b v,Bw v (Y3 ++ catL mdT (t.modes)),.blk bx 39 t.row]) ?_ ?_)
 ·refine Wj (fun hlen=>?_)
  have eL:((t.modes).map MdRow).length=(t.modes).length:=List.length_map _
  refine jc_loopS (ι:=Nat × Value) [] (fun i=>i.1≤(t.modes).length) (fun i=>(79,.cell (.list ((t.modes).map MdRow))) :: (80,In .i64 (((t.modes).map MdRow).length:Int)) :: (81,In .i64 (i.1:Int)) :: [(0,Wptr b),(3,.cell (.val (.pointer (some ⟨bx,0,none⟩))))]) (fun i=>[Wb b i.2,Bw i.2 (Y3 ++ catL mdT ((t.modes).take i.1)),.blk bx 39 t.row]) (fun i=>(t.modes).length - i.1) (0,vN2) (Nat.zero_le _) ?_ ?_ ?_
  ·rw [show Y3 ++ catL mdT ((t.modes).take 0)=Y3 by rw [List.take_zero,catL,ba_nil]]
   exact WG
  ·exact Ww
  rintro ⟨k,v⟩ hk
  dsimp only at hk ⊢
  by_cases hlt:k < (t.modes).length
  ·have hlt2:(k:Int) < (((t.modes).map MdRow).length:Int):=by omega
   have hsz:=catL_takeS (f:=mdT) (l:=t.modes) (fun x hx=>mdT_size (h4 x hx)) k
   have hnx:=catL_take mdT (Y3) hlt
   have hfs:=mdT_size (h4 _ (List.getElem_mem hlt))
   have hYs:(Y3 ++ catL mdT ((t.modes).take k)).size≤90000000600200+200000:=by rw [ByteArray.size_append]; omega
   generalize Y3 ++ catL mdT ((t.modes).take k)=Z at hYs hnx ⊢
   have hlk:=line0_c (b:=b) (v:=v) (X:=Z) (.inr rfl) (lw_mdT (t.modes)[k]) (by simp) (by simp) (by omega) (by omega)
   have gk:=mdT_ok (h4 _ (List.getElem_mem hlt))
   obtain ⟨g0,g1,g2,g3⟩:=gk
   refine Zj ?_
   refine Zm (fun bl=>?_)
   refine jc_anyB 12 none O k_ k_ (yM_ O ?_)
   refine yF_ O (yL_ 0 O (yF_ O (yL_ 0 O (yF_ O (yL_ 0 O (aa_ (fun c=>bm_ O (num_c _ g2) p_) (yF_ O (yL_ 0 O (aa_ (fun c=>bm_ O (num_c _ g3) p_) (Z7 ?_))))))))))
   refine o_ O (bt_ [1,1] O O (hlk) (fun pp hpp=>ak_ (ay_ ?_)))
   refine al_ (an_ (Wr ?_))
   refine ak_ (jq_againS (i:=(k,v)) (k+1,pp) hlt (by dsimp only; omega) ?_ ?_)
   ·dsimp only
    rw [hnx]
    exact WR
   ·exact Ww
  ·have hlt2:¬ (k:Int) < (((t.modes).map MdRow).length:Int):=by omega
   rw [List.take_of_length_le (show (t.modes).length≤k by omega)]
   refine R_ (o_ O (Zl ?_))
   refine jq_cutS v trivial ?_ ?_
   ·exact WG
   ·exact Ww
 intro vN3 _
 have hS:=catL_size (f:=mdT) (l:=t.modes) (fun x hx=>mdT_size (h4 x hx))
 generalize hE4:Y3 ++ catL mdT (t.modes)=Y4 at *
 have hY4:Y4.size≤90000000800200:=by rw [← hE4,ByteArray.size_append]; omega
 clear hS hY3
 refine am_ (jc_cut (ι:=Value) [] (fun _=>True) (fun _=>[(0,Wptr b),(3,.cell (.val (.pointer (some ⟨bx,0,none⟩))))]) (fun v=>[Wb b v,Bw v (Y4 ++ catL clT (t.claims)),.blk bx 39 t.row]) ?_ ?_)
 ·refine Wj (fun hlen=>?_)
  have eL:((t.claims).map ClRow).length=(t.claims).length:=List.length_map _
  refine jc_loopS (ι:=Nat × Value) [] (fun i=>i.1≤(t.claims).length) (fun i=>(100,.cell (.list ((t.claims).map ClRow))) :: (101,In .i64 (((t.claims).map ClRow).length:Int)) :: (102,In .i64 (i.1:Int)) :: [(0,Wptr b),(3,.cell (.val (.pointer (some ⟨bx,0,none⟩))))]) (fun i=>[Wb b i.2,Bw i.2 (Y4 ++ catL clT ((t.claims).take i.1)),.blk bx 39 t.row]) (fun i=>(t.claims).length - i.1) (0,vN3) (Nat.zero_le _) ?_ ?_ ?_
  ·rw [show Y4 ++ catL clT ((t.claims).take 0)=Y4 by rw [List.take_zero,catL,ba_nil]]
   exact WG
  ·exact Ww
  rintro ⟨k,v⟩ hk
  dsimp only at hk ⊢
  by_cases hlt:k < (t.claims).length
  ·have hlt2:(k:Int) < (((t.claims).map ClRow).length:Int):=by omega
   have hsz:=catL_takeS (f:=clT) (l:=t.claims) (fun x hx=>clT_size (h5 x hx)) k
   have hnx:=catL_take clT (Y4) hlt
   have hfs:=clT_size (h5 _ (List.getElem_mem hlt))
   have hYs:(Y4 ++ catL clT ((t.claims).take k)).size≤90000000800200+200000:=by rw [ByteArray.size_append]; omega
   generalize Y4 ++ catL clT ((t.claims).take k)=Z at hYs hnx ⊢
   have hlk:=line0_c (b:=b) (v:=v) (X:=Z) (.inr rfl) (lw_clT (t.claims)[k]) (by simp) (by simp) (by omega) (by omega)
   have gk:=clT_ok (h5 _ (List.getElem_mem hlt))
   obtain ⟨g0,g1⟩:=gk
   refine Zj ?_
   refine Zm (fun bl=>?_)
   refine jc_anyB 8 none O k_ k_ (yM_ O ?_)
   refine yF_ O (yL_ 0 O (aa_ (fun c=>bm_ O (numF_c g0) p_) (yF_ O (yL_ 0 O (aa_ (fun c=>bm_ O (numF_c g1) p_) (Z7 ?_))))))
   refine o_ O (bt_ [1,1] O O (hlk) (fun pp hpp=>ak_ (ay_ (al_ (an_ (Wr ?_))))))
   refine ak_ (jq_againS (i:=(k,v)) (k+1,pp) hlt (by dsimp only; omega) ?_ ?_)
   ·dsimp only
    rw [hnx]
    exact WR
   ·exact Ww
  ·have hlt2:¬ (k:Int) < (((t.claims).map ClRow).length:Int):=by omega
   rw [List.take_of_length_le (show (t.claims).length≤k by omega)]
   refine R_ (o_ O (Zl ?_))
   refine jq_cutS v trivial ?_ ?_
   ·exact WG
   ·exact Ww
 intro vN4 _
 have hS:=catL_size (f:=clT) (l:=t.claims) (fun x hx=>clT_size (h5 x hx))
 generalize hE5:Y4 ++ catL clT (t.claims)=Y5 at *
 have hY5:Y5.size≤90000001000200:=by rw [← hE5,ByteArray.size_append]; omega
 clear hS hY4
 have hfine:=fine_of 8 20 t.body (by omega) hb hdt
 have hbs:=sts_size (sp:=spN 1) hfine (by show 2+2 * 8≤100; omega)
 have hlb:=fun v=>line0_c (b:=b) (v:=v) (X:=Y5) (.inr rfl) lwBody (by simp) (by simp) (by show 5≤_; omega) (by omega)
 have hX1:(Y5 ++ (⟨#[98,111,100,121,10]⟩:ByteArray)).size=Y5.size+5:=by rw [ByteArray.size_append]; rfl
 have con1:=fun v=>wbody_c b 8 t.body 1 (Y5 ++ (⟨#[98,111,100,121,10]⟩:ByteArray)) v hfine (by omega) (by omega)
 have hX3:((Y5 ++ (⟨#[98,111,100,121,10]⟩:ByteArray)) ++ stsT (spN 1) t.body).size=(Y5 ++ (⟨#[98,111,100,121,10]⟩:ByteArray)).size+(stsT (spN 1) t.body).size:=ByteArray.size_append ..
 have hle:=fun v=>line0_c (b:=b) (v:=v) (X:=(Y5 ++ (⟨#[98,111,100,121,10]⟩:ByteArray)) ++ stsT (spN 1) t.body) (.inr rfl) lwEnd (by simp) (by simp) (by show 4≤_; omega) (by omega)
 refine R_ (M_ O (YK ?_))
 refine bt_ [0,0] O O (hlb _) (fun pp hpp=>T_ (R_ (M_ O (F_ O (L_ 2 O (o_ O (bt_ [0,0] O O (con1 _) (fun pp hpp=>T_ (an_ (M_ O (YK ?_)))))))))))
 refine bt_ [0,0] O O (hle _) (fun pp hpp=>ak_ ?_)
 have hspn:spN 1=Ksp:=rfl
 refine jq_ret0 (.inr O) O [0,0] O (fun K h=>by
  have h:=h pp trivial
  rw [show X ++ tkT t=((Y5 ++ (⟨#[98,111,100,121,10]⟩:ByteArray)) ++ stsT (spN 1) t.body) ++ (⟨#[101,110,100,10]⟩:ByteArray) by rw [hspn,← hE5,← hE4,← hE3,← hE2,← hE1,← hE0]; simp only [tkT,ByteArray.append_assoc]] at h
  exact h)
end Go.Proofs.YtalkkcfojplmdaaGreatDoor
end
section
namespace Go.Proofs.YtalkkcfojplmdaaGreatDoor
open Go.Vc
attribute [local irreducible] JL JC JQ OpWp Con ConN HOk
attribute [local irreducible] byteAt runLen isL isD isName hasW rd fineS numS textT hdT stsT stT
set_option maxHeartbeats 4000000
def WS (b:Nat) (p:Option Addr) (v:Value) (X:ByteArray):Prop:=WP b p∧(X.size=0→v=NilV)
theorem WS.used {b:Nat} {v:Value} {X Y:ByteArray} (h:0 < Y.size):WS b (some ⟨b,0,none⟩) v (X ++ Y):=⟨.inr rfl,fun h0=>by rw [ByteArray.size_append] at h0; omega⟩
theorem size0P {X:ByteArray} (h:X.size=0):X=⟨#[]⟩:=by
 apply ByteArray.ext
 apply Array.eq_empty_of_size_eq_zero
 exact h
theorem pProg_c (p:Pg) (hz:PgSz p) (hls:∀ t ∈ p.tasks,lsS 20 t.body):Con Tryz.prog 49 [.row p.row] [] (fun K=>K (.tup [Str (progF p).1,In .i64 (progF p).2]) []):=by
 have hPr:=printable_c p hls
 refine con_intro Tryz.func49 O O b_ (fun c hc=>R_ (o_ O (ci_ O (fun bx=>E_ O (E_ O (T_ (am_ (R_ (A_ 0 O (o_ O (bm_ O (hPr) (o_ O (cd_ O (T_ (jc_cond O (fun hn=>?_) (fun hy=>?_))))))))))))))))
 ·have hok:okPg p=false:=by simpa using hn
  have e1:progF p=(⟨#[]⟩,10):=by unfold progF; rw [if_pos hok]
  refine R_ (E_ O (E_ O (T_ (ar_ (aw_ (jq_ret2 O O O [] O (fun K h=>by rw [e1] at h; exact h)))))))
 have hok:okPg p=true:=by simpa using hy
 have hokb:¬ okPg p=false:=by rw [hok]; simp
 refine as_ (al_ ?_)
 -- none is too deep
 have eT:(p.tasks.map Tk.row).length=p.tasks.length:=List.length_map _
 refine am_ (jc_cut (ι:=Unit) [] (fun _=>p.tasks.any (fun t=>dpF 8 t.body)=false) (fun _=>[(1,.cell (.val (.pointer (some ⟨bx,0,none⟩))))]) (fun _=>[.blk bx 31 p.row]) ?_ ?_)
 ·refine Yh ?_
  refine br_ O (fun hlen=>M_ O (T_ (au_ ?_)))
  refine jc_loopS (ι:=Nat) [] (fun k=>k≤p.tasks.length∧(p.tasks.take k).any (fun t=>dpF 8 t.body)=false) (fun k=>[(1,.cell (.val (.pointer (some ⟨bx,0,none⟩)))),(17,.cell (.list (p.tasks.map Tk.row))),(18,In .i64 ((p.tasks.map Tk.row).length:Int)),(19,In .i64 (k:Int))]) (fun _=>[.blk bx 31 p.row]) (fun k=>p.tasks.length - k) 0 ⟨Nat.zero_le _,rfl⟩ ?_ ?_ ?_
  ·exact Wy
  ·exact Ww
  rintro k ⟨hk,hall⟩
  by_cases hlt:k < p.tasks.length
  ·have hlt2:(k:Int) < ((p.tasks.map Tk.row).length:Int):=by omega
   have hD:=pdeep_c p.tasks[k].body (hls _ (List.getElem_mem hlt))
   by_cases hd:dpF 8 p.tasks[k].body=true
   ·have hany:p.tasks.any (fun t=>dpF 8 t.body)=true:=any_yes hlt hd
    have e1:progF p=(⟨#[]⟩,4):=by unfold progF; rw [if_neg hokb,if_pos hany]
    rw [hd] at hD
    refine Zj ?_
    refine Zm (fun bl=>?_)
    refine R_ (F_ O ?_)
    refine L_ 0 O (o_ O (bm_ O (hD) (T_ (aq_ O O (R_ (E_ O (E_ O (T_ (ar_ (az_ (aw_ (aw_ (az_ (aw_ (jq_ret2 O O O [] O (fun K h=>by rw [e1] at h; exact h))))))))))))))))
   ·have hd:dpF 8 p.tasks[k].body=false:=by simpa using hd
    rw [hd] at hD
    refine Zj ?_
    refine Zm (fun bl=>?_)
    refine R_ (F_ O ?_)
    refine L_ 0 O (o_ O (bm_ O (hD) (T_ (ap_ O O (as_ (Zx ?_))))))
    refine jq_againS (k+1) ⟨hlt,any_snoc hlt hall hd⟩ g_ ?_ ?_
    ·exact WE
    ·exact Ww
  ·have hlt2:¬ (k:Int) < ((p.tasks.map Tk.row).length:Int):=by omega
   refine R_ (o_ O (Zl ?_))
   refine jq_cutS () (by rw [List.take_of_length_le g_] at hall; exact hall) ?_ ?_
   ·exact Wy
   ·exact Ww
 intro _ hdeep
 have hok2:=hok
 unfold okPg at hok2
 simp only [Bool.and_eq_true,List.all_eq_true,and_assoc] at hok2
 obtain ⟨hR,hSh,hTk⟩:=hok2
 have zr:=hz.res
 have zs:=hz.shared
 have zl:=hz.len
 have htz:∀ t ∈ p.tasks,(tkT t).size≤60002000000:=fun t ht=>tkT_size (hTk t ht) (by simpa using List.any_eq_false.1 hdeep t ht) (hz.tasks t ht)
 refine jc_ownNil 5 1 g_ ?_
 revert bx
 intro bp
 refine R_ (o_ O (bu_ O O O O O (o_ O (ci_ O (fun bx=>E_ O (T_ (am_ (jc_cut (ι:=Option Addr × Value) [] (fun i=>WS bx i.1 i.2 ((⟨#[]⟩:ByteArray) ++ catL resT (p.res))) (fun _=>[(1,.cell (.val (.pointer (some ⟨bp,0,none⟩)))),(6,Wptr bx)]) (fun i=>[Wblk bx i.1 i.2,Bw i.2 ((⟨#[]⟩:ByteArray) ++ catL resT (p.res)),.blk bp 31 p.row]) ?_ ?_))))))))
 ·refine Wj (fun hlen=>?_)
  have eL:((p.res).map Wrow).length=(p.res).length:=List.length_map _
  refine jc_loopS (ι:=Nat × Option Addr × Value) [] (fun i=>i.1≤(p.res).length∧WS bx i.2.1 i.2.2 ((⟨#[]⟩:ByteArray) ++ catL resT ((p.res).take i.1))) (fun i=>(30,.cell (.list ((p.res).map Wrow))) :: (31,In .i64 (((p.res).map Wrow).length:Int)) :: (32,In .i64 (i.1:Int)) :: [(1,.cell (.val (.pointer (some ⟨bp,0,none⟩)))),(6,Wptr bx)]) (fun i=>[Wblk bx i.2.1 i.2.2,Bw i.2.2 ((⟨#[]⟩:ByteArray) ++ catL resT ((p.res).take i.1)),.blk bp 31 p.row]) (fun i=>(p.res).length - i.1) (0,none,NilV) ⟨Nat.zero_le _,.inl rfl,fun _=>rfl⟩ ?_ ?_ ?_
  ·rw [show (⟨#[]⟩:ByteArray) ++ catL resT ((p.res).take 0)=(⟨#[]⟩:ByteArray) by rw [List.take_zero,catL,ba_nil]]
   exact WG
  ·exact Ww
  rintro ⟨k,q,v⟩ ⟨hk,hws⟩
  dsimp only at hk hws ⊢
  by_cases hlt:k < (p.res).length
  ·have hlt2:(k:Int) < (((p.res).map Wrow).length:Int):=by omega
   have hsz:=catL_takeS (f:=resT) (l:=p.res) (fun x hx=>resT_size (hR x hx)) k
   have hnx:=catL_take resT ((⟨#[]⟩:ByteArray)) hlt
   have hfs:=resT_size (hR _ (List.getElem_mem hlt))
   have hmul:(p.res).length * 200≤1000 * 200:=Nat.mul_le_mul_right _ zr
   have hYs:((⟨#[]⟩:ByteArray) ++ catL resT ((p.res).take k)).size≤0+1000 * 200:=by rw [ByteArray.size_append]; show 0+_≤_; omega
   generalize (⟨#[]⟩:ByteArray) ++ catL resT ((p.res).take k)=Z at hYs hnx hws ⊢
   have hlk:=line0_c (b:=bx) (v:=v) (p:=q) (X:=Z) hws.1 (lw_resT (p.res)[k]) (by simp) (by simp) (by omega) (by omega)
   have gk:=resT_ok (hR _ (List.getElem_mem hlt))
   have hpos:0 < (resT (p.res)[k]).size:=by unfold resT; rw [ByteArray.size_append]; show 0 < _+1; omega
   refine Zj ?_
   refine ZI ?_
   refine cb_ O O (E_ O (T_ (an_ (M_ O (M_ O ?_)))))
   refine YK ?_
   refine bt_ [0,0] O O (hlk) (fun pp hpp=>ak_ (Zx ?_))
   refine jq_againS (i:=(k,q,v)) (k+1,some ⟨bx,0,none⟩,pp) ⟨hlt,by dsimp only; rw [hnx]; exact WS.used hpos⟩ (by dsimp only; omega) ?_ ?_
   ·dsimp only
    rw [hnx]
    exact WG
   ·exact Ww
  ·have hlt2:¬ (k:Int) < (((p.res).map Wrow).length:Int):=by omega
   rw [List.take_of_length_le (show (p.res).length≤k by omega)] at hws ⊢
   refine R_ (o_ O (Zl ?_))
   refine jq_cutS (q,v) hws ?_ ?_
   ·exact WG
   ·exact Ww
 intro q0 hws0
 have hS:=catL_size (f:=resT) (l:=p.res) (fun x hx=>resT_size (hR x hx))
 have hmul:(p.res).length * 200≤1000 * 200:=Nat.mul_le_mul_right _ zr
 generalize hZ1:(⟨#[]⟩:ByteArray) ++ catL resT (p.res)=Z1 at *
 have hY1:Z1.size≤200000:=by rw [← hZ1,ByteArray.size_append]; show 0+_≤_; omega
 clear hS hmul
 refine am_ (jc_cut (ι:=Option Addr × Value) [] (fun i=>WS bx i.1 i.2 (Z1 ++ catL shT (p.shared))) (fun _=>[(1,.cell (.val (.pointer (some ⟨bp,0,none⟩)))),(6,Wptr bx)]) (fun i=>[Wblk bx i.1 i.2,Bw i.2 (Z1 ++ catL shT (p.shared)),.blk bp 31 p.row]) ?_ ?_)
 ·refine Wj (fun hlen=>?_)
  have eL:((p.shared).map ShRow).length=(p.shared).length:=List.length_map _
  refine jc_loopS (ι:=Nat × Option Addr × Value) [] (fun i=>i.1≤(p.shared).length∧WS bx i.2.1 i.2.2 (Z1 ++ catL shT ((p.shared).take i.1))) (fun i=>(42,.cell (.list ((p.shared).map ShRow))) :: (43,In .i64 (((p.shared).map ShRow).length:Int)) :: (44,In .i64 (i.1:Int)) :: [(1,.cell (.val (.pointer (some ⟨bp,0,none⟩)))),(6,Wptr bx)]) (fun i=>[Wblk bx i.2.1 i.2.2,Bw i.2.2 (Z1 ++ catL shT ((p.shared).take i.1)),.blk bp 31 p.row]) (fun i=>(p.shared).length - i.1) (0,q0.1,q0.2) ⟨Nat.zero_le _,by dsimp only; rw [List.take_zero,catL,ba_nil]; exact hws0⟩ ?_ ?_ ?_
  ·rw [show Z1 ++ catL shT ((p.shared).take 0)=Z1 by rw [List.take_zero,catL,ba_nil]]
   exact WG
  ·exact Ww
  rintro ⟨k,q,v⟩ ⟨hk,hws⟩
  dsimp only at hk hws ⊢
  by_cases hlt:k < (p.shared).length
  ·have hlt2:(k:Int) < (((p.shared).map ShRow).length:Int):=by omega
   have hsz:=catL_takeS (f:=shT) (l:=p.shared) (fun x hx=>shT_size (hSh x hx)) k
   have hnx:=catL_take shT (Z1) hlt
   have hfs:=shT_size (hSh _ (List.getElem_mem hlt))
   have hmul:(p.shared).length * 200≤1000 * 200:=Nat.mul_le_mul_right _ zs
   have hYs:(Z1 ++ catL shT ((p.shared).take k)).size≤200000+1000 * 200:=by rw [ByteArray.size_append]; omega
   generalize Z1 ++ catL shT ((p.shared).take k)=Z at hYs hnx hws ⊢
   have hlk:=line0_c (b:=bx) (v:=v) (p:=q) (X:=Z) hws.1 (lw_shT (p.shared)[k]) (by simp) (by simp) (by omega) (by omega)
   have gk:=shT_ok (hSh _ (List.getElem_mem hlt))
   have hpos:0 < (shT (p.shared)[k]).size:=by unfold shT; rw [ByteArray.size_append]; show 0 < _+1; omega
   obtain ⟨g0,g1,g2⟩:=gk
   refine Zj ?_
   refine Zm (fun bl=>?_)
   refine jc_anyB 11 none O k_ k_ (yM_ O ?_)
   refine yF_ O (yF_ O (yL_ 0 O (yF_ O (yF_ O (yL_ 0 O (aa_ (fun c=>bm_ O (numF_c g1) p_) (yF_ O (yL_ 0 O (Z7 ?_)))))))))
   refine o_ O (bt_ [1,1] O O (hlk) (fun pp hpp=>ak_ (ay_ (al_ ?_))))
   refine an_ (Wr ?_)
   refine ak_ (jq_againS (i:=(k,q,v)) (k+1,some ⟨bx,0,none⟩,pp) ⟨hlt,by dsimp only; rw [hnx]; exact WS.used hpos⟩ (by dsimp only; omega) ?_ ?_)
   ·dsimp only
    rw [hnx]
    exact WR
   ·exact Ww
  ·have hlt2:¬ (k:Int) < (((p.shared).map ShRow).length:Int):=by omega
   rw [List.take_of_length_le (show (p.shared).length≤k by omega)] at hws ⊢
   refine R_ (o_ O (Zl ?_))
   refine jq_cutS (q,v) hws ?_ ?_
   ·exact WG
   ·exact Ww
 intro q1 hws1
 have hS:=catL_size (f:=shT) (l:=p.shared) (fun x hx=>shT_size (hSh x hx))
 have hmul:(p.shared).length * 200≤1000 * 200:=Nat.mul_le_mul_right _ zs
 generalize hZ2:Z1 ++ catL shT (p.shared)=Z2 at *
 have hY2:Z2.size≤400000:=by rw [← hZ2,ByteArray.size_append]; omega
 clear hS hmul hY1
 refine am_ (jc_cut (ι:=Option Addr × Value) [] (fun i=>WS bx i.1 i.2 (Z2 ++ catL tkT (p.tasks))) (fun _=>[(1,.cell (.val (.pointer (some ⟨bp,0,none⟩)))),(6,Wptr bx)]) (fun i=>[Wblk bx i.1 i.2,Bw i.2 (Z2 ++ catL tkT (p.tasks)),.blk bp 31 p.row]) ?_ ?_)
 ·refine Wj (fun hlen=>?_)
  have eL:((p.tasks).map Tk.row).length=(p.tasks).length:=List.length_map _
  refine jc_loopS (ι:=Nat × Option Addr × Value) [] (fun i=>i.1≤(p.tasks).length∧WS bx i.2.1 i.2.2 (Z2 ++ catL tkT ((p.tasks).take i.1))) (fun i=>(62,.cell (.list ((p.tasks).map Tk.row))) :: (63,In .i64 (((p.tasks).map Tk.row).length:Int)) :: (64,In .i64 (i.1:Int)) :: [(1,.cell (.val (.pointer (some ⟨bp,0,none⟩)))),(6,Wptr bx)]) (fun i=>[Wblk bx i.2.1 i.2.2,Bw i.2.2 (Z2 ++ catL tkT ((p.tasks).take i.1)),.blk bp 31 p.row]) (fun i=>(p.tasks).length - i.1) (0,q1.1,q1.2) ⟨Nat.zero_le _,by dsimp only; rw [List.take_zero,catL,ba_nil]; exact hws1⟩ ?_ ?_ ?_
  ·rw [show Z2 ++ catL tkT ((p.tasks).take 0)=Z2 by rw [List.take_zero,catL,ba_nil]]
   exact WG
  ·exact Ww
  rintro ⟨k,q,v⟩ ⟨hk,hws⟩
  dsimp only at hk hws ⊢
  by_cases hlt:k < (p.tasks).length
  ·have hlt2:(k:Int) < (((p.tasks).map Tk.row).length:Int):=by omega
   have hsz:=catL_takeS (f:=tkT) (l:=p.tasks) (htz) k
   have hnx:=catL_take tkT (Z2) hlt
   have hfs:=htz _ (List.getElem_mem hlt)
   have hmul:(p.tasks).length * 60002000000≤1000 * 60002000000:=Nat.mul_le_mul_right _ zl
   have hYs:(Z2 ++ catL tkT ((p.tasks).take k)).size≤400000+1000 * 60002000000:=by rw [ByteArray.size_append]; omega
   generalize Z2 ++ catL tkT ((p.tasks).take k)=Z at hYs hnx hws ⊢
   have hdk:dpF 8 p.tasks[k].body=false:=by simpa using List.any_eq_false.1 hdeep _ (List.getElem_mem hlt)
   have hlk:=wtask_c bx q v Z p.tasks[k] hws.1 (hTk _ (List.getElem_mem hlt)) hdk (hz.tasks _ (List.getElem_mem hlt)) (by omega)
   have hpos:0 < (tkT p.tasks[k]).size:=by unfold tkT; rw [ByteArray.size_append]; show 0 < _+4; omega
   refine Zj ?_
   refine Zm (fun bl=>?_)
   refine an_ (M_ O ?_)
   refine A_ 0 O (o_ O (bt_ [1,1] O O (hlk) (fun pp hpp=>ak_ (Zx ?_))))
   refine jq_againS (i:=(k,q,v)) (k+1,some ⟨bx,0,none⟩,pp) ⟨hlt,by dsimp only; rw [hnx]; exact WS.used hpos⟩ (by dsimp only; omega) ?_ ?_
   ·dsimp only
    rw [hnx]
    exact WR
   ·exact Ww
  ·have hlt2:¬ (k:Int) < (((p.tasks).map Tk.row).length:Int):=by omega
   rw [List.take_of_length_le (show (p.tasks).length≤k by omega)] at hws ⊢
   refine R_ (o_ O (Zl ?_))
   refine jq_cutS (q,v) hws ?_ ?_
   ·exact WG
   ·exact Ww
 intro q2 hws2
 have hS:=catL_size (f:=tkT) (l:=p.tasks) (htz)
 have hmul:(p.tasks).length * 60002000000≤1000 * 60002000000:=Nat.mul_le_mul_right _ zl
 generalize hZ3:Z2 ++ catL tkT (p.tasks)=Z3 at *
 have hY3:Z3.size≤60002000400000:=by rw [← hZ3,ByteArray.size_append]; omega
 clear hS hmul hY2
 have hprog:Z3=progT p:=by rw [← hZ3,← hZ2,← hZ1,nil_ba]; rfl
 subst hprog
 have hLen:=builderLen_c bx q2.1 q2.2 (progT p)
 have e0:progF p=if 8192 < (progT p).size then (⟨#[]⟩,4) else (progT p,0):=by unfold progF; rw [if_neg hokb,if_neg (by rw [hdeep]; simp)]
 by_cases hbig:8192 < (progT p).size
 ·have hbig2:(8192:Int) < ((progT p).size:Int):=by omega
  rw [if_pos hbig] at e0
  refine am_ (R_ (M_ O (N_ O (F_ O (o_ O (bi_ [0,0] O O (hLen) (o_ O (bz_ O O (T_ (aq_ O u_ (R_ (E_ O (E_ O (T_ (ar_ (aw_ (jq_ret2 O O O [] O (fun K h=>by rw [e0] at h; exact h))))))))))))))))))
 ·have hbig2:¬ (8192:Int) < ((progT p).size:Int):=by omega
  rw [if_neg hbig] at e0
  by_cases hz0:(progT p).size=0
  ·have hv:=hws2.2 hz0
   have hX:=size0P hz0
   rw [hX,hv] at hLen ⊢
   rw [hX] at e0 hbig2
   have hStr:=builderString0_c bx q2.1
   refine am_ (R_ (M_ O (N_ O (F_ O (o_ O (bi_ [0,0] O O (hLen) (o_ O (bz_ O O (T_ (ap_ O O (as_ (al_ (R_ (M_ O (N_ O (F_ O (o_ O (bi_ [0,0] O O (hStr) ?_))))))))))))))))))
   refine E_ O (E_ O (T_ (ar_ (jq_ret2 O O O [] O (fun K h=>by rw [e0] at h; exact h)))))
  ·have hStr:=builderString_c bx q2.1 q2.2 (progT p) (by omega) (by omega)
   refine am_ (R_ (M_ O (N_ O (F_ O (o_ O (bi_ [0,0] O O (hLen) (Ws ?_)))))))
   refine al_ (R_ (M_ O (N_ O (F_ O (o_ O (bi_ [0,0] O O (hStr) ?_))))))
   refine E_ O (E_ O (T_ (ar_ (jq_ret2 O O O [] O (fun K h=>by rw [e0] at h; exact h)))))
end Go.Proofs.YtalkkcfojplmdaaGreatDoor
end
section
namespace Go.Proofs.YtalkkcfojplmdaaGreatDoor
open Go.Vc
attribute [local irreducible] JL JC JQ OpWp Con ConN HOk
set_option maxHeartbeats 4000000
abbrev Gm:=List (ByteArray × ByteArray)
def allM (G:Gm) (h s:ByteArray):Bool:=!(aget G s).isSome || decide ((aget G s).getD ⟨#[]⟩=h)
def frq (a:ByteArray→Bool) (t:T):Bool:=!decide (t.kind=3) || a t.name
def freeG (a:ByteArray→Bool):T→Bool
 | .nu _=>true
 | .nm _=>true
 | .ix s t=>a s && freeG a t
 | .bn _ x y=>freeG a x && freeG a y
theorem freeG_eq (a:ByteArray→Bool) (t:T):freeG a t=(frq a t && t.args.all (freeG a)):=by cases t <;> simp [freeG,frq,T.kind,T.name,T.args]
theorem freeG_B (sh:List Shd) (h:ByteArray):∀ t,freeG (allowB sh h) t=freeB sh h t
 | .nu _=>rfl
 | .nm _=>rfl
 | .ix s t=>by rw [freeG,freeB,freeG_B sh h t]
 | .bn _ x y=>by rw [freeG,freeB,freeG_B sh h x,freeG_B sh h y]
mutual
def Sm.lkg (al:ByteArray→ByteArray→Bool) (h:ByteArray):Sm→Bool
 | .mk k nm i v _ _ t e=>(!decide (k=2) || al h nm) && (i ++ v).all (freeG (al h)) && (!decide (k=5) || decide (h=⟨#[]⟩)) && Sm.lkgs al (if k=5 then nm else h) t && Sm.lkgs al (if k=5 then nm else h) e
def Sm.lkgs (al:ByteArray→ByteArray→Bool) (h:ByteArray):List Sm→Bool
 | []=>true
 | s :: l=>s.lkg al h && Sm.lkgs al h l
end
theorem lkg_eq (al:ByteArray→ByteArray→Bool) (h:ByteArray) (s:Sm):s.lkg al h=((!decide (s.kind=2) || al h s.name) && (s.index ++ s.value).all (freeG (al h)) && (!decide (s.kind=5) || decide (h=⟨#[]⟩)) && Sm.lkgs al (if s.kind=5 then s.name else h) s.thn && Sm.lkgs al (if s.kind=5 then s.name else h) s.els):=by cases s; rfl
theorem Sm.lkgs_all (al:ByteArray→ByteArray→Bool) (h:ByteArray):∀ l:List Sm,Sm.lkgs al h l=l.all (Sm.lkg al h)
 | []=>rfl
 | s :: l=>by rw [Sm.lkgs,Sm.lkgs_all al h l,List.all_cons]
theorem lkgs_B {al:ByteArray→ByteArray→Bool} {sh:List Shd} (ha:∀ h s,al h s=allowB sh h s):∀ l:List Sm,∀ h,Sm.lkgs al h l=Sm.lcks sh h l:=by
 have e:al=allowB sh:=funext (fun h=>funext (fun s=>ha h s))
 subst e
 refine Sms.ind (fun l ih h=>?_)
 rw [Sm.lkgs_all,Sm.lcks_all]
 refine all_cong (fun s hs=>?_)
 obtain ⟨i1,i2⟩:=ih s hs
 rw [lkg_eq,lck_eq,i1,i2,show freeG (allowB sh h)=freeB sh h from funext (freeG_B sh h)]
 cases (!decide (s.kind=2) || allowB sh h s.name) <;> cases (s.index ++ s.value).all (freeB sh h) <;> cases (!decide (s.kind=5) || decide (h=⟨#[]⟩)) <;> simp
def guardM (sh:List Shd):Gm:=fillF [] (sh.map (fun x=>(x.1,x.2.2)))
theorem guard_B {sh:List Shd} (hd:dupB (sh.map (·.1))=false) (h s:ByteArray):allM (guardM sh) h s=allowB sh h s:=by
 have e1:(sh.map (fun x=>(x.1,x.2.2))).map (·.1)=sh.map (·.1):=by simp [List.map_map,Function.comp_def]
 unfold allM guardM
 rw [fill_id (by rw [e1]; exact hd)]
 clear e1
 induction sh with
 | nil=>rfl
 | cons x sh ih =>
  rw [List.map_cons,dupB,Bool.or_eq_false_iff] at hd
  rw [List.map_cons,aget]
  have ea:allowB (x :: sh) h s=((!decide (x.1=s) || decide (x.2.2=h)) && allowB sh h s):=rfl
  rw [ea,← ih hd.2]
  by_cases hx:x.1=s
  ·rw [if_pos hx,decide_eq_true hx]
   have hn:aget (sh.map (fun x=>(x.1,x.2.2))) s=none:=by
    rw [aget_none]
    intro e he
    obtain ⟨y,hy,rfl⟩:=List.mem_map.1 he
    intro hys
    have:hasB (sh.map (·.1)) x.1=true:=hasB_iff.2 (by rw [hx,← hys]; exact List.mem_map_of_mem hy)
    rw [hd.1] at this; cases this
   rw [hn]
   simp
  ·rw [if_neg hx,decide_eq_false hx]
   simp
abbrev GdC (b:Nat) (G:Gm):Ch:=.blk b 41 [.map (mapE Value.string G)]
abbrev StC (b:Nat) (h:ByteArray):Ch:=.blk b 9 [.val (.string h)]
theorem safe1_c (bg bo br:Nat) (G:Gm) (h nm:ByteArray) (v:Bool):Con Tryz.prog 157 [Str nm,Ptr bg,Ptr bo,Ptr br] [GdC bg G,OkC bo v,StC br h] (fun K=>K (.tup []) [GdC bg G,OkC bo (v && allM G h nm),StC br h]):=by
 have e:allM G h nm=(!(aget G nm).isSome || decide ((aget G nm).getD ⟨#[]⟩=h)):=rfl
 refine con_intro Tryz.func157 O O b_ (fun c hc=>?_)
 cases v with
 | false =>
  refine Y9 ?_
  refine ai_ O O b_ (ai_ O O b_ (ai_ O O b_ ?_))
  refine Wd ?_
  exact ai_ O O b_ (o_ O (bv_ O O O (W_ 1 O (ak_ (jq_ret0S (.inr O) O (fun K h=>h) (bc_ 1 O (bc_ 0 O (bc_ 0 O sub_end))))))))
 | true =>
  rw [e]
  generalize hg:(aget G nm).isSome=g
  cases g with
  | false =>
   have hgn:(!(aget G nm).isSome)=true:=by rw [hg]; rfl
   refine Y9 ?_
   refine Zs ?_
   refine cd_ O (ah_ O O b_ (bd_ O ?_))
   exact ai_ O h_ b_ (ai_ O h_ b_ (ai_ O h_ b_ (ah_ O O b_ (bp_ O h_ O (o_ O (bp_ O O O (W_ 1 O (ak_ (jq_ret0S (.inr O) O (fun K h=>h) (bc_ 1 O (bc_ 0 O (bc_ 0 O sub_end))))))))))))
  | true =>
   have hgn:(!(aget G nm).isSome)=false:=by rw [hg]; rfl
   refine Y9 ?_
   refine Zs ?_
   refine cd_ O (ah_ O O b_ (bd_ O ?_))
   refine Z8 ?_
   exact bg_ 2 O O O O (ah_ O h_ b_ (cs_ O O (ah_ O O b_ (bv_ O h_ O (o_ O (bp_ O O O (W_ 1 O (ak_ (jq_ret0S (.inr O) O (fun K h=>h) (bc_ 1 O (bc_ 0 O (bc_ 0 O sub_end))))))))))))
abbrev UsC (bu bg bo br:Nat):Ch:=.blk bu 192 [.val (.func (.func 157) #[] #[PV bg,PV bo,PV br])]
theorem safe2_c (bu bg bo br:Nat) (G:Gm) (h:ByteArray) (x:T) (v:Bool):Con Tryz.prog 158 [.row x.row',Ptr bu] [OkC bo v,UsC bu bg bo br,GdC bg G,StC br h] (fun K=>K (.tup []) [OkC bo (v && frq (allM G h) x),UsC bu bg bo br,GdC bg G,StC br h]):=by
 have c0:Con Tryz.prog 157 ([Str x.name] ++ capS [PV bg,PV bo,PV br]) [GdC bg G,OkC bo v,StC br h] (fun K=>K (.tup []) [GdC bg G,OkC bo (v && allM G h x.name),StC br h]):=safe1_c bg bo br G h x.name v
 refine con_intro Tryz.func158 O O b_ (fun c hc=>?_)
 by_cases hk:x.kind=3
 ·have hres:(v && frq (allM G h) x)=(v && allM G h x.name):=by unfold frq; rw [decide_eq_true hk]; rfl
  refine R_ (o_ O (ci_ O (fun bx=>T_ (Yh ?_))))
  refine bn_ O O (T_ (aq_ O u_ (an_ (L_ 2 O (F_ O (L_ 0 O (o_ O (ow_callc [3,1,2] O O O O c0 (ak_ (jq_ret0S (.inr O) O (fun K h=>by rw [hres] at h; exact h) ?_))))))))))
  exact bc_ 1 O (bc_ 3 O (bc_ 0 O (bc_ 0 O sub_end)))
 ·have hres:(v && frq (allM G h) x)=v:=by unfold frq; rw [decide_eq_false hk]; cases v <;> rfl
  refine R_ (o_ O (ci_ O (fun bx=>T_ (Yh ?_))))
  exact bn_ O O (T_ (ap_ O w_ (as_ (jq_ret0S (.inr O) O (fun K h=>by rw [hres] at h; exact h) (bc_ 1 O (bc_ 1 O (bc_ 1 O (bc_ 1 O sub_end))))))))
theorem csafe_c (G:Gm):∀ l:List Sm,Sm.lnss l→∀ hd:ByteArray,Con Tryz.prog 109 [.cell (.map (mapE Value.string G)),.cell (.list (l.map Sm.row)),Str hd] [] (fun K=>K (Bl (Sm.lkgs (allM G) hd l)) []):=by
 refine Sms.ind (fun l ih hl hd=>?_)
 have e0:=Sm.lkgs_all (allM G) hd l
 refine con_intro Tryz.func109 O O b_ (fun c hc=>R_ (o_ O (cj_ O (fun bx=>o_ O (cj_ O (fun bx=>E_ O (T_ (am_ (R_ (M_ O (o_ O (br_ O (fun hlen=>M_ O (T_ (au_ ?_)))))))))))))))
 rename_i bg
 refine jc_loopS (ι:=Nat) [] (fun k=>k≤(l).length∧(l.take k).all (Sm.lkg (allM G) hd)=true) (fun k=>(16,In .i64 (k:Int)) :: [(3,.cell (.val (.pointer (some ⟨bg,0,none⟩)))),(5,.cell (.val (.pointer (some ⟨bx,0,none⟩)))),(14,.cell (.list (l.map Sm.row))),(15,In .i64 ((l.map Sm.row).length:Int))]) (fun k=>[StC bx hd,GdC bg G]) (fun k=>(l).length - k) 0 ⟨Nat.zero_le _,rfl⟩ ?_ ?_ ?_
 ·exact Wx
 ·exact Ww
 rintro k ⟨hk,hI⟩
 have eLk:((l).map Sm.row).length=(l).length:=List.length_map _
 by_cases hltk:k < (l).length
 ·have hltk2:(k:Int) < (((l).map Sm.row).length:Int):=by omega
  obtain ⟨i1,i2⟩:=ih l[k] (List.getElem_mem hltk)
  obtain ⟨z1,z2,z3,z4⟩:=Sm.lnss_mem hl l[k] (List.getElem_mem hltk)
  have e1:=lkg_eq (allM G) hd l[k]
  have hE:=exprs_c l[k] z1 z2
  generalize l[k].index ++ l[k].value=A at hE e1
  refine Zj ?_
  refine Zq ?_
  refine Yt (fun bl=>?_)
  refine R_ (o_ O (bl_ O O (fun bl=>?_)))
  refine W_ 0 O (T_ (R_ (o_ O (ow_makeFunc O (o_ O (bl_ O O (fun bl=>W_ 0 O (T_ (am_ (am_ ?_))))))))))
  rename_i bs bo
  by_cases hk2:l[k].kind=2
  ·have hk5:¬ l[k].kind=5:=by omega
   rw [decide_eq_true hk2,Bool.not_true,Bool.false_or,decide_eq_false hk5,Bool.not_false,Bool.true_or,Bool.and_true,if_neg hk5] at e1
   have c0:Con Tryz.prog 157 ([Str l[k].name] ++ capS [PV bg,PV bo,PV bx]) [GdC bg G,OkC bo true,StC bx hd] (fun K=>K (.tup []) [GdC bg G,OkC bo (allM G hd l[k].name),StC bx hd]):=safe1_c bg bo bx G hd l[k].name true
   refine an_ (F_ O (L_ 2 O (o_ O (bn_ O O (T_ (aq_ O u_ (an_ (L_ 0 O (F_ O (L_ 2 O (o_ O (ow_callc [4,1,2] O O O O c0 (T_ (am_ (R_ (A_ 4 O (o_ O (bm_ O (hE) ?_))))))))))))))))))
   refine o_ O (br_ O (fun hlen=>M_ O (T_ (au_ ?_))))
   generalize allM G hd l[k].name=z at e1 ⊢
   have eA:(A.map T.row).length=A.length:=List.length_map _
   refine jc_loopS (ι:=Nat) [] (fun j=>j≤(A).length) (fun j=>(31,In .i64 (j:Int)) :: (29,.cell (.list (A.map T.row))) :: (30,In .i64 ((A.map T.row).length:Int)) :: [(3,.cell (.val (.pointer (some ⟨bg,0,none⟩)))),(5,.cell (.val (.pointer (some ⟨bx,0,none⟩)))),(14,.cell (.list (l.map Sm.row))),(15,In .i64 ((l.map Sm.row).length:Int)),(16,In .i64 (k:Int)),(8,.cell (.val (.pointer (some ⟨bs,0,none⟩)))),(9,.cell (.val (.pointer (some ⟨bo,0,none⟩)))),(10,.cell (.val (.pointer (some ⟨bl,0,none⟩))))]) (fun j=>[UsC bl bg bo bx,OkC bo (z && (A.take j).all (freeG (allM G hd))),.blk bs 66 l[k].row',StC bx hd,GdC bg G]) (fun j=>(A).length - j) 0 (Nat.zero_le _) ?_ ?_ ?_
   ·rw [show (z && (A.take 0).all (freeG (allM G hd)))=z by simp]
    exact bc_ 3 O (bc_ 1 O (bc_ 2 O (bc_ 1 O (bc_ 0 O sub_end))))
   ·exact Ww
   rintro j hj
   have eLj:((A).map T.row).length=(A).length:=List.length_map _
   by_cases hltj:j < (A).length
   ·have hltj2:(j:Int) < (((A).map T.row).length:Int):=by omega
    have hP:=parts3_c 158 [PV bl] rfl bo 4 (UsC bl bg bo bx) (GdC bg G) (StC bx hd) (frq (allM G hd)) (freeG (allM G hd)) (freeG_eq (allM G hd)) (fun x v=>safe2_c bl bg bo bx G hd x v) A[j] (z && (A.take j).all (freeG (allM G hd)))
    refine Zj ?_
    refine Zy ?_
    refine Yt (fun bl=>?_)
    refine an_ (A_ 0 O ?_)
    refine o_ O (ow_makeFunc O (o_ O (bi_ [2,1,3,2] O O hP (ak_ (Zx ?_)))))
    refine jq_againS (i:=j) (j+1) hltj g_ ?_ ?_
    ·rw [all_step hltj]
     exact bc_ 1 O (bc_ 0 O (bc_ 3 O (bc_ 1 O (bc_ 0 O sub_end))))
    ·exact Ww
   ·have hltj2:¬ (j:Int) < (((A).map T.row).length:Int):=by omega
    rw [List.take_of_length_le (by omega)]
    generalize (z && A.all (freeG (allM G hd)))=z0 at e1 ⊢
    have c1:=i1 z3 hd
    have c2:=i2 z4 hd
    cases z0 with
    | false =>
     have hres:Sm.lkgs (allM G) hd l=false:=by rw [e0]; exact all_no hltk (by rw [e1]; rfl)
     refine R_ (o_ O (Zl ?_))
     refine YU ?_
     refine Yj ?_
     refine M_ O (Zd ?_)
     refine ai_ O O b_ ?_
     refine ai_ O O b_ (o_ O (bp_ O O O (M_ O (Zd ?_))))
     refine Z5 ?_
     refine ZK ?_
     exact WT
    | true =>
     rw [Bool.true_and] at e1
     cases b1:Sm.lkgs (allM G) hd l[k].thn with
     | false =>
      rw [b1] at c1
      have hres:Sm.lkgs (allM G) hd l=false:=by rw [e0]; exact all_no hltk (by rw [e1,b1]; rfl)
      refine R_ (o_ O (Zl ?_))
      refine YU ?_
      refine Yj ?_
      refine ZE ?_
      refine Zs ?_
      refine bm_ O (c1) ?_
      refine ZQ ?_
      refine M_ O (Zd ?_)
      refine Z5 ?_
      refine ZK ?_
      exact WT
     | true =>
      rw [b1] at c1
      cases b2:Sm.lkgs (allM G) hd l[k].els with
      | false =>
       rw [b2] at c2
       have hres:Sm.lkgs (allM G) hd l=false:=by rw [e0]; exact all_no hltk (by rw [e1,b1,b2]; rfl)
       refine R_ (o_ O (Zl ?_))
       refine YU ?_
       refine Yj ?_
       refine ZE ?_
       refine Zs ?_
       refine bm_ O (c1) ?_
       refine ZQ ?_
       refine ZE ?_
       refine Zs ?_
       refine bm_ O (c2) (ZQ ?_)
       refine ZK ?_
       exact WT
      | true =>
       rw [b2] at c2
       refine R_ (o_ O (Zl ?_))
       refine YU ?_
       refine Yj ?_
       refine ZE ?_
       refine Zs ?_
       refine bm_ O (c1) ?_
       refine ZQ ?_
       refine ZE ?_
       refine Zs ?_
       refine bm_ O (c2) (ZQ ?_)
       refine T_ (ap_ O O (as_ (ay_ (al_ (an_ ?_)))))
       refine Wr ?_
       refine ak_ (jq_againS (i:=k) (k+1) ⟨hltk,all_snoc hltk hI (by rw [e1,b1,b2]; rfl)⟩ g_ ?_ ?_)
       ·exact bc_ 3 O (bc_ 3 O sub_end)
       ·exact Ww
  rw [decide_eq_false hk2,Bool.not_false,Bool.true_or] at e1
  by_cases hk5:l[k].kind=5
  ·rw [decide_eq_true hk5,Bool.not_true,Bool.false_or,if_pos hk5] at e1
   refine an_ (F_ O (L_ 2 O (o_ O (bn_ O O (T_ (ap_ O w_ (as_ (al_ (am_ (R_ (A_ 2 O (o_ O (bm_ O (hE) (o_ O (br_ O (fun hlen=>M_ O (T_ (au_ ?_))))))))))))))))))
   have eA:(A.map T.row).length=A.length:=List.length_map _
   refine jc_loopS (ι:=Nat) [] (fun j=>j≤(A).length) (fun j=>(31,In .i64 (j:Int)) :: (29,.cell (.list (A.map T.row))) :: (30,In .i64 ((A.map T.row).length:Int)) :: [(3,.cell (.val (.pointer (some ⟨bg,0,none⟩)))),(5,.cell (.val (.pointer (some ⟨bx,0,none⟩)))),(14,.cell (.list (l.map Sm.row))),(15,In .i64 ((l.map Sm.row).length:Int)),(16,In .i64 (k:Int)),(8,.cell (.val (.pointer (some ⟨bs,0,none⟩)))),(9,.cell (.val (.pointer (some ⟨bo,0,none⟩)))),(10,.cell (.val (.pointer (some ⟨bl,0,none⟩))))]) (fun j=>[UsC bl bg bo bx,OkC bo (true && (A.take j).all (freeG (allM G hd))),.blk bs 66 l[k].row',StC bx hd,GdC bg G]) (fun j=>(A).length - j) 0 (Nat.zero_le _) ?_ ?_ ?_
   ·rw [show (true && (A.take 0).all (freeG (allM G hd)))=true by simp]
    refine Zp ?_
    exact Wy
   ·exact Ww
   rintro j hj
   have eLj:((A).map T.row).length=(A).length:=List.length_map _
   by_cases hltj:j < (A).length
   ·have hltj2:(j:Int) < (((A).map T.row).length:Int):=by omega
    have hP:=parts3_c 158 [PV bl] rfl bo 4 (UsC bl bg bo bx) (GdC bg G) (StC bx hd) (frq (allM G hd)) (freeG (allM G hd)) (freeG_eq (allM G hd)) (fun x v=>safe2_c bl bg bo bx G hd x v) A[j] (true && (A.take j).all (freeG (allM G hd)))
    refine Zj ?_
    refine Zy ?_
    refine Yt (fun bl=>?_)
    refine an_ (A_ 0 O ?_)
    refine o_ O (ow_makeFunc O (o_ O (bi_ [2,1,3,2] O O hP (ak_ (Zx ?_)))))
    refine jq_againS (i:=j) (j+1) hltj g_ ?_ ?_
    ·rw [all_step hltj]
     exact bc_ 1 O (bc_ 0 O (bc_ 3 O (bc_ 1 O (bc_ 0 O sub_end))))
    ·exact Ww
   ·have hltj2:¬ (j:Int) < (((A).map T.row).length:Int):=by omega
    rw [List.take_of_length_le (by omega)]
    generalize (true && A.all (freeG (allM G hd)))=z0 at e1 ⊢
    by_cases hh:hd=⟨#[]⟩
    ·have hh':¬ ¬ hd=⟨#[]⟩:=fun h=>h hh
     rw [decide_eq_true hh,Bool.and_true] at e1
     have c1:=i1 z3 l[k].name
     have c2:=i2 z4 l[k].name
     cases z0 with
     | false =>
      have hres:Sm.lkgs (allM G) hd l=false:=by rw [e0]; exact all_no hltk (by rw [e1]; rfl)
      refine R_ (o_ O (Zl ?_))
      refine YU ?_
      refine F_ O (L_ 2 O (o_ O (bn_ O O (T_ (aq_ O u_ (R_ (L_ 1 O (M_ O (ai_ O O b_ (ai_ O O b_ (o_ O (bv_ O O O (W_ 1 O (T_ (an_ (F_ O (L_ 2 O ?_)))))))))))))))))
      refine E_ O (T_ (R_ (L_ 0 O (o_ O (cd_ O (M_ O (Zd ?_)))))))
      refine Z5 ?_
      refine M_ O (ai_ O O b_ (ai_ O O b_ ?_))
      refine Zd ?_
      refine Wc ?_
      refine Zr ?_
      refine aw_ ?_
      exact WU
     | true =>
      rw [Bool.true_and] at e1
      cases b1:Sm.lkgs (allM G) l[k].name l[k].thn with
      | false =>
       rw [b1] at c1
       have hres:Sm.lkgs (allM G) hd l=false:=by rw [e0]; exact all_no hltk (by rw [e1,b1]; rfl)
       refine R_ (o_ O (Zl ?_))
       refine YU ?_
       refine Yw ?_
       refine T_ (an_ (F_ O (L_ 2 O ?_)))
       refine E_ O (T_ (R_ (L_ 0 O (o_ O (Yi ?_)))))
       refine o_ O (bv_ O w_ O (M_ O (ai_ O O b_ (ai_ O O b_ ?_))))
       refine Zd ?_
       refine Wc ?_
       refine Zr ?_
       refine aw_ ?_
       exact WU
      | true =>
       rw [b1] at c1
       cases b2:Sm.lkgs (allM G) l[k].name l[k].els with
       | false =>
        rw [b2] at c2
        have hres:Sm.lkgs (allM G) hd l=false:=by rw [e0]; exact all_no hltk (by rw [e1,b1,b2]; rfl)
        refine R_ (o_ O (Zl ?_))
        refine YU ?_
        refine Yw ?_
        refine T_ (an_ (F_ O (L_ 2 O ?_)))
        refine E_ O (T_ (R_ (L_ 0 O (o_ O (Yi ?_)))))
        refine o_ O (bv_ O w_ O (M_ O (ah_ O O b_ (bg_ 4 O O O O (ah_ O O b_ (bf_ O O O b_ ?_))))))
        refine ah_ O O b_ (bg_ 2 O O O O (Zs ?_))
        refine bm_ O (c2) (ZQ ?_)
        refine T_ (aq_ O O (Zr ?_))
        refine aw_ ?_
        exact WU
       | true =>
        rw [b2] at c2
        refine R_ (o_ O (Zl ?_))
        refine YU ?_
        refine Yw ?_
        refine T_ (an_ (F_ O (L_ 2 O ?_)))
        refine E_ O (T_ (R_ (L_ 0 O (o_ O (Yi ?_)))))
        refine o_ O (bv_ O w_ O (M_ O (ah_ O O b_ (bg_ 4 O O O O (ah_ O O b_ (bf_ O O O b_ ?_))))))
        refine ah_ O O b_ (bg_ 2 O O O O (Zs ?_))
        refine bm_ O (c2) (ZQ ?_)
        refine T_ (ap_ O O (as_ (Zx ?_)))
        refine jq_againS (i:=k) (k+1) ⟨hltk,all_snoc hltk hI (by rw [e1,b1,b2]; rfl)⟩ g_ ?_ ?_
        ·exact bc_ 3 O (bc_ 3 O sub_end)
        ·exact Ww
    ·rw [decide_eq_false hh,Bool.and_false,Bool.false_and,Bool.false_and] at e1
     have hres:Sm.lkgs (allM G) hd l=false:=by rw [e0]; exact all_no hltk e1
     cases z0 with
     | false =>
      refine R_ (o_ O (Zl ?_))
      refine YU ?_
      refine F_ O (L_ 2 O (o_ O (bn_ O O (T_ (aq_ O u_ (R_ (L_ 1 O (M_ O (ai_ O O b_ (ai_ O O b_ (o_ O (bv_ O O O (W_ 1 O (T_ (an_ (F_ O (L_ 2 O ?_)))))))))))))))))
      refine E_ O (T_ (R_ (L_ 0 O (o_ O (cd_ O (M_ O (Zd ?_)))))))
      refine Z5 ?_
      refine M_ O (ai_ O O b_ (ai_ O O b_ ?_))
      refine Zd ?_
      refine Wc ?_
      refine Zr ?_
      refine aw_ ?_
      exact WU
     | true =>
      refine R_ (o_ O (Zl ?_))
      refine YU ?_
      refine Yw ?_
      refine T_ (an_ (F_ O (L_ 2 O ?_)))
      refine E_ O (T_ (R_ (L_ 0 O (o_ O (ce_ O (M_ O (Yg ?_)))))))
      refine Yg ?_
      refine o_ O (bp_ O u_ O (M_ O (ai_ O O b_ (ai_ O O b_ ?_))))
      refine Zd ?_
      refine Wc ?_
      refine Zr ?_
      refine aw_ ?_
      exact WU
  ·rw [decide_eq_false hk5,Bool.not_false,Bool.true_or,Bool.and_true,if_neg hk5] at e1
   refine an_ (F_ O (L_ 2 O (o_ O (bn_ O O (T_ (ap_ O w_ (as_ (al_ (am_ (R_ (A_ 2 O (o_ O (bm_ O (hE) (o_ O (br_ O (fun hlen=>M_ O (T_ (au_ ?_))))))))))))))))))
   have eA:(A.map T.row).length=A.length:=List.length_map _
   refine jc_loopS (ι:=Nat) [] (fun j=>j≤(A).length) (fun j=>(31,In .i64 (j:Int)) :: (29,.cell (.list (A.map T.row))) :: (30,In .i64 ((A.map T.row).length:Int)) :: [(3,.cell (.val (.pointer (some ⟨bg,0,none⟩)))),(5,.cell (.val (.pointer (some ⟨bx,0,none⟩)))),(14,.cell (.list (l.map Sm.row))),(15,In .i64 ((l.map Sm.row).length:Int)),(16,In .i64 (k:Int)),(8,.cell (.val (.pointer (some ⟨bs,0,none⟩)))),(9,.cell (.val (.pointer (some ⟨bo,0,none⟩)))),(10,.cell (.val (.pointer (some ⟨bl,0,none⟩))))]) (fun j=>[UsC bl bg bo bx,OkC bo (true && (A.take j).all (freeG (allM G hd))),.blk bs 66 l[k].row',StC bx hd,GdC bg G]) (fun j=>(A).length - j) 0 (Nat.zero_le _) ?_ ?_ ?_
   ·rw [show (true && (A.take 0).all (freeG (allM G hd)))=true by simp]
    refine Zp ?_
    exact Wy
   ·exact Ww
   rintro j hj
   have eLj:((A).map T.row).length=(A).length:=List.length_map _
   by_cases hltj:j < (A).length
   ·have hltj2:(j:Int) < (((A).map T.row).length:Int):=by omega
    have hP:=parts3_c 158 [PV bl] rfl bo 4 (UsC bl bg bo bx) (GdC bg G) (StC bx hd) (frq (allM G hd)) (freeG (allM G hd)) (freeG_eq (allM G hd)) (fun x v=>safe2_c bl bg bo bx G hd x v) A[j] (true && (A.take j).all (freeG (allM G hd)))
    refine Zj ?_
    refine Zy ?_
    refine Yt (fun bl=>?_)
    refine an_ (A_ 0 O ?_)
    refine o_ O (ow_makeFunc O (o_ O (bi_ [2,1,3,2] O O hP (ak_ (Zx ?_)))))
    refine jq_againS (i:=j) (j+1) hltj g_ ?_ ?_
    ·rw [all_step hltj]
     exact bc_ 1 O (bc_ 0 O (bc_ 3 O (bc_ 1 O (bc_ 0 O sub_end))))
    ·exact Ww
   ·have hltj2:¬ (j:Int) < (((A).map T.row).length:Int):=by omega
    rw [List.take_of_length_le (by omega)]
    generalize (true && A.all (freeG (allM G hd)))=z0 at e1 ⊢
    have c1:=i1 z3 hd
    have c2:=i2 z4 hd
    cases z0 with
    | false =>
     have hres:Sm.lkgs (allM G) hd l=false:=by rw [e0]; exact all_no hltk (by rw [e1]; rfl)
     refine R_ (o_ O (Zl ?_))
     refine YU ?_
     refine Yj ?_
     refine M_ O (Zd ?_)
     refine ai_ O O b_ ?_
     refine ai_ O O b_ (o_ O (bp_ O O O (M_ O (Zd ?_))))
     refine Z5 ?_
     refine ZK ?_
     exact WT
    | true =>
     rw [Bool.true_and] at e1
     cases b1:Sm.lkgs (allM G) hd l[k].thn with
     | false =>
      rw [b1] at c1
      have hres:Sm.lkgs (allM G) hd l=false:=by rw [e0]; exact all_no hltk (by rw [e1,b1]; rfl)
      refine R_ (o_ O (Zl ?_))
      refine YU ?_
      refine Yj ?_
      refine ZE ?_
      refine Zs ?_
      refine bm_ O (c1) ?_
      refine ZQ ?_
      refine M_ O (Zd ?_)
      refine Z5 ?_
      refine ZK ?_
      exact WT
     | true =>
      rw [b1] at c1
      cases b2:Sm.lkgs (allM G) hd l[k].els with
      | false =>
       rw [b2] at c2
       have hres:Sm.lkgs (allM G) hd l=false:=by rw [e0]; exact all_no hltk (by rw [e1,b1,b2]; rfl)
       refine R_ (o_ O (Zl ?_))
       refine YU ?_
       refine Yj ?_
       refine ZE ?_
       refine Zs ?_
       refine bm_ O (c1) ?_
       refine ZQ ?_
       refine ZE ?_
       refine Zs ?_
       refine bm_ O (c2) (ZQ ?_)
       refine ZK ?_
       exact WT
      | true =>
       rw [b2] at c2
       refine R_ (o_ O (Zl ?_))
       refine YU ?_
       refine Yj ?_
       refine ZE ?_
       refine Zs ?_
       refine bm_ O (c1) ?_
       refine ZQ ?_
       refine ZE ?_
       refine Zs ?_
       refine bm_ O (c2) (ZQ ?_)
       refine T_ (ap_ O O (as_ (ay_ (al_ (an_ ?_)))))
       refine Wr ?_
       refine ak_ (jq_againS (i:=k) (k+1) ⟨hltk,all_snoc hltk hI (by rw [e1,b1,b2]; rfl)⟩ g_ ?_ ?_)
       ·exact bc_ 3 O (bc_ 3 O sub_end)
       ·exact Ww
 ·have hltk2:¬ (k:Int) < (((l).map Sm.row).length:Int):=by omega
  rw [List.take_of_length_le (by omega)] at hI
  have hres:Sm.lkgs (allM G) hd l=true:=by rw [e0]; exact hI
  refine R_ (o_ O (Zl ?_))
  exact WJ
theorem cheld_c (p:Pg) (l:List Sm) (hl:Sm.lnss l) (hd:ByteArray):Con Tryz.prog 57 [.row p.row,.cell (.list (l.map Sm.row)),Str hd] [] (fun K=>K (Bl (Sm.lkgs (allM (guardM p.shared)) hd l)) []):=by
 have hS:=csafe_c (guardM p.shared) l hl hd
 refine con_intro Tryz.func57 O O b_ (fun c hc=>Wv (fun bx=>?_))
 refine R_ (o_ O (ow_makeMapE ByteArray ByteArray Value.string (fun bm hbm=>E_ O (T_ (am_ (R_ (F_ O (L_ 1 O (o_ O (br_ O (fun hlen=>M_ O (T_ ?_))))))))))))
 refine au_ ?_
 refine jc_loopS (ι:=Nat) [] (fun k=>k≤(p.shared).length) (fun k=>(14,In .i64 (k:Int)) :: [(1,.cell (.list (l.map Sm.row))),(2,Str hd),(7,.cell (.val (.map (some bm)))),(12,.cell (.list (p.shared.map ShRow))),(13,In .i64 ((p.shared.map ShRow).length:Int))]) (fun k=>[.mapc bm (mapE Value.string (fillF [] ((p.shared.take k).map (fun x=>(x.1,x.2.2)))))]) (fun k=>(p.shared).length - k) 0 (Nat.zero_le _) ?_ ?_ ?_
 ·exact Wy
 ·exact Ww
 rintro k hk
 have eLk:((p.shared).map ShRow).length=(p.shared).length:=List.length_map _
 by_cases hltk:k < (p.shared).length
 ·have hltk2:(k:Int) < (((p.shared).map ShRow).length:Int):=by omega
  refine Zj ?_
  refine Zm (fun bl=>?_)
  refine an_ (M_ O ?_)
  refine F_ O (F_ O (L_ 0 O (F_ O (L_ 0 O (ag_ (ow_mapPut (κ:=ByteArray) (vv:=Value.string) (M:=fillF [] ((p.shared.take k).map (fun x=>(x.1,x.2.2)))) 1 O O O O O (ak_ (Zx ?_))))))))
  refine jq_againS (i:=k) (k+1) hltk g_ ?_ ?_
  ·rw [List.take_succ_eq_append_getElem hltk,List.map_append,List.map_cons,List.map_nil,fill_snoc]
   exact Wy
  ·exact Ww
 ·have hltk2:¬ (k:Int) < (((p.shared).map ShRow).length:Int):=by omega
  rw [List.take_of_length_le (by omega)]
  refine R_ (o_ O (Zl ?_))
  refine al_ (R_ (M_ O (M_ O (M_ O (jl_freezeM 25 0 O O hbm (o_ O (bm_ O (hS) ?_)))))))
  exact E_ O (T_ (ar_ (jq_ret1S O O (fun K h=>h) sub_end)))
theorem lnss_ls:∀ (n:Nat) {l:List Sm},Sm.lnss l→lsS n l
 | 0,_,_=>trivial
 | n+1,l,h=>fun s hs=>by
  obtain ⟨h1,h2,h3,h4⟩:=Sm.lnss_mem h s hs
  exact ⟨h1,h2,lnss_ls n h3,lnss_ls n h4⟩
theorem cprog1_c (t:Tk) (hz:Sm.szs t.body≤1000000):Con Tryz.prog 54 [.row t.row] [] (fun K=>K (Bl (!labF t)) []):=by
 have hL:=clabelled_c t hz
 exact con_intro Tryz.func54 O O b_ (fun c hc=>R_ (o_ O (ci_ O (fun bx=>E_ O (T_ (R_ (A_ 0 O (o_ O (bm_ O (hL) (o_ O (cd_ O (E_ O (T_ (ar_ (jq_ret1S O O (fun K h=>h) sub_end)))))))))))))))
theorem cprog2_c (p:Pg) (bp:Nat) (t:Tk) (hl:Sm.lnss t.body):Con Tryz.prog 56 [.row t.row,Ptr bp] [.blk bp 31 p.row] (fun K=>K (Bl (!Sm.lkgs (allM (guardM p.shared)) ⟨#[]⟩ t.body)) [.blk bp 31 p.row]):=by
 have hL:=cheld_c p t.body hl ⟨#[]⟩
 exact con_intro Tryz.func56 O O b_ (fun c hc=>R_ (o_ O (ci_ O (fun bx=>E_ O (T_ (R_ (A_ 1 O (F_ O (L_ 0 O (o_ O (bm_ O (hL) (o_ O (cd_ O (E_ O (T_ (ar_ (jq_ret1S O O (fun K h=>h) (bc_ 1 O sub_end))))))))))))))))))
theorem cprog3_c (t:Tk):Con Tryz.prog 58 [.row t.row] [] (fun K=>K (Bl (!decide (wAll 20 t.body 0≤2000))) []):=by
 have hW:=cWeight_c t.body
 have e:(!decide (wAll 20 t.body 0≤2000))=decide (wAll 20 t.body 0 > 2000):=by
  rw [Bool.eq_iff_iff]
  simp only [Bool.not_eq_true',decide_eq_false_iff_not,decide_eq_true_eq]
  omega
 rw [e]
 exact con_intro Tryz.func58 O O b_ (fun c hc=>R_ (o_ O (ci_ O (fun bx=>E_ O (T_ (R_ (F_ O (L_ 0 O (o_ O (bm_ O (hW) (o_ O (bz_ O O (E_ O (T_ (ar_ (jq_ret1S O O (fun K h=>h) sub_end))))))))))))))))
theorem sh_nodup {p:Pg} (h1:limB p=true) (h2:namB p=true):dupB (p.shared.map (·.1))=false:=by
 unfold limB at h1
 simp only [Bool.and_eq_true,decide_eq_true_eq] at h1
 unfold namB at h2
 simp only [Bool.and_eq_true] at h2
 have hpos:0 < p.tasks.length:=by omega
 have h3:=List.all_eq_true.1 h2.2 p.tasks[0] (List.getElem_mem hpos)
 unfold namT at h3
 simp only [Bool.and_eq_true,Bool.not_eq_true'] at h3
 have h4:=dupB_nodup.1 h3.1.2
 rw [dupB_nodup]
 exact (List.nodup_append.1 (List.nodup_append.1 h4).2.1).2.1
theorem cProgram5_c (p:Pg) (hp:PgOk p):Con Tryz.prog 20 [.row p.row] [] (fun K=>K (In .i64 (ckF p)) []):=by
 have hP:=pProg_c p hp.sz (fun t ht=>lnss_ls 20 (hp.ls t ht))
 have hL:=climits_c p hp.sz
 have hN:=called_c p hp
 have hR:=cranged_c p hp
 have hB:=hasTk0_c 54 [] rfl (fun t=>!labF t) p.tasks (fun t ht=>cprog1_c t (hp.sz.tasks t ht).body)
 have hK:=fun b=>hasTk1_c 56 [PV b] rfl (.blk b 31 p.row) (fun t=>!Sm.lkgs (allM (guardM p.shared)) ⟨#[]⟩ t.body) p.tasks (fun t ht=>cprog2_c p b t (hp.ls t ht))
 have hW:=hasTk0_c 58 [] rfl (fun t=>!decide (wAll 20 t.body 0≤2000)) p.tasks (fun t ht=>cprog3_c t)
 have nB:=not_any_not labF p.tasks
 have nK:=not_any_not (fun t:Tk=>Sm.lkgs (allM (guardM p.shared)) ⟨#[]⟩ t.body) p.tasks
 have nW:=not_any_not (fun t:Tk=>decide (wAll 20 t.body 0≤2000)) p.tasks
 generalize p.tasks.any (fun t=>!labF t)=xB at hB nB
 generalize p.tasks.any (fun t=>!Sm.lkgs (allM (guardM p.shared)) ⟨#[]⟩ t.body)=xK at hK nK
 generalize p.tasks.any (fun t=>!decide (wAll 20 t.body 0≤2000))=xW at hW nW
 refine con_intro Tryz.func20 O O b_ (fun c hc=>?_)
 by_cases h0:(progF p).2≠0
 ·have hres:ckF p=(progF p).2:=by unfold ckF; rw [if_pos h0]
  refine ZD (fun bx=>?_)
  refine A_ 0 O (o_ O (ZR ?_))
  exact o_ O (bx_ O O (T_ (aq_ O u_ (R_ (M_ O (E_ O (T_ (ar_ (aw_ (jq_ret1S O O (fun K h=>by rw [hres] at h; exact h) sub_end))))))))))
 cases h1:limB p with
 | false =>
  have hres:ckF p=4:=by unfold ckF; rw [if_neg h0,if_pos h1]
  rw [h1] at hL
  refine ZD (fun bx=>?_)
  refine A_ 0 O (o_ O (ZR ?_))
  refine Yd ?_
  refine aq_ O O (R_ (E_ O (T_ ?_)))
  exact ar_ (az_ (aw_ (jq_ret1S O O (fun K h=>by rw [hres] at h; exact h) sub_end)))
 | true =>
  rw [h1] at hL
  cases h2:namB p with
  | false =>
   have hres:ckF p=2:=by unfold ckF; rw [if_neg h0,if_neg (by rw [h1]; decide),if_pos h2]
   rw [h2] at hN
   refine ZD (fun bx=>?_)
   refine A_ 0 O (o_ O (ZR ?_))
   refine Yd ?_
   refine ap_ O O (R_ (A_ 0 O (o_ O (bm_ O (hN) ?_))))
   refine o_ O (cd_ O (E_ O (ZK ?_)))
   exact az_ (aw_ (jq_ret1S O O (fun K h=>by rw [hres] at h; exact h) sub_end))
  | true =>
   rw [h2] at hN
   rw [ranB_1 h2] at hR
   cases h3:ranB p with
   | false =>
    have hres:ckF p=3:=by unfold ckF; rw [if_neg h0,if_neg (by rw [h1]; decide),if_neg (by rw [h2]; decide),if_pos h3]
    rw [h3] at hR
    refine ZD (fun bx=>?_)
    refine A_ 0 O (o_ O (ZR ?_))
    refine Yd ?_
    refine ap_ O O (R_ (A_ 0 O (o_ O (bm_ O (hN) ?_))))
    refine YP ?_
    refine ZK ?_
    refine az_ ?_
    exact WK
   | true =>
    rw [h3] at hR
    have h5:p.tasks.all (fun t=>Sm.lcks p.shared ⟨#[]⟩ t.body)=p.tasks.all (fun t=>Sm.lkgs (allM (guardM p.shared)) ⟨#[]⟩ t.body):=all_cong (fun t _=>(lkgs_B (guard_B (sh_nodup h1 h2)) t.body ⟨#[]⟩).symm)
    cases xB with
    | true =>
     have hres:ckF p=5:=by unfold ckF; rw [if_neg h0,if_neg (by rw [h1]; decide),if_neg (by rw [h2]; decide),if_neg (by rw [h3]; decide),if_pos (by rw [← nB]; rfl)]
     skip
     refine ZD (fun bx=>?_)
     refine A_ 0 O (o_ O (ZR ?_))
     refine Yd ?_
     refine ap_ O O (R_ (A_ 0 O (o_ O (bm_ O (hN) ?_))))
     refine YP ?_
     refine T_ (ap_ O O (Yh ?_))
     refine bm_ O (hB) (E_ O ?_)
     refine ZK ?_
     exact az_ (aw_ (jq_ret1S O O (fun K h=>by rw [hres] at h; exact h) sub_end))
    | false =>
     skip
     cases xK with
     | true =>
      have hres:ckF p=14:=by unfold ckF; rw [if_neg h0,if_neg (by rw [h1]; decide),if_neg (by rw [h2]; decide),if_neg (by rw [h3]; decide),if_neg (by rw [← nB]; decide),if_pos (by rw [h5,← nK]; rfl)]
      skip
      refine ZD (fun bx=>?_)
      refine A_ 0 O (o_ O (ZR ?_))
      refine Yd ?_
      refine ap_ O O (R_ (A_ 0 O (o_ O (bm_ O (hN) ?_))))
      refine YP ?_
      refine T_ (ap_ O O (Yh ?_))
      refine bm_ O (hB) (E_ O ?_)
      refine T_ (ap_ O O (Yh ?_))
      refine ow_makeFunc O (o_ O (bi_ [0] O O (hK _) (E_ O (ZK ?_))))
      refine az_ (aw_ ?_)
      exact WU
     | false =>
      skip
      cases xW with
      | true =>
       have hres:ckF p=7:=by unfold ckF; rw [if_neg h0,if_neg (by rw [h1]; decide),if_neg (by rw [h2]; decide),if_neg (by rw [h3]; decide),if_neg (by rw [← nB]; decide),if_neg (by rw [h5,← nK]; decide),if_pos (by rw [← nW]; rfl)]
       skip
       refine ZD (fun bx=>?_)
       refine A_ 0 O (o_ O (ZR ?_))
       refine Yd ?_
       refine ap_ O O (R_ (A_ 0 O (o_ O (bm_ O (hN) ?_))))
       refine YP ?_
       refine T_ (ap_ O O (Yh ?_))
       refine bm_ O (hB) (E_ O ?_)
       refine T_ (ap_ O O (Yh ?_))
       refine ow_makeFunc O (o_ O (bi_ [0] O O (hK _) (E_ O (T_ (ap_ O O (Yh ?_))))))
       refine bm_ O (hW) (E_ O (T_ ?_))
       exact aq_ O O (R_ (E_ O (T_ (ar_ (az_ (aw_ (jq_ret1S O O (fun K h=>by rw [hres] at h; exact h) sub_end)))))))
      | false =>
       skip
       have hres:ckF p=0:=by unfold ckF; rw [if_neg h0,if_neg (by rw [h1]; decide),if_neg (by rw [h2]; decide),if_neg (by rw [h3]; decide),if_neg (by rw [← nB]; decide),if_neg (by rw [h5,← nK]; decide),if_neg (by rw [← nW]; decide)]
       refine ZD (fun bx=>?_)
       refine A_ 0 O (o_ O (ZR ?_))
       refine Yd ?_
       refine ap_ O O (R_ (A_ 0 O (o_ O (bm_ O (hN) ?_))))
       refine YP ?_
       refine T_ (ap_ O O (Yh ?_))
       refine bm_ O (hB) (E_ O ?_)
       refine T_ (ap_ O O (Yh ?_))
       refine ow_makeFunc O (o_ O (bi_ [0] O O (hK _) (E_ O (T_ (ap_ O O (Yh ?_))))))
       refine bm_ O (hW) (E_ O (T_ ?_))
       exact ap_ O O (as_ (ay_ (al_ (R_ (E_ O (T_ (ar_ (jq_ret1S O O (fun K h=>by rw [hres] at h; exact h) sub_end))))))))
end Go.Proofs.YtalkkcfojplmdaaGreatDoor
end
section
namespace Go.Proofs.YtalkkcfojplmdaaGreatDoor
open Go.Vc
set_option maxHeartbeats 1000000
theorem list_wt {n f:Nat} (h1:∀ s,fineS n s→s.wds=true→wOne f s < 1099511627776→(s.cst:Int)≤wOne f s):∀ (l:List Sm) (m:Int),0≤m→(∀ s ∈ l,fineS n s)→Sm.wdss l=true→wAll f l m < 1099511627776→m+(Sm.csts l:Int)≤wAll f l m
 | [],m,_,_,_,_=>by rw [wAll,Sm.csts]; omega
 | s :: r,m,hm,hf,hw,h=>by
  rw [wAll] at h ⊢
  rw [Sm.wdss,Bool.and_eq_true] at hw
  have b:=wOne_bd f s
  have h5:=list_wt h1 r (lim (m+wOne f s)) (lim_bd _ (by omega)).1 (fun x hx=>hf x (List.mem_cons_of_mem _ hx)) hw.2 h
  have h2:lim (m+wOne f s) < 1099511627776:=by omega
  have h3:lim (m+wOne f s)=m+wOne f s:=by unfold lim at h2 ⊢; omega
  have h4:=h1 s (hf s (List.mem_cons_self ..)) hw.1 (by omega)
  rw [Sm.csts]
  omega
theorem parts_one (x:T):1≤wPartsL [x] 20 0:=by
 have h:∀ (f:Nat) (l:List T) (n:Int),1≤n∧n≤1099511627776→1≤wPartsL l f n:=by
  intro f l
  induction l with
  | nil=>intro n h; simpa [wPartsL] using h.1
  | cons e r ih =>
   intro n h
   have:=wParts_bd f e
   refine ih _ ?_
   show 1≤lim (n+wParts e f)∧lim (n+wParts e f)≤_
   unfold lim
   omega
 have h2:1≤wParts x 20:=by rw [wParts_succ]; exact h _ _ _ (by omega)
 show 1≤lim (0+wParts x 20)
 unfold lim
 omega
theorem one_wt:∀ (n f:Nat) (s:Sm),n≤f→fineS n s→s.wds=true→wOne f s < 1099511627776→(s.cst:Int)≤wOne f s
 | 0,_,_,_,h,_,_=>h.elim
 | n+1,0,_,h,_,_,_=>by omega
 | n+1,f+1,.mk k nm i v mx lb t e,hn,h,hw,hlt=>by
  have IH:=fun l=>list_wt (n:=n) (f:=f) (fun s=>one_wt n f s (by omega)) l 0 (by omega)
  have b1:=wPartsL_bd 20 (wParts_bd 20) i 0 (by omega)
  have b2:=wPartsL_bd 20 (wParts_bd 20) v 0 (by omega)
  have b3:=wAll_bd f t 0 (by omega)
  have b4:=wAll_bd f e 0 (by omega)
  rw [wOne] at hlt ⊢
  rw [Sm.wds] at hw
  simp only [Bool.and_eq_true,decide_eq_true_eq] at hw
  obtain ⟨⟨⟨⟨⟨w1,w2⟩,_⟩,_⟩,wt⟩,we⟩:=hw
  rw [Sm.cst]
  simp only [Sm.kind,Sm.index,Sm.value,Sm.max,Sm.thn,Sm.els] at hlt ⊢
  unfold fineS at h
  simp only [Sm.kind,Sm.index,Sm.value,Sm.max,Sm.thn,Sm.els,Sm.name,Sm.label] at h
  rcases h with ⟨rfl,_⟩ | ⟨rfl,_⟩ | ⟨rfl,⟨x,rfl,_⟩,_,ht,he⟩ | ⟨rfl,⟨x,rfl,_⟩,_,_,ht,he⟩ | ⟨rfl,_,ht,he⟩
  ·simp (decide:=true) only [if_true,if_false] at hlt ⊢
   unfold lim at hlt ⊢
   omega
  ·simp (decide:=true) only [if_true,if_false] at hlt ⊢
   unfold lim at hlt ⊢
   omega
  ·simp (decide:=true) only [if_true,if_false] at hlt ⊢
   have px:=parts_one x
   have i1:=IH t ht wt
   have i2:=IH e he we
   unfold lim at hlt ⊢
   have i1:=i1 (by omega)
   have i2:=i2 (by omega)
   omega
  ·simp (decide:=true) only [if_true,if_false] at hlt ⊢
   have px:=parts_one x
   have i1:=IH t ht wt
   have hm:Max.max 0 (min mx 33)=mx:=by omega
   rw [hm] at hlt ⊢
   have hl:=lim_bd (2+wPartsL [x] 20 0+wAll f t 0) (by omega)
   generalize hL:lim (2+wPartsL [x] 20 0+wAll f t 0)=L at hlt hl ⊢
   have hpos:L≤(mx+1) * L:=by
    have:=Int.mul_nonneg w1 hl.1
    rw [Int.add_mul,Int.one_mul]
    omega
   have hlt2:2+(mx+1) * L < 1099511627776:=by unfold lim at hlt; omega
   have hL2:L=2+wPartsL [x] 20 0+wAll f t 0:=by rw [← hL]; rw [← hL] at hlt2 hpos; unfold lim at hlt2 hpos ⊢; omega
   have i1:=i1 (by omega)
   rw [show lim (2+(mx+1) * L)=2+(mx+1) * L by unfold lim; omega]
   have hle:(2+(Sm.csts t:Int))≤L:=by omega
   have h1:=Int.mul_le_mul_of_nonneg_left hle w1
   have hc:((2+mx.toNat * (2+Sm.csts t):Nat):Int)=2+mx * (2+(Sm.csts t:Int)):=by
    rw [Int.natCast_add,Int.natCast_mul,Int.toNat_of_nonneg w1,Int.natCast_add]
    rfl
   rw [hc,Int.add_mul,Int.one_mul]
   omega
  ·simp (decide:=true) only [if_true,if_false] at hlt ⊢
   have i1:=IH t ht wt
   unfold lim at hlt ⊢
   have i1:=i1 (by omega)
   omega
theorem csts_le {n f:Nat} {l:List Sm} (hn:n≤f) (hf:∀ s ∈ l,fineS n s) (hw:Sm.wdss l=true) (h:wAll f l 0 < 1099511627776):(Sm.csts l:Int)≤wAll f l 0:=by
 have:=list_wt (n:=n) (f:=f) (fun s=>one_wt n f s hn) l 0 (by omega) hf hw h
 omega
theorem roks_list {n:Nat} {vs ar rs:List ByteArray} (h1:∀ s,fineS n s→s.nms vs ar rs=true→(∀ x ∈ s.lbs isIW,1≤x∧x≤12)→s.rok (hasB ar)=true):∀ l:List Sm,(∀ s ∈ l,fineS n s)→Sm.nmss vs ar rs l=true→(∀ x ∈ Sm.lbss isIW l,1≤x∧x≤12)→Sm.roks (hasB ar) l=true
 | [],_,_,_=>rfl
 | s :: r,hf,hn,hb=>by
  rw [Sm.nmss,Bool.and_eq_true] at hn
  rw [Sm.lbss] at hb
  rw [Sm.roks,h1 s (hf s (List.mem_cons_self ..)) hn.1 (fun x hx=>hb x (List.mem_append_left _ hx)),roks_list h1 r (fun x hx=>hf x (List.mem_cons_of_mem _ hx)) hn.2 (fun x hx=>hb x (List.mem_append_right _ hx))]
  rfl
theorem rok_one {vs ar rs:List ByteArray}:∀ (n:Nat) (s:Sm),fineS n s→s.nms vs ar rs=true→(∀ x ∈ s.lbs isIW,1≤x∧x≤12)→s.rok (hasB ar)=true
 | 0,_,h,_,_=>h.elim
 | n+1,.mk k nm i v mx lb t e,h,hn,hb=>by
  have IH:=fun l=>roks_list (n:=n) (vs:=vs) (ar:=ar) (rs:=rs) (fun s=>rok_one n s) l
  rw [Sm.nms] at hn
  simp only [Bool.and_eq_true] at hn
  obtain ⟨⟨⟨⟨hk,_⟩,_⟩,nt⟩,ne⟩:=hn
  rw [Sm.lbs] at hb
  have ht2:∀ x ∈ Sm.lbss isIW t,1≤x∧x≤12:=fun x hx=>hb x (List.mem_append_left _ (List.mem_append_right _ hx))
  have he2:∀ x ∈ Sm.lbss isIW e,1≤x∧x≤12:=fun x hx=>hb x (List.mem_append_right _ hx)
  rw [Sm.rok]
  unfold fineS at h
  simp only [Sm.kind,Sm.index,Sm.value,Sm.max,Sm.thn,Sm.els,Sm.name,Sm.label] at h
  rcases h with ⟨rfl,_,x,rfl,_⟩ | ⟨rfl,_,y,x,rfl,rfl,_⟩ | ⟨rfl,⟨x,rfl,_⟩,_,ht,he⟩ | ⟨rfl,⟨x,rfl,_⟩,_,_,ht,he⟩ | ⟨rfl,_,ht,he⟩
  ·rfl
  ·rw [if_neg (by decide),if_pos rfl] at hk
   rw [if_neg (by decide),if_pos rfl,hk]
   rfl
  ·have hl:=hb lb (List.mem_append_left _ (List.mem_append_left _ (by rw [if_pos (by decide)]; exact List.mem_singleton.2 rfl)))
   rw [if_neg (by decide),if_neg (by decide),if_pos rfl,IH t ht nt ht2,IH e he ne he2,decide_eq_true (by omega:(0:Int)≤lb),decide_eq_true hl.2]
   rfl
  ·have hl:=hb lb (List.mem_append_left _ (List.mem_append_left _ (by rw [if_pos (by decide)]; exact List.mem_singleton.2 rfl)))
   rw [if_neg (by decide),if_neg (by decide),if_neg (by decide),if_pos rfl,IH t ht nt ht2,decide_eq_true (by omega:(0:Int)≤lb),decide_eq_true hl.2]
   rfl
  ·rw [if_neg (by decide),if_neg (by decide),if_neg (by decide),if_neg (by decide),if_pos rfl,IH t ht nt ht2]
theorem roks_of {n:Nat} {vs ar rs:List ByteArray} {l:List Sm} (hf:∀ s ∈ l,fineS n s) (hn:Sm.nmss vs ar rs l=true) (hb:∀ x ∈ Sm.lbss isIW l,1≤x∧x≤12):Sm.roks (hasB ar) l=true:=roks_list (fun s=>rok_one n s) l hf hn hb
end Go.Proofs.YtalkkcfojplmdaaGreatDoor
end
section
namespace Go.Proofs.YtalkkcfojplmdaaGreatDoor
open Go.Vc
attribute [local irreducible] evJ evF Jb.arr
set_option maxHeartbeats 1000000
def fitB (ins:List Inp) (vs:List Int):Bool:=decide (ins.length=vs.length) && (ins.zip vs).all (fun p=>decide (p.1.2.1≤p.2) && decide (p.2≤p.1.2.2))
def wordB (n:Int):Bool:=decide (-2147483648≤n) && decide (n < 2147483648)
def filB (shs:List Shd) (ss:List (List Int)):Bool:=decide (shs.length=ss.length) && (shs.zip ss).all (fun p=>decide ((p.2.length:Int)=p.1.2.1) && p.2.all wordB)
abbrev LRow (l:List Int):List C:=[.list (l.map Irow)]
structure Out where
 vars:List Int
 arrs:List (List Int)
 shs:List (List Int)
 counts:List Int
 steps:Int
abbrev OutRow (o:Out):List C:=[.list (o.vars.map Irow),.list (o.arrs.map LRow),.list (o.shs.map LRow),.list (o.counts.map Irow),.val (.int .i64 o.steps)]
def outZ:Out:=⟨[],[],[],[],0⟩
def AMof (p:Pg) (t:Tk):AMt:=fillF [] (t.arrays.map (fun x=>(x.1,true)) ++ p.shared.map (fun x=>(x.1,false)))
def kIf (k:Nat) (l:List Int):List Int:=match k with | 0=>[] | _+1=>l
def ca0 (l:List Arr):List Int:=kIf l.length (List.replicate (l.headD (⟨#[]⟩,0)).2.toNat 0)
def cb0 (l:List Shd) (ss:List (List Int)):List Int:=kIf l.length (ss.headD [])
def jb0 (p:Pg) (t:Tk) (ins:List Int) (ss:List (List Int)):Jb:=⟨fillF [] ((t.inputs.map (·.1)).zip ins),ca0 t.arrays,cb0 p.shared ss,(List.replicate 39 (0:Int)).set 0 1,0⟩
def runO (p:Pg) (t:Tk) (ins:List Int) (ss:List (List Int)):Out :=
 let j:=runL (AMof p t) t.body (jb0 p t ins ss)
 ⟨(scaL t).map (fun s=>(aget j.V s).getD 0),t.arrays.map (fun _=>j.ca),p.shared.map (fun _=>j.cb),j.cn,j.st⟩
def tk0:Tk:=⟨⟨#[]⟩,0,0,0,0,[],[],[],[],[],[]⟩
def runF (p:Pg) (task:Int) (ins:List Int) (ss:List (List Int)):Out × Int :=
 if ckF p≠0 then (outZ,ckF p) else if 0≤task∧task < (p.tasks.length:Int) then
  (if fitB (p.tasks.getD task.toNat tk0).inputs ins=false then (outZ,9) else if filB p.shared ss=false then (outZ,10) else (runO p (p.tasks.getD task.toNat tk0) ins ss,0)) else (outZ,8)
structure Rn (p:Pg) (t:Tk):Prop where
 a1:t.arrays.length≤1
 s1:p.shared.length≤1
 nd:dupB (scaL t ++ arrL p.shared t)=false
 asz:∀ x ∈ t.arrays,1≤x.2∧x.2≤16
 ssz:∀ x ∈ p.shared,1≤x.2.1∧x.2.1≤16
 rok:Sm.roks (hasB (arrL p.shared t)) t.body=true
 cst:Sm.csts t.body≤1000000
theorem aset_map {α β:Type} (f:α→β) (k:ByteArray) (v:α):∀ M:List (ByteArray × α),(aset M k v).map (fun e=>(e.1,f e.2))=aset (M.map (fun e=>(e.1,f e.2))) k (f v)
 | []=>rfl
 | e :: M=>by
  rw [aset,List.map_cons,aset]
  by_cases h:e.1=k
  ·rw [if_pos h,if_pos h]; rfl
  ·rw [if_neg h,if_neg h,List.map_cons,aset_map f k v M]
theorem fill_map {α β:Type} (f:α→β):∀ (l M:List (ByteArray × α)),(fillF M l).map (fun e=>(e.1,f e.2))=fillF (M.map (fun e=>(e.1,f e.2))) (l.map (fun e=>(e.1,f e.2)))
 | [],M=>rfl
 | e :: l,M=>by
  show (fillF (aset M e.1 e.2) l).map _=_
  rw [fill_map f l,aset_map]
  rfl
def arV (p:Pg) (t:Tk) (va vb:Value):List (ByteArray × Value):=fillF (fillF [] (t.arrays.map (fun x=>(x.1,va)))) (p.shared.map (fun x=>(x.1,vb)))
theorem arV_eq (p:Pg) (t:Tk) (va vb:Value):mapE (fun v:Value=>v) (arV p t va vb)=mapE (fun q=>cond q va vb) (AMof p t):=by
 have h:(AMof p t).map (fun e=>(e.1,cond e.2 va vb))=arV p t va vb:=by
  unfold AMof arV
  rw [fill_map (fun q:Bool=>cond q va vb),List.map_append,List.map_map,List.map_map,fill_app]
  rfl
 rw [← h]
 simp [mapE,List.map_map,Function.comp_def]
theorem hd_get {α:Type} {d:α}:∀ {l:List α} (h:0 < l.length),l.headD d=l[0]
 | _ :: _,_=>rfl
theorem one_take {α:Type}:∀ {l:List α} (h:0 < l.length),l.take 1=[l[0]]
 | _ :: _,_=>rfl
theorem fil_hd {shs:List Shd} {ss:List (List Int)} (hf:filB shs ss=true) (hz:∀ x ∈ shs,1≤x.2.1∧x.2.1≤16) (h:0 < ss.length):(ss[0]).length≤1000000:=by
 unfold filB at hf
 rw [Bool.and_eq_true,decide_eq_true_eq] at hf
 obtain ⟨h1,h2⟩:=hf
 cases shs with
 | nil=>rw [List.length_nil] at h1; omega
 | cons x l =>
  cases ss with
  | nil=>simp at h
  | cons a m =>
   rw [List.zip_cons_cons,List.all_cons,Bool.and_eq_true,Bool.and_eq_true,decide_eq_true_eq] at h2
   have h3:=h2.1.1
   have h4:=hz x (List.mem_cons_self ..)
   dsimp only at h3
   show a.length≤_
   omega
theorem dup_right:∀ (a:List ByteArray) {b:List ByteArray},dupB (a ++ b)=false→dupB b=false
 | [],_,h=>h
 | x :: a,b,h=>by
  rw [List.cons_append,dupB,Bool.or_eq_false_iff] at h
  exact dup_right a h.2
theorem am_eq {p:Pg} {t:Tk} (h:Rn p t):AMof p t=t.arrays.map (fun x=>(x.1,true)) ++ p.shared.map (fun x=>(x.1,false)):=by
 unfold AMof
 refine fill_id ?_
 have h1:=dup_right _ h.nd
 unfold arrL at h1
 rw [List.map_append,List.map_map,List.map_map]
 exact h1
theorem am_arr {p:Pg} {t:Tk} (h:Rn p t) (hk:0 < t.arrays.length):aget (AMof p t) (t.arrays[0]).1=some true:=by
 rw [am_eq h,← hd_get (d:=(⟨#[]⟩,0)) hk]
 cases ha:t.arrays with
 | nil=>simp [ha] at hk
 | cons a l=>simp [aget]
theorem am_shr {p:Pg} {t:Tk} (h:Rn p t) (hk:0 < p.shared.length):aget (AMof p t) (p.shared[0]).1=some false:=by
 rw [am_eq h,← hd_get (d:=(⟨#[]⟩,0,⟨#[]⟩)) hk]
 have h1:=dup_right _ h.nd
 have ha1:=h.a1
 unfold arrL at h1
 cases hs:p.shared with
 | nil=>simp [hs] at hk
 | cons s m =>
  cases ha:t.arrays with
  | nil=>simp [aget]
  | cons a l =>
   rw [ha] at ha1 h1
   have hl:l=[]:=List.eq_nil_of_length_eq_zero (by simp only [List.length_cons] at ha1; omega)
   subst hl
   rw [hs] at h1
   simp only [List.map_cons,List.map_nil,List.cons_append,List.nil_append,dupB,hasB,List.any_cons,Bool.or_eq_false_iff,decide_eq_false_iff_not] at h1
   have hne:¬ a.1=s.1:=fun e=>h1.1.1 e.symm
   simp [aget,hne]
theorem am_has {p:Pg} {t:Tk} (h:Rn p t) {ss:List (List Int)} (hf:filB p.shared ss=true):∀ nm,hasB (arrL p.shared t) nm=true→∃ w,aget (AMof p t) nm=some w∧0 < cond w (ca0 t.arrays).length (cb0 p.shared ss).length:=by
 intro nm hn
 have ha1:=h.a1
 have hs1:=h.s1
 unfold hasB arrL at hn
 rw [List.any_append,Bool.or_eq_true,List.any_map,List.any_map,List.any_eq_true,List.any_eq_true] at hn
 rcases hn with ⟨x,hx,e⟩ | ⟨x,hx,e⟩
 ·have hk:0 < t.arrays.length:=List.length_pos_of_mem hx
  obtain ⟨i,hi,rfl⟩:=List.getElem_of_mem hx
  obtain rfl:i=0:=by omega
  simp only [Function.comp_apply,decide_eq_true_eq] at e
  refine ⟨true,by rw [← e]; exact am_arr h hk,?_⟩
  show 0 < (ca0 t.arrays).length
  unfold ca0
  rw [show t.arrays.length=1 by omega,kIf,List.length_replicate,hd_get hk]
  have:=(h.asz _ (List.getElem_mem hk)).1
  omega
 ·have hk:0 < p.shared.length:=List.length_pos_of_mem hx
  obtain ⟨i,hi,rfl⟩:=List.getElem_of_mem hx
  obtain rfl:i=0:=by omega
  simp only [Function.comp_apply,decide_eq_true_eq] at e
  refine ⟨false,by rw [← e]; exact am_shr h hk,?_⟩
  show 0 < (cb0 p.shared ss).length
  unfold cb0
  unfold filB at hf
  rw [Bool.and_eq_true,decide_eq_true_eq] at hf
  obtain ⟨h1,h2⟩:=hf
  have h3:0 < ss.length:=by omega
  rw [show p.shared.length=1 by omega,kIf,hd_get h3]
  have h4:=(h.ssz _ (List.getElem_mem hk)).1
  rw [List.all_eq_true] at h2
  have h5:=h2 (p.shared[0],ss[0]) (by rw [List.mem_iff_getElem]; exact ⟨0,by rw [List.length_zip]; omega,by rw [List.getElem_zip]⟩)
  rw [Bool.and_eq_true,decide_eq_true_eq] at h5
  have h6:=h5.1
  dsimp only at h6
  omega
theorem jb0_ok {p:Pg} {t:Tk} {ins:List Int} {ss:List (List Int)}:(jb0 p t ins ss).ok (ca0 t.arrays).length (cb0 p.shared ss).length 1:=by
 refine ⟨by show (0:Int)≤0∧(0:Int)≤1; omega,?_,by show ((List.replicate 39 (0:Int)).set 0 1).length=39; rw [List.length_set,List.length_replicate],rfl,rfl⟩
 intro x hx
 rcases List.mem_or_eq_of_mem_set hx with hx | rfl
 ·rw [List.eq_of_mem_replicate hx]; omega
 ·omega
theorem ca0_le {p:Pg} {t:Tk} (h:Rn p t):(ca0 t.arrays).length≤1000000:=by
 unfold ca0
 cases hk:t.arrays.length with
 | zero=>simp [kIf]
 | succ n =>
  rw [kIf,List.length_replicate,hd_get (by omega)]
  have:=(h.asz _ (List.getElem_mem (by omega:0 < t.arrays.length))).2
  omega
theorem cb0_le {p:Pg} {t:Tk} (h:Rn p t) {ss:List (List Int)} (hf:filB p.shared ss=true):(cb0 p.shared ss).length≤1000000:=by
 unfold cb0
 cases hk:p.shared.length with
 | zero=>simp [kIf]
 | succ n =>
  have h1:p.shared.length=ss.length:=by
   unfold filB at hf
   rw [Bool.and_eq_true,decide_eq_true_eq] at hf
   exact hf.1
  rw [kIf,hd_get (by omega:0 < ss.length)]
  exact fil_hd hf h.ssz (by omega)
structure Fine (p:Pg):Prop where
 pr:(progF p).2=0
 lim:limB p=true
 nam:namB p=true
 ran:ranB p=true
 lab:p.tasks.all labF=true
 lck:p.tasks.all (fun t=>Sm.lcks p.shared ⟨#[]⟩ t.body)=true
 wt:p.tasks.all (fun t=>decide (wAll 20 t.body 0≤2000))=true
theorem fine_ck {p:Pg} (h:ckF p=0):Fine p:=by
 unfold ckF at h
 have h0:(progF p).2=0:=by
  apply Classical.byContradiction
  intro hc
  rw [if_pos hc] at h
  exact hc h
 rw [if_neg (fun hc=>hc h0)] at h
 cases h1:limB p with
 | false=>rw [if_pos h1] at h; omega
 | true =>
 rw [if_neg (by rw [h1]; decide)] at h
 cases h2:namB p with
 | false=>rw [if_pos h2] at h; omega
 | true =>
 rw [if_neg (by rw [h2]; decide)] at h
 cases h3:ranB p with
 | false=>rw [if_pos h3] at h; omega
 | true =>
 rw [if_neg (by rw [h3]; decide)] at h
 cases h4:p.tasks.all labF with
 | false=>rw [if_pos h4] at h; omega
 | true =>
 rw [if_neg (by rw [h4]; decide)] at h
 cases h5:p.tasks.all (fun t=>Sm.lcks p.shared ⟨#[]⟩ t.body) with
 | false=>rw [if_pos h5] at h; omega
 | true =>
 rw [if_neg (by rw [h5]; decide)] at h
 cases h6:p.tasks.all (fun t=>decide (wAll 20 t.body 0≤2000)) with
 | false=>rw [if_pos h6] at h; omega
 | true=>exact ⟨h0,h1,h2,h3,h4,h5,h6⟩
theorem prog_fine {p:Pg} (h:(progF p).2=0) {t:Tk} (ht:t ∈ p.tasks):dpF 8 t.body=false∧∀ s ∈ t.body,fineS 8 s:=by
 unfold progF at h
 cases h1:okPg p with
 | false=>rw [if_pos h1] at h; simp at h
 | true =>
 rw [if_neg (by rw [h1]; decide)] at h
 cases h2:p.tasks.any (fun t=>dpF 8 t.body) with
 | true=>rw [if_pos h2] at h; simp at h
 | false =>
 have h3:dpF 8 t.body=false:=by
  rw [List.any_eq_false] at h2
  have:=h2 t ht
  revert this
  cases dpF 8 t.body <;> simp
 refine ⟨h3,fine_of 8 20 t.body (by omega) ?_ h3⟩
 unfold okPg at h1
 rw [Bool.and_eq_true,List.all_eq_true] at h1
 have:=h1.2 t ht
 unfold okTk at this
 simp only [Bool.and_eq_true] at this
 exact this.1.1.1.1.1.2
theorem sizeB_le {n:Int} (h:sizeB n=true):1≤n∧n≤16:=by
 unfold sizeB at h
 simp only [Bool.or_eq_true,decide_eq_true_eq] at h
 omega
theorem rn_of {p:Pg} (h:ckF p=0) {t:Tk} (ht:t ∈ p.tasks) (ha:t.arrays.length≤1) (hs:p.shared.length≤1):Rn p t:=by
 have hF:=fine_ck h
 obtain ⟨hd,hf⟩:=prog_fine hF.pr ht
 have hn:=hF.nam
 unfold namB at hn
 rw [Bool.and_eq_true,List.all_eq_true] at hn
 have hn:=hn.2 t ht
 unfold namT at hn
 simp only [Bool.and_eq_true,Bool.not_eq_true'] at hn
 have hrn:=hF.ran
 unfold ranB at hrn
 rw [Bool.and_eq_true,List.all_eq_true,List.all_eq_true] at hrn
 have hrt:=hrn.2 t ht
 unfold ranT at hrt
 simp only [Bool.and_eq_true,List.all_eq_true] at hrt
 have hl:=List.all_eq_true.1 hF.lab t ht
 rw [labF_labT hd] at hl
 unfold labT at hl
 simp only [Bool.and_eq_true,List.all_eq_true,decide_eq_true_eq] at hl
 have hw:=of_decide_eq_true (List.all_eq_true.1 hF.wt t ht)
 have hc:=csts_le (n:=8) (f:=20) (by omega) hf hrt.1.1.1.2 (by omega)
 refine ⟨ha,hs,hn.1.2,fun x hx=>sizeB_le (hrt.1.1.2 x hx),fun x hx=>sizeB_le (hrn.1 x hx),roks_of hf hn.2 (fun x hx=>hl.1.1 x hx),by omega⟩
end Go.Proofs.YtalkkcfojplmdaaGreatDoor
end
section
namespace Go.Proofs.YtalkkcfojplmdaaGreatDoor
open Go.Vc
attribute [local irreducible] JL JC JQ OpWp Con ConN HOk
set_option maxHeartbeats 4000000
end Go.Proofs.YtalkkcfojplmdaaGreatDoor
end
section
namespace Go.Vc
open Go.RowKit
set_option maxHeartbeats 1000000
section
variable {P:Program} [Gl P] {nt:Nat} {c:Cx P nt} {env:Env} {H Hr:List Ch} {ops:Array Oper} {Q:Exit→Act→World→Prop}
theorem RowsLe.map {α:Type _} {f g:α→List C} (h:∀ a,RowLe (f a) (g a)):∀ l:List α,RowsLe (l.map f) (l.map g)
 | []=>RowsLe.nil
 | a :: l=>.cons (h a) (RowsLe.map h l)
end
end Go.Vc
end