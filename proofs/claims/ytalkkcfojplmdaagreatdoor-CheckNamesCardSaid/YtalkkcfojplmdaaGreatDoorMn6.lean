import Derived.Test.YtalkkcfojplmdaaGreatDoorMn5
section
namespace Go.Proofs.YtalkkcfojplmdaaGreatDoor
open Go.Vc
set_option maxHeartbeats 1000000
theorem list_wt {n f:Nat} (h1:∀ s,fineS n s→s.wds=true→wOne f s < 1099511627776→(s.cst:Int)≤wOne f s):∀ (l:List Sm) (m:Int),0≤m→(∀ s ∈ l,fineS n s)→Sm.wdss l=true→wAll f l m < 1099511627776→m+(Sm.csts l:Int)≤wAll f l m
 | [],m,_,_,_,_=>by rw [wAll,Sm.csts]; omega
 | s :: r,m,hm,hf,hw,h=>by
  rw [wAll] at h ⊢
  rw [Sm.wdss,Bool.and_eq_true] at hw
  have b:=wOne_bd f s
  have h5:=list_wt h1 r (lim (m+wOne f s)) (lim_bd _ (by omega)).1 (fun x hx=>hf x (List.mem_cons_of_mem _ hx)) hw.2 h
  have h2:lim (m+wOne f s) < 1099511627776:=by omega
  have h3:lim (m+wOne f s)=m+wOne f s:=by unfold lim at h2 ⊢; omega
  have h4:=h1 s (hf s (List.mem_cons_self ..)) hw.1 (by omega)
  rw [Sm.csts]
  omega
theorem parts_one (x:T):1≤wPartsL [x] 20 0:=by
 have h:∀ (f:Nat) (l:List T) (n:Int),1≤n∧n≤1099511627776→1≤wPartsL l f n:=by
  intro f l
  induction l with
  | nil=>intro n h; simpa [wPartsL] using h.1
  | cons e r ih =>
   intro n h
   have:=wParts_bd f e
   refine ih _ ?_
   show 1≤lim (n+wParts e f)∧lim (n+wParts e f)≤_
   unfold lim
   omega
 have h2:1≤wParts x 20:=by rw [wParts_succ]; exact h _ _ _ (by omega)
 show 1≤lim (0+wParts x 20)
 unfold lim
 omega
theorem one_wt:∀ (n f:Nat) (s:Sm),n≤f→fineS n s→s.wds=true→wOne f s < 1099511627776→(s.cst:Int)≤wOne f s
 | 0,_,_,_,h,_,_=>h.elim
 | n+1,0,_,h,_,_,_=>by omega
 | n+1,f+1,.mk k nm i v mx lb t e,hn,h,hw,hlt=>by
  have IH:=fun l=>list_wt (n:=n) (f:=f) (fun s=>one_wt n f s (by omega)) l 0 (by omega)
  have b1:=wPartsL_bd 20 (wParts_bd 20) i 0 (by omega)
  have b2:=wPartsL_bd 20 (wParts_bd 20) v 0 (by omega)
  have b3:=wAll_bd f t 0 (by omega)
  have b4:=wAll_bd f e 0 (by omega)
  rw [wOne] at hlt ⊢
  rw [Sm.wds] at hw
  simp only [Bool.and_eq_true,decide_eq_true_eq] at hw
  obtain ⟨⟨⟨⟨⟨w1,w2⟩,_⟩,_⟩,wt⟩,we⟩:=hw
  rw [Sm.cst]
  simp only [Sm.kind,Sm.index,Sm.value,Sm.max,Sm.thn,Sm.els] at hlt ⊢
  unfold fineS at h
  simp only [Sm.kind,Sm.index,Sm.value,Sm.max,Sm.thn,Sm.els,Sm.name,Sm.label] at h
  rcases h with ⟨rfl,_⟩ | ⟨rfl,_⟩ | ⟨rfl,⟨x,rfl,_⟩,_,ht,he⟩ | ⟨rfl,⟨x,rfl,_⟩,_,_,ht,he⟩ | ⟨rfl,_,ht,he⟩
  ·simp (decide:=true) only [if_true,if_false] at hlt ⊢
   unfold lim at hlt ⊢
   omega
  ·simp (decide:=true) only [if_true,if_false] at hlt ⊢
   unfold lim at hlt ⊢
   omega
  ·simp (decide:=true) only [if_true,if_false] at hlt ⊢
   have px:=parts_one x
   have i1:=IH t ht wt
   have i2:=IH e he we
   unfold lim at hlt ⊢
   have i1:=i1 (by omega)
   have i2:=i2 (by omega)
   omega
  ·simp (decide:=true) only [if_true,if_false] at hlt ⊢
   have px:=parts_one x
   have i1:=IH t ht wt
   have hm:Max.max 0 (min mx 33)=mx:=by omega
   rw [hm] at hlt ⊢
   have hl:=lim_bd (2+wPartsL [x] 20 0+wAll f t 0) (by omega)
   generalize hL:lim (2+wPartsL [x] 20 0+wAll f t 0)=L at hlt hl ⊢
   have hpos:L≤(mx+1) * L:=by
    have:=Int.mul_nonneg w1 hl.1
    rw [Int.add_mul,Int.one_mul]
    omega
   have hlt2:2+(mx+1) * L < 1099511627776:=by unfold lim at hlt; omega
   have hL2:L=2+wPartsL [x] 20 0+wAll f t 0:=by rw [← hL]; rw [← hL] at hlt2 hpos; unfold lim at hlt2 hpos ⊢; omega
   have i1:=i1 (by omega)
   rw [show lim (2+(mx+1) * L)=2+(mx+1) * L by unfold lim; omega]
   have hle:(2+(Sm.csts t:Int))≤L:=by omega
   have h1:=Int.mul_le_mul_of_nonneg_left hle w1
   have hc:((2+mx.toNat * (2+Sm.csts t):Nat):Int)=2+mx * (2+(Sm.csts t:Int)):=by
    rw [Int.natCast_add,Int.natCast_mul,Int.toNat_of_nonneg w1,Int.natCast_add]
    rfl
   rw [hc,Int.add_mul,Int.one_mul]
   omega
  ·simp (decide:=true) only [if_true,if_false] at hlt ⊢
   have i1:=IH t ht wt
   unfold lim at hlt ⊢
   have i1:=i1 (by omega)
   omega
theorem csts_le {n f:Nat} {l:List Sm} (hn:n≤f) (hf:∀ s ∈ l,fineS n s) (hw:Sm.wdss l=true) (h:wAll f l 0 < 1099511627776):(Sm.csts l:Int)≤wAll f l 0:=by
 have:=list_wt (n:=n) (f:=f) (fun s=>one_wt n f s hn) l 0 (by omega) hf hw h
 omega
theorem roks_list {n:Nat} {vs ar rs:List ByteArray} (h1:∀ s,fineS n s→s.nms vs ar rs=true→(∀ x ∈ s.lbs isIW,1≤x∧x≤12)→s.rok (hasB ar)=true):∀ l:List Sm,(∀ s ∈ l,fineS n s)→Sm.nmss vs ar rs l=true→(∀ x ∈ Sm.lbss isIW l,1≤x∧x≤12)→Sm.roks (hasB ar) l=true
 | [],_,_,_=>rfl
 | s :: r,hf,hn,hb=>by
  rw [Sm.nmss,Bool.and_eq_true] at hn
  rw [Sm.lbss] at hb
  rw [Sm.roks,h1 s (hf s (List.mem_cons_self ..)) hn.1 (fun x hx=>hb x (List.mem_append_left _ hx)),roks_list h1 r (fun x hx=>hf x (List.mem_cons_of_mem _ hx)) hn.2 (fun x hx=>hb x (List.mem_append_right _ hx))]
  rfl
theorem rok_one {vs ar rs:List ByteArray}:∀ (n:Nat) (s:Sm),fineS n s→s.nms vs ar rs=true→(∀ x ∈ s.lbs isIW,1≤x∧x≤12)→s.rok (hasB ar)=true
 | 0,_,h,_,_=>h.elim
 | n+1,.mk k nm i v mx lb t e,h,hn,hb=>by
  have IH:=fun l=>roks_list (n:=n) (vs:=vs) (ar:=ar) (rs:=rs) (fun s=>rok_one n s) l
  rw [Sm.nms] at hn
  simp only [Bool.and_eq_true] at hn
  obtain ⟨⟨⟨⟨hk,_⟩,_⟩,nt⟩,ne⟩:=hn
  rw [Sm.lbs] at hb
  have ht2:∀ x ∈ Sm.lbss isIW t,1≤x∧x≤12:=fun x hx=>hb x (List.mem_append_left _ (List.mem_append_right _ hx))
  have he2:∀ x ∈ Sm.lbss isIW e,1≤x∧x≤12:=fun x hx=>hb x (List.mem_append_right _ hx)
  rw [Sm.rok]
  unfold fineS at h
  simp only [Sm.kind,Sm.index,Sm.value,Sm.max,Sm.thn,Sm.els,Sm.name,Sm.label] at h
  rcases h with ⟨rfl,_,x,rfl,_⟩ | ⟨rfl,_,y,x,rfl,rfl,_⟩ | ⟨rfl,⟨x,rfl,_⟩,_,ht,he⟩ | ⟨rfl,⟨x,rfl,_⟩,_,_,ht,he⟩ | ⟨rfl,_,ht,he⟩
  ·rfl
  ·rw [if_neg (by decide),if_pos rfl] at hk
   rw [if_neg (by decide),if_pos rfl,hk]
   rfl
  ·have hl:=hb lb (List.mem_append_left _ (List.mem_append_left _ (by rw [if_pos (by decide)]; exact List.mem_singleton.2 rfl)))
   rw [if_neg (by decide),if_neg (by decide),if_pos rfl,IH t ht nt ht2,IH e he ne he2,decide_eq_true (by omega:(0:Int)≤lb),decide_eq_true hl.2]
   rfl
  ·have hl:=hb lb (List.mem_append_left _ (List.mem_append_left _ (by rw [if_pos (by decide)]; exact List.mem_singleton.2 rfl)))
   rw [if_neg (by decide),if_neg (by decide),if_neg (by decide),if_pos rfl,IH t ht nt ht2,decide_eq_true (by omega:(0:Int)≤lb),decide_eq_true hl.2]
   rfl
  ·rw [if_neg (by decide),if_neg (by decide),if_neg (by decide),if_neg (by decide),if_pos rfl,IH t ht nt ht2]
theorem roks_of {n:Nat} {vs ar rs:List ByteArray} {l:List Sm} (hf:∀ s ∈ l,fineS n s) (hn:Sm.nmss vs ar rs l=true) (hb:∀ x ∈ Sm.lbss isIW l,1≤x∧x≤12):Sm.roks (hasB ar) l=true:=roks_list (fun s=>rok_one n s) l hf hn hb
end Go.Proofs.YtalkkcfojplmdaaGreatDoor
end
section
namespace Go.Proofs.YtalkkcfojplmdaaGreatDoor
open Go.Vc
attribute [local irreducible] JL JC JQ OpWp Con ConN HOk
set_option maxHeartbeats 4000000
def idxOf {α:Type} (p:α→Bool) (l:List α):Int:=match l.findIdx? p with | some i=>(i:Int) | none=>-1
theorem idx_some {α:Type} {p:α→Bool} {l:List α} {k:Nat} (hk:k < l.length) (h:p l[k]=true) (hno:(l.take k).any p=false):idxOf p l=(k:Int):=by
 unfold idxOf
 rw [List.findIdx?_eq_some_iff_getElem.2 ⟨hk,h,fun j hj=>List.any_eq_false.1 hno l[j] (by rw [List.mem_take_iff_getElem]; exact ⟨j,by omega,rfl⟩)⟩]
theorem idx_none {α:Type} {p:α→Bool} {l:List α} (hno:l.any p=false):idxOf p l=-1:=by
 unfold idxOf
 rw [List.findIdx?_eq_none_iff.2 (fun x hx=>by simpa using List.any_eq_false.1 hno x hx)]
theorem idx_any {α:Type} (p:α→Bool) (l:List α):decide (0≤idxOf p l)=l.any p:=by
 cases h:l.any p with
 | false=>rw [idx_none h]; rfl
 | true =>
  unfold idxOf
  cases hf:l.findIdx? p with
  | some i=>exact decide_eq_true (show (0:Int)≤(i:Int) by omega)
  | none =>
   obtain ⟨x,hx,hp⟩:=List.any_eq_true.1 h
   rw [List.findIdx?_eq_none_iff.1 hf x hx] at hp
   cases hp
theorem idxSh1_c (F:FuncId) [FI Tryz.prog F] (cap:List Value) (hcap:cap.all Value.oneCell'=true) (h1:Ch) (p:Shd→Bool) (l:List (Shd)) (hp:∀ x ∈ l,Con Tryz.prog F (.row (ShRow x) :: capS cap) [h1] (fun K=>K (Bl (p x)) [h1])) :
 Con Tryz.prog 147 [.cell (.list (l.map ShRow)),FC F cap] [h1] (fun K=>K (In .i64 (idxOf p l)) [h1]):=by
 refine con_intro Tryz.func147 O O b_ (fun c hc=>ZV ?_)
 refine br_ O (fun hlen=>M_ O (T_ (au_ ?_)))
 refine jc_loopS (ι:=Nat) [] (fun k=>k≤(l).length∧(l.take k).any p=false) (fun k=>(8,In .i64 (k:Int)) :: [(0,.cell (.list (l.map ShRow))),(1,FC F cap),(7,In .i64 ((l.map ShRow).length:Int))]) (fun k=>[h1]) (fun k=>(l).length - k) 0 ⟨Nat.zero_le _,rfl⟩ ?_ ?_ ?_
 ·exact Wx
 ·exact Wv
 rintro k ⟨hk,hno⟩
 have eLk:((l).map ShRow).length=(l).length:=List.length_map _
 by_cases hltk:k < (l).length
 ·have hltk2:(k:Int) < (((l).map ShRow).length:Int):=by omega
  have hC:=hp l[k] (List.getElem_mem hltk)
  cases hb':p l[k] with
  | true =>
   rw [hb'] at hC
   have hres:=idx_some hltk hb' hno
   refine Zi ?_
   refine YS ?_
   refine ZI ?_
   refine cr_ O O O (o_ O (Yq ?_))
   exact Wx
  | false =>
   rw [hb'] at hC
   refine Zi ?_
   refine YS ?_
   refine ZI ?_
   refine cr_ O O O (o_ O (ow_callc [0] O O hcap O hC (T_ (ap_ O O (as_ (Zx ?_))))))
   refine jq_againS (i:=k) (k+1) ⟨hltk,any_snoc hltk hno hb'⟩ g_ ?_ ?_
   ·exact Wx
   ·exact Wv
 ·have hltk2:¬ (k:Int) < (((l).map ShRow).length:Int):=by omega
  rw [List.take_of_length_le (by omega)] at hno
  have hres:=idx_none hno
  refine R_ (o_ O (Zk ?_))
  exact WH
theorem hasSh1_c (F:FuncId) [FI Tryz.prog F] (cap:List Value) (hcap:cap.all Value.oneCell'=true) (h1:Ch) (p:Shd→Bool) (l:List (Shd)) (hp:∀ x ∈ l,Con Tryz.prog F (.row (ShRow x) :: capS cap) [h1] (fun K=>K (Bl (p x)) [h1])) :
 Con Tryz.prog 94 [.cell (.list (l.map ShRow)),FC F cap] [h1] (fun K=>K (Bl (l.any p)) [h1]):=by
 have hI:=idxSh1_c F cap hcap h1 p l hp
 rw [← idx_any]
 generalize idxOf p l=m at hI ⊢
 exact con_intro Tryz.func94 O O b_ (fun c hc=>R_ (E_ O (T_ (R_ (M_ O (M_ O (o_ O (bi_ [0] O O hI (o_ O (cn_ O O (E_ O (T_ (ar_ (jq_ret1S O O (fun K h=>h) (bc_ 0 O sub_end)))))))))))))))
theorem idxEx1_c (F:FuncId) [FI Tryz.prog F] (cap:List Value) (hcap:cap.all Value.oneCell'=true) (h1:Ch) (p:T→Bool) (l:List (T)) (hp:∀ x ∈ l,Con Tryz.prog F (.row x.row' :: capS cap) [h1] (fun K=>K (Bl (p x)) [h1])) :
 Con Tryz.prog 194 [.cell (.list (l.map T.row)),FC F cap] [h1] (fun K=>K (In .i64 (idxOf p l)) [h1]):=by
 refine con_intro Tryz.func194 O O b_ (fun c hc=>ZV ?_)
 refine br_ O (fun hlen=>M_ O (T_ (au_ ?_)))
 refine jc_loopS (ι:=Nat) [] (fun k=>k≤(l).length∧(l.take k).any p=false) (fun k=>(8,In .i64 (k:Int)) :: [(0,.cell (.list (l.map T.row))),(1,FC F cap),(7,In .i64 ((l.map T.row).length:Int))]) (fun k=>[h1]) (fun k=>(l).length - k) 0 ⟨Nat.zero_le _,rfl⟩ ?_ ?_ ?_
 ·exact Wx
 ·exact Wv
 rintro k ⟨hk,hno⟩
 have eLk:((l).map T.row).length=(l).length:=List.length_map _
 by_cases hltk:k < (l).length
 ·have hltk2:(k:Int) < (((l).map T.row).length:Int):=by omega
  have hC:=hp l[k] (List.getElem_mem hltk)
  cases hb':p l[k] with
  | true =>
   rw [hb'] at hC
   have hres:=idx_some hltk hb' hno
   refine Zi ?_
   refine YS ?_
   refine Zy ?_
   refine o_ O (Yq ?_)
   exact Wx
  | false =>
   rw [hb'] at hC
   refine Zi ?_
   refine YS ?_
   refine Zy ?_
   refine o_ O (ow_callc [0] O O hcap O hC (T_ (ap_ O O (as_ (Zx ?_)))))
   refine jq_againS (i:=k) (k+1) ⟨hltk,any_snoc hltk hno hb'⟩ g_ ?_ ?_
   ·exact Wx
   ·exact Wv
 ·have hltk2:¬ (k:Int) < (((l).map T.row).length:Int):=by omega
  rw [List.take_of_length_le (by omega)] at hno
  have hres:=idx_none hno
  refine R_ (o_ O (Zk ?_))
  exact WH
theorem hasEx1_c (F:FuncId) [FI Tryz.prog F] (cap:List Value) (hcap:cap.all Value.oneCell'=true) (h1:Ch) (p:T→Bool) (l:List (T)) (hp:∀ x ∈ l,Con Tryz.prog F (.row x.row' :: capS cap) [h1] (fun K=>K (Bl (p x)) [h1])) :
 Con Tryz.prog 150 [.cell (.list (l.map T.row)),FC F cap] [h1] (fun K=>K (Bl (l.any p)) [h1]):=by
 have hI:=idxEx1_c F cap hcap h1 p l hp
 rw [← idx_any]
 generalize idxOf p l=m at hI ⊢
 exact con_intro Tryz.func150 O O b_ (fun c hc=>R_ (E_ O (T_ (R_ (M_ O (M_ O (o_ O (bi_ [0] O O hI (o_ O (cn_ O O (E_ O (T_ (ar_ (jq_ret1S O O (fun K h=>h) (bc_ 0 O sub_end)))))))))))))))
theorem idxTk0_c (F:FuncId) [FI Tryz.prog F] (cap:List Value) (hcap:cap.all Value.oneCell'=true) (p:Tk→Bool) (l:List (Tk)) (hp:∀ x ∈ l,Con Tryz.prog F (.row x.row :: capS cap) [] (fun K=>K (Bl (p x)) [])) :
 Con Tryz.prog 63 [.cell (.list (l.map Tk.row)),FC F cap] [] (fun K=>K (In .i64 (idxOf p l)) []):=by
 refine con_intro Tryz.func63 O O b_ (fun c hc=>ZV ?_)
 refine br_ O (fun hlen=>M_ O (T_ (au_ ?_)))
 refine jc_loopS (ι:=Nat) [] (fun k=>k≤(l).length∧(l.take k).any p=false) (fun k=>(8,In .i64 (k:Int)) :: [(0,.cell (.list (l.map Tk.row))),(1,FC F cap),(7,In .i64 ((l.map Tk.row).length:Int))]) (fun k=>[]) (fun k=>(l).length - k) 0 ⟨Nat.zero_le _,rfl⟩ ?_ ?_ ?_
 ·exact sub_end
 ·exact Wv
 rintro k ⟨hk,hno⟩
 have eLk:((l).map Tk.row).length=(l).length:=List.length_map _
 by_cases hltk:k < (l).length
 ·have hltk2:(k:Int) < (((l).map Tk.row).length:Int):=by omega
  have hC:=hp l[k] (List.getElem_mem hltk)
  cases hb':p l[k] with
  | true =>
   rw [hb'] at hC
   have hres:=idx_some hltk hb' hno
   refine Zi ?_
   refine YS ?_
   refine ZI ?_
   exact cr_ O O O (o_ O (ow_callc [] O O hcap O hC (T_ (aq_ O O (R_ (M_ O (E_ O (T_ (ar_ (az_ (aw_ (aw_ (az_ (aw_ (jq_ret1S O O (fun K h=>by rw [hres] at h; exact h) sub_end)))))))))))))))
  | false =>
   rw [hb'] at hC
   refine Zi ?_
   refine YS ?_
   refine ZI ?_
   refine cr_ O O O (o_ O (ow_callc [] O O hcap O hC (T_ (ap_ O O (as_ (Zx ?_))))))
   refine jq_againS (i:=k) (k+1) ⟨hltk,any_snoc hltk hno hb'⟩ g_ ?_ ?_
   ·exact sub_end
   ·exact Wv
 ·have hltk2:¬ (k:Int) < (((l).map Tk.row).length:Int):=by omega
  rw [List.take_of_length_le (by omega)] at hno
  have hres:=idx_none hno
  refine R_ (o_ O (Zk ?_))
  exact WI
theorem hasTk0_c (F:FuncId) [FI Tryz.prog F] (cap:List Value) (hcap:cap.all Value.oneCell'=true) (p:Tk→Bool) (l:List (Tk)) (hp:∀ x ∈ l,Con Tryz.prog F (.row x.row :: capS cap) [] (fun K=>K (Bl (p x)) [])) :
 Con Tryz.prog 53 [.cell (.list (l.map Tk.row)),FC F cap] [] (fun K=>K (Bl (l.any p)) []):=by
 have hI:=idxTk0_c F cap hcap p l hp
 rw [← idx_any]
 generalize idxOf p l=m at hI ⊢
 exact con_intro Tryz.func53 O O b_ (fun c hc=>R_ (E_ O (T_ (R_ (M_ O (M_ O (o_ O (bi_ [] O O hI (o_ O (cn_ O O (E_ O (T_ (ar_ (jq_ret1S O O (fun K h=>h) sub_end))))))))))))))
theorem idxTk1_c (F:FuncId) [FI Tryz.prog F] (cap:List Value) (hcap:cap.all Value.oneCell'=true) (h1:Ch) (p:Tk→Bool) (l:List (Tk)) (hp:∀ x ∈ l,Con Tryz.prog F (.row x.row :: capS cap) [h1] (fun K=>K (Bl (p x)) [h1])) :
 Con Tryz.prog 63 [.cell (.list (l.map Tk.row)),FC F cap] [h1] (fun K=>K (In .i64 (idxOf p l)) [h1]):=by
 refine con_intro Tryz.func63 O O b_ (fun c hc=>ZV ?_)
 refine br_ O (fun hlen=>M_ O (T_ (au_ ?_)))
 refine jc_loopS (ι:=Nat) [] (fun k=>k≤(l).length∧(l.take k).any p=false) (fun k=>(8,In .i64 (k:Int)) :: [(0,.cell (.list (l.map Tk.row))),(1,FC F cap),(7,In .i64 ((l.map Tk.row).length:Int))]) (fun k=>[h1]) (fun k=>(l).length - k) 0 ⟨Nat.zero_le _,rfl⟩ ?_ ?_ ?_
 ·exact Wx
 ·exact Wv
 rintro k ⟨hk,hno⟩
 have eLk:((l).map Tk.row).length=(l).length:=List.length_map _
 by_cases hltk:k < (l).length
 ·have hltk2:(k:Int) < (((l).map Tk.row).length:Int):=by omega
  have hC:=hp l[k] (List.getElem_mem hltk)
  cases hb':p l[k] with
  | true =>
   rw [hb'] at hC
   have hres:=idx_some hltk hb' hno
   refine Zi ?_
   refine YS ?_
   refine ZI ?_
   refine cr_ O O O (o_ O (Yq ?_))
   exact Wx
  | false =>
   rw [hb'] at hC
   refine Zi ?_
   refine YS ?_
   refine ZI ?_
   refine cr_ O O O (o_ O (ow_callc [0] O O hcap O hC (T_ (ap_ O O (as_ (Zx ?_))))))
   refine jq_againS (i:=k) (k+1) ⟨hltk,any_snoc hltk hno hb'⟩ g_ ?_ ?_
   ·exact Wx
   ·exact Wv
 ·have hltk2:¬ (k:Int) < (((l).map Tk.row).length:Int):=by omega
  rw [List.take_of_length_le (by omega)] at hno
  have hres:=idx_none hno
  refine R_ (o_ O (Zk ?_))
  exact WH
theorem hasTk1_c (F:FuncId) [FI Tryz.prog F] (cap:List Value) (hcap:cap.all Value.oneCell'=true) (h1:Ch) (p:Tk→Bool) (l:List (Tk)) (hp:∀ x ∈ l,Con Tryz.prog F (.row x.row :: capS cap) [h1] (fun K=>K (Bl (p x)) [h1])) :
 Con Tryz.prog 53 [.cell (.list (l.map Tk.row)),FC F cap] [h1] (fun K=>K (Bl (l.any p)) [h1]):=by
 have hI:=idxTk1_c F cap hcap h1 p l hp
 rw [← idx_any]
 generalize idxOf p l=m at hI ⊢
 exact con_intro Tryz.func53 O O b_ (fun c hc=>R_ (E_ O (T_ (R_ (M_ O (M_ O (o_ O (bi_ [0] O O hI (o_ O (cn_ O O (E_ O (T_ (ar_ (jq_ret1S O O (fun K h=>h) (bc_ 0 O sub_end)))))))))))))))
theorem idxCl1_c (F:FuncId) [FI Tryz.prog F] (cap:List Value) (hcap:cap.all Value.oneCell'=true) (h1:Ch) (p:Clm→Bool) (l:List (Clm)) (hp:∀ x ∈ l,Con Tryz.prog F (.row (ClRow x) :: capS cap) [h1] (fun K=>K (Bl (p x)) [h1])) :
 Con Tryz.prog 155 [.cell (.list (l.map ClRow)),FC F cap] [h1] (fun K=>K (In .i64 (idxOf p l)) [h1]):=by
 refine con_intro Tryz.func155 O O b_ (fun c hc=>ZV ?_)
 refine br_ O (fun hlen=>M_ O (T_ (au_ ?_)))
 refine jc_loopS (ι:=Nat) [] (fun k=>k≤(l).length∧(l.take k).any p=false) (fun k=>(8,In .i64 (k:Int)) :: [(0,.cell (.list (l.map ClRow))),(1,FC F cap),(7,In .i64 ((l.map ClRow).length:Int))]) (fun k=>[h1]) (fun k=>(l).length - k) 0 ⟨Nat.zero_le _,rfl⟩ ?_ ?_ ?_
 ·exact Wx
 ·exact Wv
 rintro k ⟨hk,hno⟩
 have eLk:((l).map ClRow).length=(l).length:=List.length_map _
 by_cases hltk:k < (l).length
 ·have hltk2:(k:Int) < (((l).map ClRow).length:Int):=by omega
  have hC:=hp l[k] (List.getElem_mem hltk)
  cases hb':p l[k] with
  | true =>
   rw [hb'] at hC
   have hres:=idx_some hltk hb' hno
   refine Zi ?_
   refine YS ?_
   refine ZI ?_
   refine cr_ O O O (o_ O (Yq ?_))
   exact Wx
  | false =>
   rw [hb'] at hC
   refine Zi ?_
   refine YS ?_
   refine ZI ?_
   refine cr_ O O O (o_ O (ow_callc [0] O O hcap O hC (T_ (ap_ O O (as_ (Zx ?_))))))
   refine jq_againS (i:=k) (k+1) ⟨hltk,any_snoc hltk hno hb'⟩ g_ ?_ ?_
   ·exact Wx
   ·exact Wv
 ·have hltk2:¬ (k:Int) < (((l).map ClRow).length:Int):=by omega
  rw [List.take_of_length_le (by omega)] at hno
  have hres:=idx_none hno
  refine R_ (o_ O (Zk ?_))
  exact WH
theorem hasCl1_c (F:FuncId) [FI Tryz.prog F] (cap:List Value) (hcap:cap.all Value.oneCell'=true) (h1:Ch) (p:Clm→Bool) (l:List (Clm)) (hp:∀ x ∈ l,Con Tryz.prog F (.row (ClRow x) :: capS cap) [h1] (fun K=>K (Bl (p x)) [h1])) :
 Con Tryz.prog 106 [.cell (.list (l.map ClRow)),FC F cap] [h1] (fun K=>K (Bl (l.any p)) [h1]):=by
 have hI:=idxCl1_c F cap hcap h1 p l hp
 rw [← idx_any]
 generalize idxOf p l=m at hI ⊢
 exact con_intro Tryz.func106 O O b_ (fun c hc=>R_ (E_ O (T_ (R_ (M_ O (M_ O (o_ O (bi_ [0] O O hI (o_ O (cn_ O O (E_ O (T_ (ar_ (jq_ret1S O O (fun K h=>h) (bc_ 0 O sub_end)))))))))))))))
theorem each0_c (F:FuncId) [FI Tryz.prog F] (cap:List Value) (hcap:cap.all Value.oneCell'=true) (q:Sm→Bool) (A:List Sm→Bool) (hA:∀ l,A l=l.all (fun s=>q s && A s.thn && A s.els)) (hF:∀ s,s.index.length≤1000→s.value.length≤1000→Con Tryz.prog F (.row s.row' :: capS cap) [] (fun K=>K (Bl (q s)) [])) :
 ∀ l:List Sm,Sm.lnss l→Con Tryz.prog 99 [.cell (.list (l.map Sm.row)),FC F cap] [] (fun K=>K (Bl (A l)) []):=by
 refine Sms.ind (fun l ih hl=>?_)
 have e0:=hA l
 refine con_intro Tryz.func99 O O b_ (fun c hc=>ZV ?_)
 refine br_ O (fun hlen=>M_ O (T_ (au_ ?_)))
 refine jc_loopS (ι:=Nat) [] (fun k=>k≤(l).length∧(l.take k).all (fun s=>q s && A s.thn && A s.els)=true) (fun k=>(9,In .i64 (k:Int)) :: [(1,FC F cap),(7,.cell (.list (l.map Sm.row))),(8,In .i64 ((l.map Sm.row).length:Int))]) (fun k=>[]) (fun k=>(l).length - k) 0 ⟨Nat.zero_le _,rfl⟩ ?_ ?_ ?_
 ·exact sub_end
 ·exact Wv
 rintro k ⟨hk,hI⟩
 have eLk:((l).map Sm.row).length=(l).length:=List.length_map _
 by_cases hltk:k < (l).length
 ·have hltk2:(k:Int) < (((l).map Sm.row).length:Int):=by omega
  obtain ⟨i1,i2⟩:=ih l[k] (List.getElem_mem hltk)
  obtain ⟨z1,z2,z3,z4⟩:=Sm.lnss_mem hl l[k] (List.getElem_mem hltk)
  have c0:=hF l[k] z1 z2
  have c1:=i1 z3
  have c2:=i2 z4
  cases b0:q l[k] with
  | false =>
   have hres:A l=false:=by rw [e0]; exact all_no hltk (by rw [b0]; rfl)
   rw [b0] at c0
   refine Zi ?_
   refine Zq ?_
   refine Yn (fun bl=>?_)
   refine R_ (M_ O ?_)
   refine Wt ?_
   refine Zd ?_
   refine ai_ O O b_ (o_ O (bp_ O O O (M_ O (Zd ?_))))
   refine ai_ O O b_ ?_
   refine Y9 ?_
   refine Zr ?_
   exact WJ
  | true =>
   rw [b0] at c0
   cases b1:A l[k].thn with
   | false =>
    have hres:A l=false:=by rw [e0]; exact all_no hltk (by rw [b0,b1]; rfl)
    rw [b1] at c1
    refine Zi ?_
    refine Zq ?_
    refine Yn (fun bl=>?_)
    refine R_ (M_ O ?_)
    refine Wt ?_
    refine Ze ?_
    refine bd_ O (ah_ O O b_ (bi_ [] O O c1 (ZQ ?_)))
    refine M_ O (Zd ?_)
    refine ai_ O O b_ ?_
    refine Y9 ?_
    refine Zr ?_
    exact WJ
   | true =>
    rw [b1] at c1
    cases b2:A l[k].els with
    | false =>
     have hres:A l=false:=by rw [e0]; exact all_no hltk (by rw [b0,b1,b2]; rfl)
     rw [b2] at c2
     refine Zi ?_
     refine Zq ?_
     refine Yn (fun bl=>?_)
     refine R_ (M_ O ?_)
     refine Wt ?_
     refine Ze ?_
     refine bd_ O (ah_ O O b_ (bi_ [] O O c1 (ZQ ?_)))
     refine M_ O (Ze ?_)
     refine bd_ O (ah_ O O b_ (bi_ [] O O c2 (ah_ O O b_ (cd_ O ?_))))
     refine o_ O (bv_ O O O (T_ (aq_ O O (Zr ?_))))
     exact WJ
    | true =>
     rw [b2] at c2
     refine Zi ?_
     refine Zq ?_
     refine Yn (fun bl=>?_)
     refine R_ (M_ O ?_)
     refine Wt ?_
     refine Ze ?_
     refine bd_ O (ah_ O O b_ (bi_ [] O O c1 (ZQ ?_)))
     refine M_ O (Ze ?_)
     refine bd_ O (ah_ O O b_ (bi_ [] O O c2 (ah_ O O b_ (cd_ O ?_))))
     refine o_ O (bv_ O O O (T_ (ap_ O O (as_ (Zx ?_)))))
     refine jq_againS (i:=k) (k+1) ⟨hltk,all_snoc hltk hI (by rw [b0,b1,b2]; rfl)⟩ g_ ?_ ?_
     ·exact sub_end
     ·exact Wv
 ·have hltk2:¬ (k:Int) < (((l).map Sm.row).length:Int):=by omega
  rw [List.take_of_length_le (by omega)] at hI
  have hres:A l=true:=by rw [e0]; exact hI
  refine R_ (o_ O (Zk ?_))
  exact WI
theorem each2_c (F:FuncId) [FI Tryz.prog F] (cap:List Value) (hcap:cap.all Value.oneCell'=true) (h1:Ch) (h2:Ch) (q:Sm→Bool) (A:List Sm→Bool) (hA:∀ l,A l=l.all (fun s=>q s && A s.thn && A s.els)) (hF:∀ s,s.index.length≤1000→s.value.length≤1000→Con Tryz.prog F (.row s.row' :: capS cap) [h1,h2] (fun K=>K (Bl (q s)) [h1,h2])) :
 ∀ l:List Sm,Sm.lnss l→Con Tryz.prog 99 [.cell (.list (l.map Sm.row)),FC F cap] [h1,h2] (fun K=>K (Bl (A l)) [h1,h2]):=by
 refine Sms.ind (fun l ih hl=>?_)
 have e0:=hA l
 refine con_intro Tryz.func99 O O b_ (fun c hc=>ZV ?_)
 refine br_ O (fun hlen=>M_ O (T_ (au_ ?_)))
 refine jc_loopS (ι:=Nat) [] (fun k=>k≤(l).length∧(l.take k).all (fun s=>q s && A s.thn && A s.els)=true) (fun k=>(9,In .i64 (k:Int)) :: [(1,FC F cap),(7,.cell (.list (l.map Sm.row))),(8,In .i64 ((l.map Sm.row).length:Int))]) (fun k=>[h1,h2]) (fun k=>(l).length - k) 0 ⟨Nat.zero_le _,rfl⟩ ?_ ?_ ?_
 ·exact Ww
 ·exact Wv
 rintro k ⟨hk,hI⟩
 have eLk:((l).map Sm.row).length=(l).length:=List.length_map _
 by_cases hltk:k < (l).length
 ·have hltk2:(k:Int) < (((l).map Sm.row).length:Int):=by omega
  obtain ⟨i1,i2⟩:=ih l[k] (List.getElem_mem hltk)
  obtain ⟨z1,z2,z3,z4⟩:=Sm.lnss_mem hl l[k] (List.getElem_mem hltk)
  have c0:=hF l[k] z1 z2
  have c1:=i1 z3
  have c2:=i2 z4
  cases b0:q l[k] with
  | false =>
   have hres:A l=false:=by rw [e0]; exact all_no hltk (by rw [b0]; rfl)
   rw [b0] at c0
   refine Zi ?_
   refine Zq ?_
   refine Yn (fun bl=>?_)
   refine R_ (M_ O ?_)
   refine A_ 0 O (o_ O (ow_callc [1,1] O O hcap O c0 (o_ O (cd_ O (M_ O (Zd ?_))))))
   refine ai_ O O b_ (o_ O (bp_ O O O (M_ O (Zd ?_))))
   refine ai_ O O b_ ?_
   refine Y9 ?_
   refine Zr ?_
   exact WK
  | true =>
   rw [b0] at c0
   cases b1:A l[k].thn with
   | false =>
    have hres:A l=false:=by rw [e0]; exact all_no hltk (by rw [b0,b1]; rfl)
    rw [b1] at c1
    refine Zi ?_
    refine Zq ?_
    refine Yn (fun bl=>?_)
    refine R_ (M_ O ?_)
    refine A_ 0 O (o_ O (ow_callc [1,1] O O hcap O c0 (o_ O (cd_ O (Yi ?_)))))
    refine bg_ 2 O O O O (Zs ?_)
    refine bi_ [0,0] O O c1 (ZQ ?_)
    refine M_ O (Zd ?_)
    refine ai_ O O b_ ?_
    refine Y9 ?_
    refine Zr ?_
    exact WK
   | true =>
    rw [b1] at c1
    cases b2:A l[k].els with
    | false =>
     have hres:A l=false:=by rw [e0]; exact all_no hltk (by rw [b0,b1,b2]; rfl)
     rw [b2] at c2
     refine Zi ?_
     refine Zq ?_
     refine Yn (fun bl=>?_)
     refine R_ (M_ O ?_)
     refine A_ 0 O (o_ O (ow_callc [1,1] O O hcap O c0 (o_ O (cd_ O (Yi ?_)))))
     refine bg_ 2 O O O O (Zs ?_)
     refine bi_ [0,0] O O c1 (ZQ ?_)
     refine Yi ?_
     refine bg_ 2 O O O O (Zs ?_)
     refine bi_ [0,0] O O c2 (ah_ O O b_ (cd_ O ?_))
     refine o_ O (bv_ O O O (T_ (aq_ O O (Zr ?_))))
     exact WK
    | true =>
     rw [b2] at c2
     refine Zi ?_
     refine Zq ?_
     refine Yn (fun bl=>?_)
     refine R_ (M_ O ?_)
     refine A_ 0 O (o_ O (ow_callc [1,1] O O hcap O c0 (o_ O (cd_ O (Yi ?_)))))
     refine bg_ 2 O O O O (Zs ?_)
     refine bi_ [0,0] O O c1 (ZQ ?_)
     refine Yi ?_
     refine bg_ 2 O O O O (Zs ?_)
     refine bi_ [0,0] O O c2 (ah_ O O b_ (cd_ O ?_))
     refine o_ O (bv_ O O O (T_ (ap_ O O (as_ (Zx ?_)))))
     refine jq_againS (i:=k) (k+1) ⟨hltk,all_snoc hltk hI (by rw [b0,b1,b2]; rfl)⟩ g_ ?_ ?_
     ·exact Ww
     ·exact Wv
 ·have hltk2:¬ (k:Int) < (((l).map Sm.row).length:Int):=by omega
  rw [List.take_of_length_le (by omega)] at hI
  have hres:A l=true:=by rw [e0]; exact hI
  refine R_ (o_ O (Zk ?_))
  refine al_ (R_ (E_ O (T_ (ar_ (jq_ret1S O O (fun K h=>by rw [hres] at h; exact h) (bc_ 0 O ?_))))))
  exact Wx
theorem parts0_c (F:FuncId) [FI Tryz.prog F] (cap:List Value) (hcap:cap.all Value.oneCell'=true) (bo:Nat) (tb:TypeId) (q A:T→Bool) (hA:∀ t,A t=(q t && t.args.all A)) (hF:∀ (x:T) (v:Bool),Con Tryz.prog F (.row x.row' :: capS cap) [.blk bo tb [.val (.bool (v))]] (fun K=>K (.tup []) [.blk bo tb [.val (.bool (v && q x))]])) :
 ∀ (t:T) (v:Bool),Con Tryz.prog 153 [.row t.row',FC F cap] [.blk bo tb [.val (.bool (v))]] (fun K=>K (.tup []) [.blk bo tb [.val (.bool (v && A t))]]):=by
 refine T.ind (fun t ih v=>?_)
 have e0:=hA t
 have c0:=hF t v
 refine con_intro Tryz.func153 O O b_ (fun c hc=>R_ (o_ O (ci_ O (fun bx=>T_ (R_ (M_ O (A_ 0 O (o_ O (ow_callc [1] O O hcap O c0 (T_ (R_ (F_ O (L_ 1 O (o_ O (br_ O (fun hlen=>M_ O (T_ (au_ ?_))))))))))))))))))
 refine jc_loopS (ι:=Nat) [] (fun k=>k≤(t.args).length) (fun k=>(12,In .i64 (k:Int)) :: [(1,FC F cap),(10,.cell (.list (t.args.map T.row))),(11,In .i64 ((t.args.map T.row).length:Int))]) (fun k=>[.blk bo tb [.val (.bool (v && q t && (t.args.take k).all A))]]) (fun k=>(t.args).length - k) 0 (Nat.zero_le _) ?_ ?_ ?_
 ·rw [show (v && q t && (t.args.take 0).all A)=(v && q t) by simp]
  exact Wx
 ·exact Wv
 rintro k hk
 have eLk:((t.args).map T.row).length=(t.args).length:=List.length_map _
 by_cases hltk:k < (t.args).length
 ·have hltk2:(k:Int) < (((t.args).map T.row).length:Int):=by omega
  have c1:=ih t.args[k] (List.getElem_mem hltk) (v && q t && (t.args.take k).all A)
  refine Zi ?_
  refine Zy ?_
  refine Yn (fun bl=>?_)
  refine an_ (A_ 0 O ?_)
  refine M_ O (o_ O (bi_ [1] O O c1 (ak_ (Zx ?_))))
  refine jq_againS (i:=k) (k+1) hltk g_ ?_ ?_
  ·rw [show (v && q t && (t.args.take (k+1)).all A)=(v && q t && (t.args.take k).all A && A t.args[k]) by rw [List.take_succ_eq_append_getElem hltk,List.all_append,List.all_cons,List.all_nil,Bool.and_true,Bool.and_assoc,Bool.and_assoc,Bool.and_assoc]]
   exact Wx
  ·exact Wv
 ·have hltk2:¬ (k:Int) < (((t.args).map T.row).length:Int):=by omega
  rw [List.take_of_length_le (by omega)]
  have hres:(v && A t)=(v && q t && t.args.all A):=by rw [e0,Bool.and_assoc]
  exact R_ (o_ O (bw_ O O (T_ (am_ (ap_ O w_ (av_ (ax_ (ax_ (ba_ (jq_ret0S (.inr O) O (fun K h=>by rw [hres] at h; exact h) (bc_ 0 O sub_end)))))))))))
theorem parts1_c (F:FuncId) [FI Tryz.prog F] (cap:List Value) (hcap:cap.all Value.oneCell'=true) (bo:Nat) (tb:TypeId) (h1:Ch) (q A:T→Bool) (hA:∀ t,A t=(q t && t.args.all A)) (hF:∀ (x:T) (v:Bool),Con Tryz.prog F (.row x.row' :: capS cap) [.blk bo tb [.val (.bool (v))],h1] (fun K=>K (.tup []) [.blk bo tb [.val (.bool (v && q x))],h1])) :
 ∀ (t:T) (v:Bool),Con Tryz.prog 153 [.row t.row',FC F cap] [.blk bo tb [.val (.bool (v))],h1] (fun K=>K (.tup []) [.blk bo tb [.val (.bool (v && A t))],h1]):=by
 refine T.ind (fun t ih v=>?_)
 have e0:=hA t
 have c0:=hF t v
 refine con_intro Tryz.func153 O O b_ (fun c hc=>R_ (o_ O (ci_ O (fun bx=>T_ (R_ (M_ O (A_ 0 O (o_ O (ow_callc [1,1] O O hcap O c0 (T_ (Wh (fun hlen=>?_))))))))))))
 refine jc_loopS (ι:=Nat) [] (fun k=>k≤(t.args).length) (fun k=>(12,In .i64 (k:Int)) :: [(1,FC F cap),(10,.cell (.list (t.args.map T.row))),(11,In .i64 ((t.args.map T.row).length:Int))]) (fun k=>[.blk bo tb [.val (.bool (v && q t && (t.args.take k).all A))],h1]) (fun k=>(t.args).length - k) 0 (Nat.zero_le _) ?_ ?_ ?_
 ·rw [show (v && q t && (t.args.take 0).all A)=(v && q t) by simp]
  exact Ww
 ·exact Wv
 rintro k hk
 have eLk:((t.args).map T.row).length=(t.args).length:=List.length_map _
 by_cases hltk:k < (t.args).length
 ·have hltk2:(k:Int) < (((t.args).map T.row).length:Int):=by omega
  have c1:=ih t.args[k] (List.getElem_mem hltk) (v && q t && (t.args.take k).all A)
  refine Zi ?_
  refine Zy ?_
  refine Yn (fun bl=>?_)
  refine an_ (A_ 0 O ?_)
  refine M_ O (o_ O (bi_ [1,1] O O c1 (ak_ (Zx ?_))))
  refine jq_againS (i:=k) (k+1) hltk g_ ?_ ?_
  ·rw [show (v && q t && (t.args.take (k+1)).all A)=(v && q t && (t.args.take k).all A && A t.args[k]) by rw [List.take_succ_eq_append_getElem hltk,List.all_append,List.all_cons,List.all_nil,Bool.and_true,Bool.and_assoc,Bool.and_assoc,Bool.and_assoc]]
   exact Ww
  ·exact Wv
 ·have hltk2:¬ (k:Int) < (((t.args).map T.row).length:Int):=by omega
  rw [List.take_of_length_le (by omega)]
  have hres:(v && A t)=(v && q t && t.args.all A):=by rw [e0,Bool.and_assoc]
  exact R_ (o_ O (bw_ O O (T_ (am_ (ap_ O w_ (av_ (ax_ (ax_ (ba_ (jq_ret0S (.inr O) O (fun K h=>by rw [hres] at h; exact h) (bc_ 0 O (bc_ 0 O sub_end))))))))))))
theorem parts3_c (F:FuncId) [FI Tryz.prog F] (cap:List Value) (hcap:cap.all Value.oneCell'=true) (bo:Nat) (tb:TypeId) (h1:Ch) (h2:Ch) (h3:Ch) (q A:T→Bool) (hA:∀ t,A t=(q t && t.args.all A)) (hF:∀ (x:T) (v:Bool),Con Tryz.prog F (.row x.row' :: capS cap) [.blk bo tb [.val (.bool (v))],h1,h2,h3] (fun K=>K (.tup []) [.blk bo tb [.val (.bool (v && q x))],h1,h2,h3])) :
 ∀ (t:T) (v:Bool),Con Tryz.prog 153 [.row t.row',FC F cap] [.blk bo tb [.val (.bool (v))],h1,h2,h3] (fun K=>K (.tup []) [.blk bo tb [.val (.bool (v && A t))],h1,h2,h3]):=by
 refine T.ind (fun t ih v=>?_)
 have e0:=hA t
 have c0:=hF t v
 refine con_intro Tryz.func153 O O b_ (fun c hc=>R_ (o_ O (ci_ O (fun bx=>T_ (R_ (M_ O (A_ 0 O (o_ O (ow_callc [1,1,1,1] O O hcap O c0 (T_ (R_ (F_ O (L_ 4 O (o_ O (br_ O (fun hlen=>M_ O (T_ (au_ ?_))))))))))))))))))
 refine jc_loopS (ι:=Nat) [] (fun k=>k≤(t.args).length) (fun k=>(12,In .i64 (k:Int)) :: [(1,FC F cap),(10,.cell (.list (t.args.map T.row))),(11,In .i64 ((t.args.map T.row).length:Int))]) (fun k=>[.blk bo tb [.val (.bool (v && q t && (t.args.take k).all A))],h1,h2,h3]) (fun k=>(t.args).length - k) 0 (Nat.zero_le _) ?_ ?_ ?_
 ·rw [show (v && q t && (t.args.take 0).all A)=(v && q t) by simp]
  refine Y7 ?_
  exact Wx
 ·exact Wv
 rintro k hk
 have eLk:((t.args).map T.row).length=(t.args).length:=List.length_map _
 by_cases hltk:k < (t.args).length
 ·have hltk2:(k:Int) < (((t.args).map T.row).length:Int):=by omega
  have c1:=ih t.args[k] (List.getElem_mem hltk) (v && q t && (t.args.take k).all A)
  refine Zi ?_
  refine Zy ?_
  refine Yn (fun bl=>?_)
  refine an_ (A_ 0 O ?_)
  refine M_ O (o_ O (bi_ [1,1,1,1] O O c1 (ak_ (Zx ?_))))
  refine jq_againS (i:=k) (k+1) hltk g_ ?_ ?_
  ·rw [show (v && q t && (t.args.take (k+1)).all A)=(v && q t && (t.args.take k).all A && A t.args[k]) by rw [List.take_succ_eq_append_getElem hltk,List.all_append,List.all_cons,List.all_nil,Bool.and_true,Bool.and_assoc,Bool.and_assoc,Bool.and_assoc]]
   refine Y7 ?_
   exact Wx
  ·exact Wv
 ·have hltk2:¬ (k:Int) < (((t.args).map T.row).length:Int):=by omega
  rw [List.take_of_length_le (by omega)]
  have hres:(v && A t)=(v && q t && t.args.all A):=by rw [e0,Bool.and_assoc]
  exact R_ (o_ O (bw_ O O (T_ (am_ (ap_ O w_ (av_ (ax_ (ax_ (ba_ (jq_ret0S (.inr O) O (fun K h=>by rw [hres] at h; exact h) (bc_ 0 O (bc_ 0 O (bc_ 0 O (bc_ 0 O sub_end))))))))))))))
theorem eachN_c (F:FuncId) [FI Tryz.prog F] (b:Nat) (hF:∀ (s:Sm) (n:Nat),n≤1000000000→Con Tryz.prog F [.row s.row',Ptr b] [.blk b 3 [.val (.int .i64 (n:Int))]] (fun K=>K (Bl true) [.blk b 3 [.val (.int .i64 ((n+1:Nat):Int))]])) :
 ∀ l:List Sm,∀ n:Nat,n+Sm.szs l≤1000000000→Con Tryz.prog 99 [.cell (.list (l.map Sm.row)),FC F [PV b]] [.blk b 3 [.val (.int .i64 (n:Int))]] (fun K=>K (Bl true) [.blk b 3 [.val (.int .i64 ((n+Sm.szs l:Nat):Int))]]):=by
 refine Sms.ind (fun l ih n hn=>con_intro Tryz.func99 O O b_ (fun c hc=>ZV ?_))
 refine br_ O (fun hlen=>M_ O (T_ (au_ ?_)))
 refine jc_loopS (ι:=Nat) [] (fun k=>k≤(l).length) (fun k=>(9,In .i64 (k:Int)) :: [(1,FC F [PV b]),(7,.cell (.list (l.map Sm.row))),(8,In .i64 ((l.map Sm.row).length:Int))]) (fun k=>[.blk b 3 [.val (.int .i64 ((n+Sm.szs (l.take k):Nat):Int))]]) (fun k=>(l).length - k) 0 (Nat.zero_le _) ?_ ?_ ?_
 ·rw [show n+Sm.szs (l.take 0)=n by simp [Sm.szs]]
  exact Wx
 ·exact Wv
 rintro k hk
 have eLk:((l).map Sm.row).length=(l).length:=List.length_map _
 by_cases hltk:k < (l).length
 ·have hltk2:(k:Int) < (((l).map Sm.row).length:Int):=by omega
  obtain ⟨i1,i2⟩:=ih l[k] (List.getElem_mem hltk)
  have q1:=szs_step hltk
  have q2:=szs_step_le hltk
  have c0:=hF l[k] (n+Sm.szs (l.take k)) (by omega)
  have c1:=i1 (n+Sm.szs (l.take k)+1) (by omega)
  have c2:=i2 (n+Sm.szs (l.take k)+1+Sm.szs l[k].thn) (by omega)
  refine Zi ?_
  refine Zq ?_
  refine Yn (fun bl=>?_)
  refine R_ (M_ O ?_)
  refine A_ 0 O (o_ O (ow_callc [1] O O O O c0 (o_ O (cd_ O (Yi ?_)))))
  refine bg_ 1 O O O O (Zs ?_)
  refine bi_ [0] O O c1 (ZQ ?_)
  refine Yi ?_
  refine bg_ 1 O O O O (Zs ?_)
  refine bi_ [0] O O c2 (ah_ O O b_ (cd_ O ?_))
  refine o_ O (bv_ O O O (T_ (ap_ O O (as_ (Zx ?_)))))
  refine jq_againS (i:=k) (k+1) hltk g_ ?_ ?_
  ·rw [q1,show n+(Sm.szs (l.take k)+(1+Sm.szs l[k].thn+Sm.szs l[k].els))=n+Sm.szs (l.take k)+1+Sm.szs l[k].thn+Sm.szs l[k].els by omega]
   exact Wx
  ·exact Wv
 ·have hltk2:¬ (k:Int) < (((l).map Sm.row).length:Int):=by omega
  rw [List.take_of_length_le (by omega)]
  refine R_ (o_ O (Zk ?_))
  exact al_ (R_ (E_ O (T_ (ar_ (jq_ret1S O O (fun K h=>h) (bc_ 0 O sub_end))))))
end Go.Proofs.YtalkkcfojplmdaaGreatDoor
end
section
namespace Go.Proofs.YtalkkcfojplmdaaGreatDoor
open Go.Vc
attribute [local irreducible] JL JC JQ OpWp Con ConN
attribute [local irreducible] byteAt runLen isL isD isName hasW
set_option maxHeartbeats 4000000
theorem namedB_c (s:ByteArray):Con Tryz.prog 133 [Str s] [] (fun K=>K (Bl (nameB s)) []):=by
 refine con_intro Tryz.func133 O O b_ (fun c hc=>R_ (YU ?_))
 refine bm_ O (Name_c _) (M_ O (jl_and 3 2 O O O O (nb O) ?_))
 apply Exists.intro
 refine ⟨fun hb1=>?_,?_⟩
 refine Z8 ?_
 exact bm_ O (Keyword_c _) (ah_ O h_ b_ (cd_ O (ak_ (jq_seg 3 O O O (List.Perm.refl _)))))
 refine E_ O (T_ (ar_ (jq_ret1 O O [] O (fun K h=>h))))
theorem plainL_c (l:List Int):Con Tryz.prog 134 [.cell (.list (l.map Irow))] [] (fun K=>K (Bl (l.all plainB)) []):=by
 have eL:(l.map Irow).length=l.length:=List.length_map _
 refine con_intro Tryz.func134 O O b_ (fun c hc=>ZV ?_)
 refine br_ O (fun hlen=>M_ O (T_ (au_ (jc_loopS (ι:=Nat) [] (fun k=>k≤l.length∧(l.take k).all plainB=true) (fun k=>[(5,.cell (.list (l.map Irow))),(6,In .i64 ((l.map Irow).length:Int)),(7,In .i64 (k:Int))]) (fun _=>[]) (fun k=>l.length - k) 0 ⟨Nat.zero_le _,rfl⟩ ?_ ?_ ?_))))
 ·exact sub_end
 ·exact Wv
 rintro k ⟨hk,hall⟩
 by_cases hlt:k < l.length
 ·have hlt2:(k:Int) < ((l.map Irow).length:Int):=by omega
  refine Zi ?_
  refine ZI ?_
  refine cb_ O O (YU ?_)
  refine bw_ O O ?_
  refine M_ O (jl_or 2 2 O O O O (nb O) ?_)
  apply Exists.intro
  refine ⟨fun hb1=>?_,?_⟩
  refine Z8 ?_
  exact bz_ O O (ak_ (jq_seg 2 O O O (List.Perm.refl _)))
  refine T_ (jc_cond O (fun hn=>?_) (fun hy=>?_))
  ·have hp:plainB l[k]=false:=by
    unfold plainB
    simp only [Bool.or_eq_true,decide_eq_true_eq] at hn
    simp only [Bool.and_eq_false_iff,decide_eq_false_iff_not]
    omega
   have hno:=all_no hlt hp
   refine Zr ?_
   refine aw_ (jq_ret1 O O [] O (fun K h=>by rw [hno] at h; exact h))
  ·have hp:plainB l[k]=true:=by
    unfold plainB
    simp only [Bool.or_eq_false_iff,decide_eq_false_iff_not] at hy
    simp only [Bool.and_eq_true,decide_eq_true_eq]
    omega
   refine as_ (Zx ?_)
   refine jq_againS (k+1) ⟨hlt,all_snoc hlt hall hp⟩ g_ ?_ ?_
   ·exact sub_end
   ·exact Wv
 ·have hlt2:¬ (k:Int) < ((l.map Irow).length:Int):=by omega
  rw [List.take_of_length_le (by omega)] at hall
  refine R_ (o_ O (Zk ?_))
  refine al_ (R_ (E_ O (T_ (ar_ (jq_ret1 O O [] O (fun K h=>by rw [hall] at h; exact h))))))
theorem signedL_c (l:List Int):Con Tryz.prog 184 [.cell (.list (l.map Irow))] [] (fun K=>K (Bl (l.all smallB)) []):=by
 have eL:(l.map Irow).length=l.length:=List.length_map _
 refine con_intro Tryz.func184 O O b_ (fun c hc=>ZV ?_)
 refine br_ O (fun hlen=>M_ O (T_ (au_ (jc_loopS (ι:=Nat) [] (fun k=>k≤l.length∧(l.take k).all smallB=true) (fun k=>[(5,.cell (.list (l.map Irow))),(6,In .i64 ((l.map Irow).length:Int)),(7,In .i64 (k:Int))]) (fun _=>[]) (fun k=>l.length - k) 0 ⟨Nat.zero_le _,rfl⟩ ?_ ?_ ?_))))
 ·exact sub_end
 ·exact Wv
 rintro k ⟨hk,hall⟩
 by_cases hlt:k < l.length
 ·have hlt2:(k:Int) < ((l.map Irow).length:Int):=by omega
  refine Zi ?_
  refine ZI ?_
  refine cb_ O O (YU ?_)
  refine bw_ O O ?_
  refine M_ O (jl_or 2 2 O O O O (nb O) ?_)
  apply Exists.intro
  refine ⟨fun hb1=>?_,?_⟩
  refine Z8 ?_
  exact bz_ O O (ak_ (jq_seg 2 O O O (List.Perm.refl _)))
  refine T_ (jc_cond O (fun hn=>?_) (fun hy=>?_))
  ·have hp:smallB l[k]=false:=by
    unfold smallB
    simp only [Bool.or_eq_true,decide_eq_true_eq] at hn
    simp only [Bool.and_eq_false_iff,decide_eq_false_iff_not]
    omega
   have hno:=all_no hlt hp
   refine Zr ?_
   refine aw_ (jq_ret1 O O [] O (fun K h=>by rw [hno] at h; exact h))
  ·have hp:smallB l[k]=true:=by
    unfold smallB
    simp only [Bool.or_eq_false_iff,decide_eq_false_iff_not] at hy
    simp only [Bool.and_eq_true,decide_eq_true_eq]
    omega
   refine as_ (Zx ?_)
   refine jq_againS (k+1) ⟨hlt,all_snoc hlt hall hp⟩ g_ ?_ ?_
   ·exact sub_end
   ·exact Wv
 ·have hlt2:¬ (k:Int) < ((l.map Irow).length:Int):=by omega
  rw [List.take_of_length_le (by omega)] at hall
  refine R_ (o_ O (Zk ?_))
  refine al_ (R_ (E_ O (T_ (ar_ (jq_ret1 O O [] O (fun K h=>by rw [hall] at h; exact h))))))
def signA (o:Int):ByteArray:=if 1≤o∧o≤14 then signT o else ⟨#[]⟩
theorem signA_c (o:Int):Con Tryz.prog 227 [In .i64 o] [] (fun K=>K (Str (signA o)) []):=by
 by_cases h:1≤o∧o≤14
 ·have:=Sign_c o h
  unfold signA
  rw [if_pos h]
  exact this
 ·have e:signA o=⟨#[]⟩:=by unfold signA; rw [if_neg h]
  refine con_intro Tryz.func227 O O b_ (fun c hc=>?_)
  by_cases h1:o < 1
  ·refine ZV ?_
   refine bw_ O O (M_ O (ai_ O u_ b_ (ai_ O u_ b_ (o_ O (bp_ O u_ O (T_ (aq_ O O (R_ (E_ O (T_ ?_))))))))))
   refine ar_ (aw_ (jq_ret1 O O [] O (fun K h=>by rw [e] at h; exact h)))
  ·have h2:o > 14:=by omega
   refine ZV ?_
   refine YR ?_
   refine bz_ O O (o_ O (bv_ O w_ O (T_ (aq_ O u_ (R_ (E_ O (T_ ?_)))))))
   refine ar_ (aw_ (jq_ret1 O O [] O (fun K h=>by rw [e] at h; exact h)))
theorem signA_ne (o:Int):(!decide (signA o=⟨#[]⟩))=(decide (1≤o) && decide (o≤14)):=by
 by_cases h:1≤o∧o≤14
 ·have:=str_ne h
  unfold signA
  rw [if_pos h,decide_eq_false this,decide_eq_true h.1,decide_eq_true h.2]
  rfl
 ·unfold signA
  rw [if_neg h,decide_eq_true rfl]
  symm
  rw [Bool.not_true,Bool.and_eq_false_iff,decide_eq_false_iff_not,decide_eq_false_iff_not]
  omega
def shHd:T→Bool
 | .nu n=>smallB n
 | .nm s=>nameB s
 | .ix s _=>nameB s
 | .bn o _ _=>decide (1≤o) && decide (o≤14)
theorem shp_hd (F:Nat) (t:T):shpF (F+1) t=(shHd t && t.args.all (shpF F)):=by
 cases t <;> simp [shpF,shHd,T.args,Bool.and_assoc]
theorem shapedB_c:∀ (F:Nat) (t:T),F≤20→Con Tryz.prog 186 [.row t.row',In .i64 (21 - (F:Int))] [] (fun K=>K (Bl (shpF F t)) []):=by
 intro F
 induction F with
 | zero =>
  intro t _
  refine con_intro Tryz.func186 O O b_ (fun c hc=>ZD (fun bx=>?_))
  refine M_ O (o_ O (bz_ O O (ZO ?_)))
  refine aw_ ?_
  refine jq_ret1 O O [] O (fun K h=>h)
 | succ F ih =>
  intro t hF
  have eA:(t.args.map T.row).length=t.args.length:=List.length_map _
  have hF1:(21 - ((F+1:Nat):Int)+1)=21 - (F:Int):=by omega
  have hF2:¬ 20 < (21 - ((F+1:Nat):Int)):=by omega
  have hF3:0≤(21 - ((F+1:Nat):Int))∧(21 - ((F+1:Nat):Int))≤20:=by omega
  have ih:=fun x=>ih x (by omega)
  rw [← hF1] at ih
  have hsh:=shp_hd F t
  generalize (21 - ((F+1:Nat):Int))=d at hF1 hF2 hF3 ih ⊢
  refine con_intro Tryz.func186 O O b_ (fun c hc=>ZD (fun bx=>?_))
  refine M_ O (Wr ?_)
  refine al_ (R_ (F_ O (L_ 0 O ?_)))
  refine o_ O (bn_ O O (M_ O (jl_and 3 3 O O O O (nb O) ?_)))
  apply Exists.intro
  refine ⟨fun hb1=>?_,?_⟩
  refine Za ?_
  exact Wy
  refine E_ O (T_ (R_ (E_ O (T_ (am_ (R_ (F_ O (L_ 0 O (T_ (jc_cut (ι:=Unit) [] (fun _=>True) (fun _=>[(1,In .i64 d),(2,.cell (.val (.pointer (some ⟨bx,0,none⟩)))),(6,Bl (shHd t))]) (fun _=>[.blk bx 69 t.row']) ?_ ?_))))))))))
  ·clear ih eA hsh
   cases t with
   | nu n =>
    refine au_ (Zu ?_)
    refine aq_ O x_ (an_ (F_ O (L_ 0 O (YF ?_))))
    refine o_ O (bm_ O (signedL_c [n]) (M_ O (jl_and 3 4 O O O O (nb O) ?_)))
    apply Exists.intro
    refine ⟨fun hb1=>?_,?_⟩
    refine Za ?_
    exact cs_ O O (ak_ (jq_seg 3 O O O (List.Perm.refl _)))
    refine M_ O (jl_and 3 9 O O O O (nb O) ?_)
    apply Exists.intro
    refine ⟨fun hb1=>?_,?_⟩
    refine Za ?_
    exact Wy
    refine M_ O (jl_and 4 14 O O O O (nb O) ?_)
    apply Exists.intro
    refine ⟨fun hb1=>?_,?_⟩
    refine Za ?_
    refine YH (fun hlen=>?_)
    exact Wz
    refine E_ O (ak_ (ay_ (jq_bl 6 O (b':=shHd (.nu n)) (by simp [shHd,T.name,T.op,T.args]) (jq_cutS () trivial ?_ ?_))))
    ·exact Wx
    ·exact Wv
   | nm s =>
    refine au_ (Zu ?_)
    refine ap_ O O (Zu ?_)
    refine aq_ O x_ (an_ (F_ O (L_ 0 O (o_ O (bm_ O (namedB_c _) (M_ O ?_))))))
    refine jl_and 1 3 O O O O (nb O) ?_
    apply Exists.intro
    refine ⟨fun hb1=>?_,?_⟩
    exact WL
    refine M_ O (jl_and 4 6 O O O O (nb O) ?_)
    apply Exists.intro
    refine ⟨fun hb1=>?_,?_⟩
    refine Za ?_
    refine YH (fun hlen=>?_)
    exact Wz
    refine E_ O (ak_ (ay_ (jq_bl 6 O (b':=shHd (.nm s)) (by simp [shHd,T.num,T.name,T.op,T.args]) (jq_cutS () trivial ?_ ?_))))
    ·exact Wx
    ·exact Wv
   | ix s t =>
    refine au_ (Zu ?_)
    refine ap_ O O (Zu ?_)
    refine ap_ O O (Zu ?_)
    refine aq_ O x_ ?_
    refine an_ (F_ O (L_ 0 O (o_ O (bm_ O (namedB_c _) (M_ O (jl_and 1 3 O O O O (nb O) ?_))))))
    apply Exists.intro
    refine ⟨fun hb1=>?_,?_⟩
    exact WL
    refine M_ O (jl_and 4 6 O O O O (nb O) ?_)
    apply Exists.intro
    refine ⟨fun hb1=>?_,?_⟩
    refine Za ?_
    refine YH (fun hlen=>?_)
    exact Wz
    refine E_ O (ak_ (ay_ (jq_bl 6 O (b':=shHd (.ix s t)) (by simp [shHd,T.num,T.name,T.op,T.args]) (jq_cutS () trivial ?_ ?_))))
    ·exact Wx
    ·exact Wv
   | bn o a b =>
    have hne:decide (¬ signA o=⟨#[]⟩)=(decide (1≤o) && decide (o≤14)):=by rw [← signA_ne,decide_not]
    refine au_ (Zu ?_)
    refine ap_ O O (Zu ?_)
    refine ap_ O O (Zu ?_)
    refine ap_ O O ?_
    refine Zu ?_
    refine aq_ O x_ (an_ (F_ O (L_ 0 O (o_ O (bm_ O (signA_c _) (o_ O (ct_ O O (M_ O (jl_and 3 4 O O O O (nb O) ?_)))))))))
    apply Exists.intro
    refine ⟨fun hb1=>?_,?_⟩
    refine Za ?_
    exact Wy
    refine M_ O (jl_and 3 9 O O O O (nb O) ?_)
    apply Exists.intro
    refine ⟨fun hb1=>?_,?_⟩
    refine Za ?_
    exact cs_ O O (ak_ (jq_seg 3 O O O (List.Perm.refl _)))
    refine M_ O (jl_and 4 14 O O O O (nb O) ?_)
    apply Exists.intro
    refine ⟨fun hb1=>?_,?_⟩
    refine Za ?_
    refine YH (fun hlen=>?_)
    exact Wz
    refine E_ O (ak_ (ay_ (jq_bl 6 rfl (b':=shHd (.bn o a b)) (by rw [shHd,← hne]; by_cases hz:signA o=⟨#[]⟩ <;> simp [T.num,T.name,T.op,T.args,hz]) (jq_cutS () trivial ?_ ?_))))
    ·exact Wx
    ·exact Wv
  ·intro _ _
   refine am_ (Yh ?_)
   refine br_ O (fun hlen=>M_ O (T_ (au_ (jc_loopS (ι:=Nat) [] (fun k=>k≤t.args.length) (fun k=>[(1,In .i64 d),(6,Bl (shHd t && (t.args.take k).all (shpF F))),(94,.cell (.list (t.args.map T.row))),(95,In .i64 ((t.args.map T.row).length:Int)),(96,In .i64 (k:Int))]) (fun _=>[]) (fun k=>t.args.length - k) 0 (Nat.zero_le _) ?_ ?_ ?_))))
   ·exact sub_end
   ·rw [show (shHd t && (t.args.take 0).all (shpF F))=shHd t by simp]
    exact Wv
   intro k hk
   by_cases hlt:k < t.args.length
   ·have hlt2:(k:Int) < ((t.args.map T.row).length:Int):=by omega
    have ih1:=ih t.args[k]
    have e1:(shHd t && (t.args.take (k+1)).all (shpF F))=((shHd t && (t.args.take k).all (shpF F)) && shpF F t.args[k]):=by
     rw [List.take_succ_eq_append_getElem hlt,List.all_append,Bool.and_assoc]
     simp
    generalize (shHd t && (t.args.take k).all (shpF F))=z at e1 ⊢
    refine Zi ?_
    refine Zy ?_
    refine Yn (fun bl=>?_)
    refine an_ (M_ O ?_)
    refine M_ O (jl_and 4 1 O O O O (nb O) ?_)
    apply Exists.intro
    refine ⟨fun hb1=>?_,?_⟩
    refine ah_ O h_ b_ (bs_ 0 O O O O (Z8 ?_))
    exact bj_ O O g_ (ah_ O h_ b_ (bm_ O (ih1) (ak_ (jq_seg 4 O O O (List.Perm.refl _)))))
    refine E_ O (ak_ (Zx ?_))
    refine jq_againS (k+1) hlt g_ ?_ ?_
    ·exact sub_end
    ·rw [e1]
     exact Wv
   ·have hlt2:¬ (k:Int) < ((t.args.map T.row).length:Int):=by omega
    rw [List.take_of_length_le (show t.args.length≤k by omega),← hsh]
    refine R_ (o_ O (Zk ?_))
    refine al_ (R_ (M_ O (E_ O (T_ (ar_ (jq_ret1 O O [] O (fun K h=>h)))))))
end Go.Proofs.YtalkkcfojplmdaaGreatDoor
end
section
namespace Go.Proofs.YtalkkcfojplmdaaGreatDoor
open Go.Vc
attribute [local irreducible] JL JC JQ OpWp Con ConN
attribute [local irreducible] byteAt runLen isL isD isName hasW
set_option maxHeartbeats 4000000
def rightB (s:Sm):Bool :=
 if s.kind=1 then nameB s.name && decide (s.index.length=0) && decide (s.value.length=1) && (decide (s.max=0) && decide (s.label=0)) && decide (s.thn.length+s.els.length=0)
 else if s.kind=2 then nameB s.name && decide (s.index.length=1) && decide (s.value.length=1) && (decide (s.max=0) && decide (s.label=0)) && decide (s.thn.length+s.els.length=0)
 else if s.kind=3 then decide (s.name=⟨#[]⟩) && decide (s.index.length=0) && decide (s.value.length=1) && decide (s.max=0) && plainB s.label
 else if s.kind=4 then decide (s.name=⟨#[]⟩) && decide (s.index.length=0) && decide (s.value.length=1) && (plainB s.max && plainB s.label) && decide (s.els.length=0)
 else if s.kind=5 then nameB s.name && decide (s.index.length=0) && decide (s.value.length=0) && (decide (s.max=0) && decide (s.label=0)) && decide (s.els.length=0)
 else false
theorem wrap0 (a b:Nat) (ha:a≤9223372036854775807) (hb:b≤9223372036854775807):decide (IntKind.i64.wrap ((a:Int)+(b:Int))=0)=decide (a+b=0):=by
 rw [decide_eq_decide]
 simp only [IntKind.wrap,IntKind.bits,IntKind.signed]
 simp
 omega
theorem right_c (s:Sm):Con Tryz.prog 185 [.row s.row'] [] (fun K=>K (Bl (rightB s)) []):=by
 have eI:(s.index.map T.row).length=s.index.length:=List.length_map _
 have eV:(s.value.map T.row).length=s.value.length:=List.length_map _
 have eT:(s.thn.map Sm.row).length=s.thn.length:=List.length_map _
 have eE:(s.els.map Sm.row).length=s.els.length:=List.length_map _
 have d0:∀ n:Nat,decide ((n:Int)=0)=decide (n=0):=fun n=>by rw [decide_eq_decide]; omega
 have d1:∀ n:Nat,decide ((n:Int)=1)=decide (n=1):=fun n=>by rw [decide_eq_decide]; omega
 refine con_intro Tryz.func185 O O b_ (fun c hc=>?_)
 have hk:s.kind=1 ∨ s.kind=2 ∨ s.kind=3 ∨ s.kind=4 ∨ s.kind=5 ∨ ¬ (s.kind=1 ∨ s.kind=2 ∨ s.kind=3 ∨ s.kind=4 ∨ s.kind=5):=by omega
 rcases hk with hk | hk | hk | hk | hk | hk
 ·have e:rightB s=_:=if_pos hk
  refine Wu (fun bx=>?_)
  refine Yh ?_
  refine br_ O (fun hlen=>YV (fun hlen=>?_))
  refine YO ?_
  refine jl_and 3 3 O O O O (nb O) ?_
  apply Exists.intro
  refine ⟨fun hb1=>?_,?_⟩
  refine Za ?_
  exact Wy
  refine E_ O (T_ (am_ (Yu ?_)))
  refine Zu ?_
  refine aq_ O u_ (R_ (F_ O (L_ 0 O ?_)))
  refine o_ O (bm_ O (namedB_c _) (M_ O (jl_and 4 3 O O O O (nb O) ?_)))
  apply Exists.intro
  refine ⟨fun hb1=>?_,?_⟩
  refine Za ?_
  refine YH (fun hlen=>?_)
  exact Wz
  refine M_ O (jl_and 4 9 O O O O (nb O) ?_)
  apply Exists.intro
  refine ⟨fun hb1=>?_,?_⟩
  refine Za ?_
  refine YH (fun hlen=>?_)
  exact Wz
  refine M_ O (jl_and 1 15 O O O O (nb O) ?_)
  apply Exists.intro
  refine ⟨fun hb1=>?_,?_⟩
  exact WL
  refine M_ O (jl_and 1 18 O O O O (nb O) ?_)
  apply Exists.intro
  refine ⟨fun hb1=>?_,?_⟩
  exact WL
  refine E_ O (T_ (ar_ (az_ (aw_ (jq_bl 2 O (b':=rightB s) ?_ ?_)))))
  ·rw [e,wrap0 (s.thn.map Sm.row).length (s.els.map Sm.row).length (by assumption) (by assumption),d0,d1,eI,eV,eT,eE]
  refine jq_ret1 O O [] O (fun K h=>h)
 ·have e:rightB s=_:=(if_neg (by omega)).trans (if_pos hk)
  refine Wu (fun bx=>?_)
  refine Yh ?_
  refine br_ O (fun hlen=>YV (fun hlen=>?_))
  refine YO ?_
  refine jl_and 3 3 O O O O (nb O) ?_
  apply Exists.intro
  refine ⟨fun hb1=>?_,?_⟩
  refine Za ?_
  exact Wy
  refine E_ O (T_ (am_ (Yu ?_)))
  refine Zu ?_
  refine ap_ O v_ (R_ (o_ O (bn_ O O (E_ O ?_))))
  refine T_ (aq_ O u_ (Yh ?_))
  refine bm_ O (namedB_c _) (M_ O (jl_and 4 3 O O O O (nb O) ?_))
  apply Exists.intro
  refine ⟨fun hb1=>?_,?_⟩
  refine Za ?_
  refine YH (fun hlen=>?_)
  exact Wz
  refine M_ O (jl_and 4 9 O O O O (nb O) ?_)
  apply Exists.intro
  refine ⟨fun hb1=>?_,?_⟩
  refine Za ?_
  refine YH (fun hlen=>?_)
  exact Wz
  refine M_ O (jl_and 1 15 O O O O (nb O) ?_)
  apply Exists.intro
  refine ⟨fun hb1=>?_,?_⟩
  exact WL
  refine M_ O (jl_and 1 18 O O O O (nb O) ?_)
  apply Exists.intro
  refine ⟨fun hb1=>?_,?_⟩
  exact WL
  refine E_ O (T_ (ar_ (az_ (aw_ (jq_bl 2 O (b':=rightB s) ?_ ?_)))))
  ·rw [e,wrap0 (s.thn.map Sm.row).length (s.els.map Sm.row).length (by assumption) (by assumption),d1,d1,eI,eV,eT,eE]
  refine jq_ret1 O O [] O (fun K h=>h)
 ·have e:rightB s=_:=(if_neg (by omega)).trans ((if_neg (by omega)).trans (if_pos hk))
  refine Wu (fun bx=>?_)
  refine Yh ?_
  refine br_ O (fun hlen=>YV (fun hlen=>?_))
  refine YO ?_
  refine jl_and 3 3 O O O O (nb O) ?_
  apply Exists.intro
  refine ⟨fun hb1=>?_,?_⟩
  refine Za ?_
  exact Wy
  refine E_ O (T_ (am_ (Yu ?_)))
  refine Zu ?_
  refine ap_ O v_ (R_ (o_ O (bn_ O O (E_ O ?_))))
  refine T_ (ap_ O v_ (Zu ?_))
  refine aq_ O u_ (Yh ?_)
  refine cs_ O O (M_ O (jl_and 4 3 O O O O (nb O) ?_))
  apply Exists.intro
  refine ⟨fun hb1=>?_,?_⟩
  refine Za ?_
  refine YH (fun hlen=>?_)
  exact Wz
  refine M_ O (jl_and 4 9 O O O O (nb O) ?_)
  apply Exists.intro
  refine ⟨fun hb1=>?_,?_⟩
  refine Za ?_
  refine YH (fun hlen=>?_)
  exact Wz
  refine M_ O (jl_and 3 15 O O O O (nb O) ?_)
  apply Exists.intro
  refine ⟨fun hb1=>?_,?_⟩
  refine Za ?_
  exact Wy
  refine M_ O (jl_and 4 20 O O O O (nb O) ?_)
  apply Exists.intro
  refine ⟨fun hb1=>?_,?_⟩
  refine Za ?_
  exact bq_ O O b_ O O b_ (ah_ O h_ b_ (bm_ O (plainL_c [s.label]) (ak_ (jq_seg 4 O O O (List.Perm.refl _)))))
  refine E_ O (T_ (ar_ (az_ (aw_ (jq_bl 2 O (b':=rightB s) ?_ ?_)))))
  ·rw [e,d0,d1,eI,eV]
   simp [Bool.and_assoc]
  refine jq_ret1 O O [] O (fun K h=>h)
 ·have e:rightB s=_:=(if_neg (by omega)).trans ((if_neg (by omega)).trans ((if_neg (by omega)).trans (if_pos hk)))
  refine Wu (fun bx=>?_)
  refine Yh ?_
  refine br_ O (fun hlen=>YV (fun hlen=>?_))
  refine YO ?_
  refine jl_and 3 3 O O O O (nb O) ?_
  apply Exists.intro
  refine ⟨fun hb1=>?_,?_⟩
  refine Za ?_
  exact Wy
  refine E_ O (T_ (am_ (Yu ?_)))
  refine Zu ?_
  refine ap_ O v_ (R_ (o_ O (bn_ O O (E_ O ?_))))
  refine T_ (ap_ O v_ (Zu ?_))
  refine ap_ O v_ (Zu ?_)
  refine aq_ O u_ (Yh ?_)
  refine cs_ O O ?_
  refine M_ O (jl_and 4 3 O O O O (nb O) ?_)
  apply Exists.intro
  refine ⟨fun hb1=>?_,?_⟩
  refine Za ?_
  refine YH (fun hlen=>?_)
  exact Wz
  refine M_ O (jl_and 4 9 O O O O (nb O) ?_)
  apply Exists.intro
  refine ⟨fun hb1=>?_,?_⟩
  refine Za ?_
  refine YH (fun hlen=>?_)
  exact Wz
  refine M_ O (jl_and 6 15 O O O O (nb O) ?_)
  apply Exists.intro
  refine ⟨fun hb1=>?_,?_⟩
  refine Za ?_
  refine Ye ?_
  exact bq_ O O b_ O O b_ (ah_ O h_ b_ (bm_ O (plainL_c [s.max,s.label]) (ak_ (jq_seg 6 O O O (List.Perm.refl _)))))
  refine M_ O (jl_and 4 23 O O O O (nb O) ?_)
  apply Exists.intro
  refine ⟨fun hb1=>?_,?_⟩
  refine Za ?_
  refine YH (fun hlen=>?_)
  exact Wz
  refine E_ O (T_ (ar_ (az_ (aw_ (jq_bl 2 O (b':=rightB s) ?_ ?_)))))
  ·rw [e,d0,d1,d0,eI,eV,eE]
   simp [Bool.and_assoc]
  refine jq_ret1 O O [] O (fun K h=>h)
 ·have e:rightB s=_:=(if_neg (by omega)).trans ((if_neg (by omega)).trans ((if_neg (by omega)).trans ((if_neg (by omega)).trans (if_pos hk))))
  refine Wu (fun bx=>?_)
  refine Yh ?_
  refine br_ O (fun hlen=>YV (fun hlen=>?_))
  refine YO ?_
  refine jl_and 3 3 O O O O (nb O) ?_
  apply Exists.intro
  refine ⟨fun hb1=>?_,?_⟩
  refine Za ?_
  exact Wy
  refine E_ O (T_ (am_ (Yu ?_)))
  refine Zu ?_
  refine ap_ O v_ (R_ (o_ O (bn_ O O (E_ O ?_))))
  refine T_ (ap_ O v_ (Zu ?_))
  refine ap_ O v_ (Zu ?_)
  refine ap_ O v_ (Zu ?_)
  refine aq_ O u_ (Yh ?_)
  refine bm_ O (namedB_c _) (M_ O (jl_and 4 3 O O O O (nb O) ?_))
  apply Exists.intro
  refine ⟨fun hb1=>?_,?_⟩
  refine Za ?_
  refine YH (fun hlen=>?_)
  exact Wz
  refine M_ O (jl_and 4 9 O O O O (nb O) ?_)
  apply Exists.intro
  refine ⟨fun hb1=>?_,?_⟩
  refine Za ?_
  refine YH (fun hlen=>?_)
  exact Wz
  refine M_ O (jl_and 1 15 O O O O (nb O) ?_)
  apply Exists.intro
  refine ⟨fun hb1=>?_,?_⟩
  exact WL
  refine M_ O (jl_and 4 18 O O O O (nb O) ?_)
  apply Exists.intro
  refine ⟨fun hb1=>?_,?_⟩
  refine Za ?_
  refine YH (fun hlen=>?_)
  exact Wz
  refine E_ O (T_ (ar_ (az_ (aw_ (jq_bl 2 O (b':=rightB s) ?_ ?_)))))
  ·rw [e,d0,d0,d0,eI,eV,eE]
  refine jq_ret1 O O [] O (fun K h=>h)
 ·have e:rightB s=false:=(if_neg (by omega)).trans ((if_neg (by omega)).trans ((if_neg (by omega)).trans ((if_neg (by omega)).trans (if_neg (by omega)))))
  refine Wu (fun bx=>?_)
  refine Yh ?_
  refine br_ O (fun hlen=>YV (fun hlen=>?_))
  refine YO ?_
  refine jl_and 3 3 O O O O (nb O) ?_
  apply Exists.intro
  refine ⟨fun hb1=>?_,?_⟩
  refine Za ?_
  exact Wy
  refine E_ O (T_ (am_ (Yu ?_)))
  refine Zu ?_
  refine ap_ O v_ (R_ (o_ O (bn_ O O (E_ O ?_))))
  refine T_ (ap_ O v_ (Zu ?_))
  refine ap_ O v_ (Zu ?_)
  refine ap_ O v_ (Zu ?_)
  refine ap_ O v_ (as_ (ay_ (al_ (R_ (E_ O (T_ (ar_ (jq_ret1 O O [] O (fun K h=>by rw [e] at h; exact h)))))))))
end Go.Proofs.YtalkkcfojplmdaaGreatDoor
end
section
namespace Go.Proofs.YtalkkcfojplmdaaGreatDoor
open Go.Vc
attribute [local irreducible] JL JC JQ OpWp Con ConN
set_option maxHeartbeats 4000000
abbrev NilV:Value:=.slice none 0 0
theorem growE_c (n:Nat) (hn:n≤1000000):Con Tryz.prog 228 [.cell (.val NilV),In .i64 (n:Int)] [] (fun K=>∀ v:Value,True→K (.cell (.val v)) [.own v 69 5 []]):=by
 refine con_intro Tryz.func228 O O b_ (fun c hc=>?_)
 by_cases h0:0 < n
 ·refine ZV ?_
  refine bw_ O O (T_ (ap_ O O (as_ (al_ (YG ?_)))))
  refine o_ O (ow_capNil O ?_)
  refine M_ O (o_ O (ow_lenNil O (o_ O (cg_ O O g_ (o_ O (cg_ O O g_ (YU ?_)))))))
  refine bz_ O O (T_ (aq_ O t_ (an_ (M_ O (M_ O (o_ O (ow_capNil O (o_ O (ow_trimNil O O ?_)))))))))
  refine M_ O (o_ O (ow_growNil n O O O O (by decide) O O g_ h0 (by show n * 64≤_; omega) g_ (fun v _ _=>M_ O (o_ O (ow_lenNil O (o_ O (ow_trim 0 O O O g_ g_ (jl_trim 0 0 O (Nat.zero_le _) (E_ O (T_ (R_ (M_ O (E_ O (T_ (ar_ (jq_ret1 O O [0] O (fun K h=>h _ trivial)))))))))))))))))
 ·obtain rfl:n=0:=by omega
  refine ZV ?_
  refine bw_ O O (T_ (ap_ O O (as_ (al_ (YG ?_)))))
  refine o_ O (ow_capNil O ?_)
  refine M_ O (o_ O (ow_lenNil O (o_ O (cg_ O O g_ (o_ O (cg_ O O g_ (YU ?_)))))))
  refine bz_ O O (T_ (ap_ O O (as_ (al_ (R_ (M_ O (E_ O ?_)))))))
  refine T_ (ar_ (jq_ownNil 69 5 g_ (jq_ret1 O O [0] O (fun K h=>h _ trivial))))
end Go.Proofs.YtalkkcfojplmdaaGreatDoor
end
section
namespace Go.Proofs.YtalkkcfojplmdaaGreatDoor
open Go.Vc
attribute [local irreducible] JL JC JQ OpWp Con ConN
set_option maxHeartbeats 4000000
theorem concatE_c (A B:List T) (hA:A.length≤1000) (hB:B.length≤1000):Con Tryz.prog 187 [.cell (.list [[.list (A.map T.row)],[.list (B.map T.row)]])] [] (fun K=>K (.cell (.list ((A ++ B).map T.row))) []):=by
 have eA:(A.map T.row).length=A.length:=List.length_map _
 have eB:(B.map T.row).length=B.length:=List.length_map _
 refine con_intro Tryz.func187 O O b_ (fun c hc=>R_ (E_ O (T_ (ZV ?_))))
 refine br_ O (fun hlen=>M_ O (T_ (jc_cut (ι:=Unit) [] (fun _=>True) (fun _=>[(0,.cell (.list [[.list (A.map T.row)],[.list (B.map T.row)]])),(3,In .i64 ((A.length+B.length:Nat):Int))]) (fun _=>[]) ?_ ?_)))
 ·refine au_ (jc_loopS (ι:=Nat × Nat) [] (fun i=>(i.1=0∧i.2=0) ∨ (i.1=1∧i.2=A.length) ∨ (i.1=2∧i.2=A.length+B.length)) (fun i=>[(0,.cell (.list [[.list (A.map T.row)],[.list (B.map T.row)]])),(9,.cell (.list [[.list (A.map T.row)],[.list (B.map T.row)]])),(10,In .i64 2),(11,In .i64 (i.1:Int)),(3,In .i64 (i.2:Int))]) (fun _=>[]) (fun i=>2 - i.1) (0,0) (.inl ⟨rfl,rfl⟩) ?_ ?_ ?_)
  ·exact sub_end
  ·exact Wv
  rintro ⟨k,q⟩ hi
  dsimp only at hi ⊢
  rcases hi with ⟨rfl,rfl⟩ | ⟨rfl,rfl⟩ | ⟨rfl,rfl⟩
  ·refine YK ?_
   refine R_ (M_ O (M_ O ?_))
   refine o_ O (br_ O (fun hlen=>o_ O (bj_ O O g_ (YU ?_))))
   refine bw_ O O (T_ (ap_ O O (as_ (Zx ?_))))
   rw [show ((0:Nat):Int)+((A.map T.row).length:Int)=((A.length:Nat):Int) by omega]
   refine jq_againS (i:=(0,0)) (1,A.length) (.inr (.inl ⟨rfl,rfl⟩)) (by dsimp only; omega) ?_ ?_
   ·exact sub_end
   ·exact Wv
  ·refine YK ?_
   refine R_ (M_ O (M_ O ?_))
   refine o_ O (br_ O (fun hlen=>o_ O (bj_ O O g_ (YU ?_))))
   refine bw_ O O (T_ (ap_ O O (as_ (Zx ?_))))
   rw [show ((A.length:Nat):Int)+((B.map T.row).length:Int)=((A.length+B.length:Nat):Int) by omega]
   refine jq_againS (i:=(1,A.length)) (2,A.length+B.length) (.inr (.inr ⟨rfl,rfl⟩)) (by dsimp only; omega) ?_ ?_
   ·exact sub_end
   ·exact Wv
  ·refine R_ (o_ O (bw_ O O (T_ (am_ (ap_ O O (av_ (ax_ (ax_ (ba_ (jq_cutS () trivial ?_ ?_))))))))))
   ·exact sub_end
   ·exact Wv
 ·intro _ _
  refine R_ (M_ O (o_ O (bt_ [] O O (growE_c _ g_) (fun pp hpp=>E_ O (T_ (am_ (R_ (M_ O (o_ O (br_ O (fun hlen=>M_ O (T_ (au_ ?_)))))))))))))
  refine jc_loopS (ι:=Nat × Value × List T) [] (fun i=>(i.1=0∧i.2.2=[]) ∨ (i.1=1∧i.2.2=A) ∨ (i.1=2∧i.2.2=A ++ B)) (fun i=>[(25,.cell (.list [[.list (A.map T.row)],[.list (B.map T.row)]])),(26,In .i64 2),(27,In .i64 (i.1:Int)),(6,.cell (.val i.2.1))]) (fun i=>[.own i.2.1 69 5 (i.2.2.map T.row)]) (fun i=>2 - i.1) (0,pp,[]) (.inl ⟨rfl,rfl⟩) ?_ ?_ ?_
  ·exact Wx
  ·exact Wv
  rintro ⟨k,v,l⟩ hi
  dsimp only at hi ⊢
  rcases hi with ⟨rfl,hl⟩ | ⟨rfl,hl⟩ | ⟨rfl,hl⟩ <;> rw [hl] <;> clear hl
  ·refine YK ?_
   refine an_ (M_ O (M_ O ?_))
   refine o_ O (ow_appendM 0 (l1:=[]) (l2:=A) O O O O O O O (fun x=>by rw [T.row_eq];rfl) (by show (0+_) * 64≤_;omega) (by show 0+_≤_;omega) (fun v1 _=>E_ O (ak_ (Zx ?_))))
   refine jq_againS (i:=(0,v,[])) (1,v1,A) (.inr (.inl ⟨rfl,rfl⟩)) (by dsimp only; omega) ?_ ?_
   ·exact Wx
   ·exact Wv
  ·refine YK ?_
   refine an_ (M_ O (M_ O ?_))
   refine o_ O (ow_appendM 0 (l1:=A) (l2:=B) O O O O O O O (fun x=>by rw [T.row_eq];rfl) (by show (_+_) * 64≤_;omega) g_ (fun v1 _=>E_ O (ak_ (Zx ?_))))
   refine jq_againS (i:=(1,v,A)) (2,v1,A ++ B) (.inr (.inr ⟨rfl,rfl⟩)) (by dsimp only; omega) ?_ ?_
   ·exact Wx
   ·exact Wv
  ·refine R_ (o_ O (bw_ O O (T_ (am_ (ap_ O O (Yo ?_))))))
   refine T_ (ar_ (jq_freeze 2 0 O O (by rw [hc]; simp [hb]) ?_))
   refine jq_ret1 O O [] O (fun K h=>h)
theorem exprs_c (s:Sm) (hI:s.index.length≤1000) (hV:s.value.length≤1000):Con Tryz.prog 139 [.row s.row'] [] (fun K=>K (.cell (.list ((s.index ++ s.value).map T.row))) []):=by
 have hC:=concatE_c s.index s.value hI hV
 refine con_intro Tryz.func139 O O b_ (fun c hc=>R_ (o_ O (ci_ O (fun bx=>E_ O (T_ (R_ (F_ O (L_ 0 O (F_ O (L_ 0 O (o_ O (bq_ O O b_ O O b_ (o_ O (bm_ O (hC) (E_ O (T_ (ar_ (jq_ret1 O O [] O (fun K h=>h)))))))))))))))))))
end Go.Proofs.YtalkkcfojplmdaaGreatDoor
end
section
namespace Go.Proofs.YtalkkcfojplmdaaGreatDoor
open Go.Vc
attribute [local irreducible] JL JC JQ OpWp Con ConN HOk
set_option maxHeartbeats 4000000
def fillF {α:Type} (M l:List (ByteArray × α)):List (ByteArray × α):=l.foldl (fun M e=>aset M e.1 e.2) M
theorem fill_snoc {α:Type} (M l:List (ByteArray × α)) (e:ByteArray × α):fillF M (l ++ [e])=aset (fillF M l) e.1 e.2:=by simp [fillF]
theorem fill_app {α:Type} (M l m:List (ByteArray × α)):fillF M (l ++ m)=fillF (fillF M l) m:=by simp [fillF]
theorem fill_has {α:Type} (k:ByteArray):∀ l M:List (ByteArray × α),(aget (fillF M l) k).isSome=((aget M k).isSome || hasB (l.map (·.1)) k)
 | [],M=>by simp [fillF,hasB]
 | e :: l,M=>by
  show (aget (fillF (aset M e.1 e.2) l) k).isSome=_
  rw [fill_has k l,aget_aset,List.map_cons]
  have:hasB (e.1 :: l.map (·.1)) k=(decide (e.1=k) || hasB (l.map (·.1)) k):=rfl
  rw [this]
  by_cases h:e.1=k
  ·rw [if_pos h,decide_eq_true h]; simp
  ·rw [if_neg h,decide_eq_false h]; simp
theorem fill_new {α:Type} {l:List (ByteArray × α)}:∀ k,k≤l.length→dupB ((l.take k).map (·.1))=false→fillF [] (l.take k)=l.take k
 | 0,_,_=>rfl
 | k+1,hk,h=>by
  rw [List.take_succ_eq_append_getElem (by omega)] at h ⊢
  rw [List.map_append,List.map_cons,List.map_nil,dupB_snoc,Bool.or_eq_false_iff] at h
  rw [fill_snoc,fill_new k (by omega) h.1,aset_new]
  have:=fill_has (α:=α) l[k].1 (l.take k) []
  rw [fill_new k (by omega) h.1,h.2] at this
  simpa [aget] using this
theorem fill_len {α:Type} {l:List (ByteArray × α)}:∀ k,k≤l.length→(fillF [] (l.take k)).length≤k∧((fillF [] (l.take k)).length=k ↔ dupB ((l.take k).map (·.1))=false)
 | 0,_=>⟨Nat.le_refl _,fun _=>rfl,fun _=>rfl⟩
 | k+1,hk=>by
  obtain ⟨h1,h2⟩:=fill_len (l:=l) k (by omega)
  rw [List.take_succ_eq_append_getElem (by omega),fill_snoc,aset_length,List.map_append,List.map_cons,List.map_nil,dupB_snoc,fill_has]
  simp only [aget,Option.isSome_none,Bool.false_or]
  cases hb:hasB ((l.take k).map (·.1)) l[k].1 with
  | true =>
   rw [if_pos rfl]
   refine ⟨by omega,fun h=>by omega,fun h=>?_⟩
   rw [Bool.or_true] at h; cases h
  | false =>
   rw [if_neg (by decide),Bool.or_false]
   exact ⟨by omega,fun h=>h2.1 g_,fun h=>by rw [h2.2 h]⟩
theorem fill_dup {α:Type} (l:List (ByteArray × α)):decide (((fillF [] l).length:Int)=(l.length:Int))=!dupB (l.map (·.1)):=by
 have h:=(fill_len (l:=l) l.length (Nat.le_refl _)).2
 rw [List.take_of_length_le (Nat.le_refl _)] at h
 cases hd:dupB (l.map (·.1)) with
 | false=>exact decide_eq_true (by rw [h.2 hd])
 | true =>
  refine decide_eq_false (fun h2=>?_)
  rw [h.1 (by omega)] at hd; cases hd
theorem fill_id {α:Type} {l:List (ByteArray × α)} (h:dupB (l.map (·.1))=false):fillF [] l=l:=by
 have:=fill_new (l:=l) l.length (Nat.le_refl _)
 rw [List.take_of_length_le (Nat.le_refl _)] at this
 exact this h
theorem aget_app {α:Type} (k:ByteArray):∀ l m:List (ByteArray × α),aget (l ++ m) k=if hasB (l.map (·.1)) k=true then aget l k else aget m k
 | [],m=>rfl
 | e :: l,m=>by
  rw [List.cons_append,aget,aget,aget_app k l m,List.map_cons]
  have:hasB (e.1 :: l.map (·.1)) k=(decide (e.1=k) || hasB (l.map (·.1)) k):=rfl
  rw [this]
  by_cases h:e.1=k
  ·rw [if_pos h,if_pos h,decide_eq_true h]; rfl
  ·rw [if_neg h,if_neg h,decide_eq_false h]; rfl
theorem aget_const {α:Type} (k:ByteArray) (v:α):∀ l:List ByteArray,aget (l.map (fun s=>(s,v))) k=if hasB l k=true then some v else none
 | []=>rfl
 | e :: l=>by
  rw [List.map_cons,aget,aget_const k v l]
  have:hasB (e :: l) k=(decide (e=k) || hasB l k):=rfl
  rw [this]
  by_cases h:e=k
  ·rw [if_pos h,decide_eq_true h]; rfl
  ·rw [if_neg h,decide_eq_false h]; rfl
def declL (sh:List Shd) (t:Tk):List (ByteArray × Int):=(scaL t).map (fun s=>(s,1)) ++ (arrL sh t).map (fun s=>(s,2))
theorem decl_names (sh:List Shd) (t:Tk):(declL sh t).map (·.1)=scaL t ++ arrL sh t:=by simp [declL,List.map_map,Function.comp_def]
theorem decl_get {sh:List Shd} {t:Tk} (h:dupB (scaL t ++ arrL sh t)=false) (k:ByteArray):decide ((aget (fillF [] (declL sh t)) k).getD 0=1)=hasB (scaL t) k∧decide ((aget (fillF [] (declL sh t)) k).getD 0=2)=hasB (arrL sh t) k:=by
 rw [fill_id (by rw [decl_names]; exact h)]
 unfold declL
 rw [aget_app,aget_const,aget_const,List.map_map]
 have e1:(scaL t).map ((fun x:ByteArray × Int=>x.1) ∘ fun s=>(s,1))=scaL t:=by simp [Function.comp_def]
 rw [e1]
 cases h1:hasB (scaL t) k with
 | true =>
  refine ⟨rfl,?_⟩
  cases h2:hasB (arrL sh t) k with
  | false=>rfl
  | true =>
   have:=dupB_nodup.1 h
   rw [List.nodup_append] at this
   exact absurd O (this.2.2 k (hasB_iff.1 h1) k (hasB_iff.1 h2))
 | false=>cases h2:hasB (arrL sh t) k <;> exact ⟨rfl,rfl⟩
mutual
def Sm.allq (q:Sm→Bool):Sm→Bool
 | .mk k n i v m l t e=>q (.mk k n i v m l t e) && Sm.alls q t && Sm.alls q e
def Sm.alls (q:Sm→Bool):List Sm→Bool
 | []=>true
 | s :: l=>s.allq q && Sm.alls q l
end
theorem Sm.alls_all (q:Sm→Bool):∀ l:List Sm,Sm.alls q l=l.all (fun s=>q s && Sm.alls q s.thn && Sm.alls q s.els)
 | []=>rfl
 | s :: l=>by
  rw [Sm.alls,Sm.alls_all q l,List.all_cons]
  cases s
  rfl
theorem all_cong {α:Type} {p q:α→Bool}:∀ {l:List α},(∀ x ∈ l,p x=q x)→l.all p=l.all q
 | [],_=>rfl
 | x :: l,h=>by rw [List.all_cons,List.all_cons,h x (List.mem_cons_self ..),all_cong (fun y hy=>h y (List.mem_cons_of_mem _ hy))]
theorem alls_eq {q:Sm→Bool} {A:List Sm→Bool} (hA:∀ l,A l=l.all (fun s=>q s && A s.thn && A s.els)):∀ l,A l=Sm.alls q l:=by
 refine Sms.ind (fun l ih=>?_)
 rw [hA,Sm.alls_all]
 refine all_cong (fun s hs=>?_)
 obtain ⟨h1,h2⟩:=ih s hs
 rw [h1,h2]
theorem nmss_alls (vs ar rs:List ByteArray) (l:List Sm):Sm.nmss vs ar rs l=Sm.alls (fun s=>nmOne vs ar rs s && (s.index ++ s.value).all (useB vs ar)) l :=
 alls_eq (fun l=>by rw [Sm.nmss_all]; exact all_cong (fun s _=>by rw [nms_eq])) l
theorem wdss_alls (l:List Sm):Sm.wdss l=Sm.alls (fun s=>decide (0≤s.max) && decide (s.max≤32) && (s.index ++ s.value).all wdT) l :=
 alls_eq (fun l=>by rw [Sm.wdss_all]; exact all_cong (fun s _=>by rw [wds_eq])) l
def qM (M:List (ByteArray × Int)) (t:T):Bool:=(!decide (t.kind=2) || decide ((aget M t.name).getD 0=1)) && (!decide (t.kind=3) || decide ((aget M t.name).getD 0=2))
def useM (M:List (ByteArray × Int)):T→Bool
 | .nu _=>true
 | .nm s=>decide ((aget M s).getD 0=1)
 | .ix s t=>decide ((aget M s).getD 0=2) && useM M t
 | .bn _ a b=>useM M a && useM M b
theorem useM_eq (M:List (ByteArray × Int)) (t:T):useM M t=(qM M t && t.args.all (useM M)):=by cases t <;> simp [useM,qM,T.kind,T.name,T.args] <;> rfl
theorem useM_B {M:List (ByteArray × Int)} {vs ar:List ByteArray} (h:∀ s,decide ((aget M s).getD 0=1)=hasB vs s∧decide ((aget M s).getD 0=2)=hasB ar s):∀ t,useM M t=useB vs ar t
 | .nu _=>rfl
 | .nm s=>(h s).1
 | .ix s t=>by rw [useM,useB,(h s).2,useM_B h t]
 | .bn _ a b=>by rw [useM,useB,useM_B h a,useM_B h b]
def nmM (M:List (ByteArray × Int)) (rs:List ByteArray) (s:Sm):Bool:=(if s.kind=1 then decide ((aget M s.name).getD 0=1) else if s.kind=2 then decide ((aget M s.name).getD 0=2) else if s.kind=5 then hasB rs s.name else true) && (s.index ++ s.value).all (useM M)
theorem nmM_B {M:List (ByteArray × Int)} {vs ar rs:List ByteArray} (h:∀ s,decide ((aget M s).getD 0=1)=hasB vs s∧decide ((aget M s).getD 0=2)=hasB ar s) (s:Sm):nmM M rs s=(nmOne vs ar rs s && (s.index ++ s.value).all (useB vs ar)):=by
 unfold nmM nmOne
 rw [(h s.name).1,(h s.name).2,show useM M=useB vs ar from funext (useM_B h)]
theorem ctwice_c (l:List ByteArray):Con Tryz.prog 93 [.cell (.list (l.map Wrow))] [] (fun K=>K (Bl (dupB l)) []):=by
 refine con_intro Tryz.func93 O O b_ (fun c hc=>R_ (E_ O (T_ (R_ (o_ O (ow_makeMapE ByteArray Bool Value.bool (fun bm hbm=>E_ O (T_ (am_ (R_ (M_ O (o_ O (br_ O (fun hlen=>M_ O (T_ (au_ ?_))))))))))))))))
 refine jc_loopS (ι:=Nat) [] (fun k=>k≤(l).length∧dupB (l.take k)=false) (fun k=>(9,In .i64 (k:Int)) :: [(3,.cell (.val (.map (some bm)))),(7,.cell (.list (l.map Wrow))),(8,In .i64 ((l.map Wrow).length:Int))]) (fun k=>[.mapc bm (mapE Value.bool (fillF [] ((l.take k).map (fun s=>(s,true)))))]) (fun k=>(l).length - k) 0 ⟨Nat.zero_le _,rfl⟩ ?_ ?_ ?_
 ·exact Wx
 ·exact Wv
 rintro k ⟨hk,hI⟩
 have eLk:((l).map Wrow).length=(l).length:=List.length_map _
 by_cases hltk:k < (l).length
 ·have hltk2:(k:Int) < (((l).map Wrow).length:Int):=by omega
  have hg:(aget (fillF [] ((l.take k).map (fun s=>(s,true)))) l[k]).getD false=hasB (l.take k) l[k]:=by
   have e1:((l.take k).map (fun s=>(s,true))).map (·.1)=l.take k:=by simp [List.map_map,Function.comp_def]
   rw [fill_id (by rw [e1]; exact hI),aget_const]
   cases hasB (l.take k) l[k] <;> rfl
  cases hh:hasB (l.take k) l[k] with
  | true =>
   rw [hh] at hg
   have hres:dupB l=true:=dupB_yes hltk hh
   refine Zi ?_
   refine ZI ?_
   refine cb_ O O (E_ O (T_ (am_ (R_ (M_ O ?_)))))
   refine M_ O (o_ O (ow_mapGetOB (κ:=ByteArray) (M:=fillF [] ((l.take k).map (fun s=>(s,true)))) 0 O O O O O (T_ (aq_ O h_ (R_ (E_ O (T_ (ar_ (aw_ (az_ (aw_ (aw_ (az_ (aw_ (jq_ret1 O O [] O (fun K h=>by rw [hres] at h; exact h))))))))))))))))
  | false =>
   rw [hh] at hg
   have hI2:dupB (l.take (k+1))=false:=by rw [List.take_succ_eq_append_getElem hltk,dupB_snoc,hI,hh]; rfl
   refine Zi ?_
   refine ZI ?_
   refine cb_ O O (E_ O (T_ (am_ (R_ (M_ O ?_)))))
   refine M_ O (o_ O (ow_mapGetOB (κ:=ByteArray) (M:=fillF [] ((l.take k).map (fun s=>(s,true)))) 0 O O O O O (T_ (ap_ O h_ (as_ (al_ (an_ (M_ O (M_ O (ag_ (ow_mapPut (κ:=ByteArray) (vv:=Value.bool) (M:=fillF [] ((l.take k).map (fun s=>(s,true)))) 0 O O O O O (ak_ (ay_ (al_ (an_ (Wq ?_))))))))))))))))
   refine ak_ (jq_againS (i:=k) (k+1) ⟨hltk,hI2⟩ g_ ?_ ?_)
   ·rw [List.take_succ_eq_append_getElem hltk,List.map_append,List.map_cons,List.map_nil,fill_snoc]
    exact Wx
   ·exact Wv
 ·have hltk2:¬ (k:Int) < (((l).map Wrow).length:Int):=by omega
  rw [List.take_of_length_le (by omega)] at hI
  refine R_ (o_ O (Zk ?_))
  refine al_ (R_ (E_ O (T_ (ar_ (jq_ret1 O O [] O (fun K h=>by rw [hI] at h; exact h))))))
theorem declare1_c (bo bn bm:Nat) (M:List (ByteArray × Int)) (s:ByteArray) (k n:Int) (hn:0≤n∧n≤1000000):Con Tryz.prog 149 [Str s,In .i64 k,Ptr bo,Ptr bn] [.blk bo 143 [.val (.map (some bm))],.blk bn 3 [.val (.int .i64 (n))],.mapc bm (mapE (Value.int .i64) (M))] (fun K=>K (.tup []) [.blk bo 143 [.val (.map (some bm))],.blk bn 3 [.val (.int .i64 (n+1))],.mapc bm (mapE (Value.int .i64) (aset M s k))]):=by
 exact con_intro Tryz.func149 O O b_ (fun c hc=>R_ (L_ 0 O (M_ O (M_ O (ag_ (ow_mapPut (κ:=ByteArray) (vv:=Value.int .i64) (M:=M) 2 O O O O O (T_ (an_ (L_ 2 O (o_ O (bj_ O O g_ (W_ 2 O (ak_ (jq_ret0S (.inr O) O (fun K h=>h) (bc_ 2 O (bc_ 0 O (bc_ 0 O sub_end)))))))))))))))))
theorem decl_lists (p:Pg) (t:Tk):(((([] ++ t.inputs.map (fun x=>((fun x:Inp=>x.1) x,(1:Int)))) ++ t.vars.map (fun x=>((fun x:ByteArray=>x) x,(1:Int)))) ++ t.arrays.map (fun x=>((fun x:Arr=>x.1) x,(2:Int)))) ++ p.shared.map (fun x=>((fun x:Shd=>x.1) x,(2:Int))))=declL p.shared t:=by
 simp [declL,scaL,arrL,List.map_map,Function.comp_def]
theorem declare_c (p:Pg) (t:Tk) (ht:TkSz t) (hsh:p.shared.length≤1000):Con Tryz.prog 97 [.row p.row,.row t.row] [] (fun K=>K (.tup [.cell (.map (mapE (Value.int .i64) (fillF [] (declL p.shared t)))),Bl (!dupB (scaL t ++ arrL p.shared t))]) []):=by
 have e4:=decl_lists p t
 have z1:=ht.inputs
 have z2:=ht.vars
 have z3:=ht.arrays
 refine con_intro Tryz.func97 O O b_ (fun c hc=>R_ (o_ O (ci_ O (fun bx=>o_ O (ci_ O (fun bx=>E_ O (E_ O (T_ (R_ (o_ O (ow_makeMapE ByteArray Int (Value.int .i64) (fun bm hbm=>o_ O (bl_ O O (fun bl=>W_ 0 O (T_ (R_ (o_ O (bl_ O O (fun bl=>W_ 0 O (T_ ?_))))))))))))))))))))
 refine R_ (o_ O (ow_makeFunc O (E_ O (T_ (am_ (R_ (F_ O (L_ 3 O (o_ O (br_ O (fun hlen=>M_ O (T_ (au_ ?_)))))))))))))
 rename_i bp bo
 refine jc_loopS (ι:=Nat × List (ByteArray × Int)) [] (fun i=>i.1≤(t.inputs).length∧i.2=[] ++ ((t.inputs).take i.1).map (fun x=>((fun x:Inp=>x.1) x,(1:Int)))) (fun i=>(22,In .i64 (i.1:Int)) :: [(2,.cell (.val (.pointer (some ⟨bp,0,none⟩)))),(3,.cell (.val (.pointer (some ⟨bx,0,none⟩)))),(6,.cell (.val (.pointer (some ⟨bo,0,none⟩)))),(7,.cell (.val (.pointer (some ⟨bl,0,none⟩)))),(8,FC 149 [PV bo,PV bl]),(20,.cell (.list ((t.inputs).map InRow))),(21,In .i64 (((t.inputs).map InRow).length:Int))]) (fun i=>[.blk bo 143 [.val (.map (some bm))],.blk bl 3 [.val (.int .i64 ((i.2).length:Int))],.mapc bm (mapE (Value.int .i64) (fillF [] (i.2))),.blk bp 31 p.row,.blk bx 39 t.row]) (fun i=>(t.inputs).length - i.1) (0,[]) ⟨Nat.zero_le _,by simp⟩ ?_ ?_ ?_
 ·exact bc_ 1 O (bc_ 0 O (bc_ 0 O (bc_ 1 O (bc_ 0 O sub_end))))
 ·exact Wv
 rintro ⟨k,D⟩ hz
 dsimp only at hz ⊢
 obtain ⟨hk,hD⟩:=hz
 have eLk:((t.inputs).map InRow).length=(t.inputs).length:=List.length_map _
 by_cases hltk:k < (t.inputs).length
 ·have hltk2:(k:Int) < (((t.inputs).map InRow).length:Int):=by omega
  have hDl:=congrArg List.length hD
  simp only [List.length_append,List.length_map,List.length_take,List.length_nil] at hDl
  have c0:=declare1_c bo bl bm (fillF [] D) ((fun x:Inp=>x.1) (t.inputs)[k]) 1 (D.length:Int) (by omega)
  refine Zi ?_
  refine Zm (fun bl=>?_)
  refine an_ (M_ O ?_)
  refine F_ O (L_ 0 O (o_ O (ow_callc [1,1,1] O O O O c0 (ak_ (Zx ?_)))))
  refine jq_againS (i:=(k,D)) (k+1,D ++ [(((fun x:Inp=>x.1) (t.inputs)[k]),(1:Int))]) ⟨hltk,by dsimp only; rw [hD,List.take_succ_eq_append_getElem hltk,List.map_append,List.append_assoc]; rfl⟩ (by dsimp only; omega) ?_ ?_
  ·rw [fill_snoc,List.length_append,List.length_singleton,Int.natCast_add,Int.natCast_one]
   refine Y7 ?_
   exact bc_ 1 O (bc_ 1 O sub_end)
  ·exact Wv
 ·have hltk2:¬ (k:Int) < (((t.inputs).map InRow).length:Int):=by omega
  rw [List.take_of_length_le (by omega)] at hD
  subst hD
  refine R_ (o_ O (Zk ?_))
  refine al_ (am_ (R_ (F_ O (L_ 4 O (o_ O (br_ O (fun hlen=>M_ O ?_)))))))
  refine T_ (au_ ?_)
  refine jc_loopS (ι:=Nat × List (ByteArray × Int)) [] (fun i=>i.1≤(t.vars).length∧i.2=([] ++ t.inputs.map (fun x=>((fun x:Inp=>x.1) x,(1:Int)))) ++ ((t.vars).take i.1).map (fun x=>((fun x:ByteArray=>x) x,(1:Int)))) (fun i=>(34,In .i64 (i.1:Int)) :: [(2,.cell (.val (.pointer (some ⟨bp,0,none⟩)))),(3,.cell (.val (.pointer (some ⟨bx,0,none⟩)))),(6,.cell (.val (.pointer (some ⟨bo,0,none⟩)))),(7,.cell (.val (.pointer (some ⟨bl,0,none⟩)))),(8,FC 149 [PV bo,PV bl]),(32,.cell (.list ((t.vars).map Wrow))),(33,In .i64 (((t.vars).map Wrow).length:Int))]) (fun i=>[.blk bo 143 [.val (.map (some bm))],.blk bl 3 [.val (.int .i64 ((i.2).length:Int))],.mapc bm (mapE (Value.int .i64) (fillF [] (i.2))),.blk bp 31 p.row,.blk bx 39 t.row]) (fun i=>(t.vars).length - i.1) (0,([] ++ t.inputs.map (fun x=>((fun x:Inp=>x.1) x,(1:Int))))) ⟨Nat.zero_le _,by simp⟩ ?_ ?_ ?_
  ·refine Zp ?_
   exact Wx
  ·exact Wv
  rintro ⟨j,D⟩ hz
  dsimp only at hz ⊢
  obtain ⟨hj,hD⟩:=hz
  have eLj:((t.vars).map Wrow).length=(t.vars).length:=List.length_map _
  by_cases hltj:j < (t.vars).length
  ·have hltj2:(j:Int) < (((t.vars).map Wrow).length:Int):=by omega
   have hDl:=congrArg List.length hD
   simp only [List.length_append,List.length_map,List.length_take,List.length_nil] at hDl
   have c0:=declare1_c bo bl bm (fillF [] D) ((fun x:ByteArray=>x) (t.vars)[j]) 1 (D.length:Int) (by omega)
   refine Zi ?_
   refine ZI ?_
   refine cb_ O O (E_ O (T_ (an_ (M_ O (M_ O ?_)))))
   refine o_ O (ow_callc [0,0,0] O O O O c0 (ak_ (Zx ?_)))
   refine jq_againS (i:=(j,D)) (j+1,D ++ [(((fun x:ByteArray=>x) (t.vars)[j]),(1:Int))]) ⟨hltj,by dsimp only; rw [hD,List.take_succ_eq_append_getElem hltj,List.map_append,List.append_assoc]; rfl⟩ (by dsimp only; omega) ?_ ?_
   ·rw [fill_snoc,List.length_append,List.length_singleton,Int.natCast_add,Int.natCast_one]
    refine Zp ?_
    exact Wx
   ·exact Wv
  ·have hltj2:¬ (j:Int) < (((t.vars).map Wrow).length:Int):=by omega
   rw [List.take_of_length_le (by omega)] at hD
   subst hD
   refine R_ (o_ O (Zk ?_))
   refine al_ (am_ (R_ (F_ O (L_ 4 O (o_ O (br_ O (fun hlen=>M_ O ?_)))))))
   refine T_ (au_ ?_)
   refine jc_loopS (ι:=Nat × List (ByteArray × Int)) [] (fun i=>i.1≤(t.arrays).length∧i.2=(([] ++ t.inputs.map (fun x=>((fun x:Inp=>x.1) x,(1:Int)))) ++ t.vars.map (fun x=>((fun x:ByteArray=>x) x,(1:Int)))) ++ ((t.arrays).take i.1).map (fun x=>((fun x:Arr=>x.1) x,(2:Int)))) (fun i=>(45,In .i64 (i.1:Int)) :: [(2,.cell (.val (.pointer (some ⟨bp,0,none⟩)))),(3,.cell (.val (.pointer (some ⟨bx,0,none⟩)))),(6,.cell (.val (.pointer (some ⟨bo,0,none⟩)))),(7,.cell (.val (.pointer (some ⟨bl,0,none⟩)))),(8,FC 149 [PV bo,PV bl]),(43,.cell (.list ((t.arrays).map ArRow))),(44,In .i64 (((t.arrays).map ArRow).length:Int))]) (fun i=>[.blk bo 143 [.val (.map (some bm))],.blk bl 3 [.val (.int .i64 ((i.2).length:Int))],.mapc bm (mapE (Value.int .i64) (fillF [] (i.2))),.blk bp 31 p.row,.blk bx 39 t.row]) (fun i=>(t.arrays).length - i.1) (0,(([] ++ t.inputs.map (fun x=>((fun x:Inp=>x.1) x,(1:Int)))) ++ t.vars.map (fun x=>((fun x:ByteArray=>x) x,(1:Int))))) ⟨Nat.zero_le _,by simp⟩ ?_ ?_ ?_
   ·refine Zp ?_
    exact Wx
   ·exact Wv
   rintro ⟨l,D⟩ hz
   dsimp only at hz ⊢
   obtain ⟨hl,hD⟩:=hz
   have eLl:((t.arrays).map ArRow).length=(t.arrays).length:=List.length_map _
   by_cases hltl:l < (t.arrays).length
   ·have hltl2:(l:Int) < (((t.arrays).map ArRow).length:Int):=by omega
    have hDl:=congrArg List.length hD
    simp only [List.length_append,List.length_map,List.length_take,List.length_nil] at hDl
    have c0:=declare1_c bo bl bm (fillF [] D) ((fun x:Arr=>x.1) (t.arrays)[l]) 2 (D.length:Int) (by omega)
    refine Zi ?_
    refine Zm (fun bl=>?_)
    refine an_ (M_ O ?_)
    refine F_ O (L_ 0 O (o_ O (ow_callc [1,1,1] O O O O c0 (ak_ (Zx ?_)))))
    refine jq_againS (i:=(l,D)) (l+1,D ++ [(((fun x:Arr=>x.1) (t.arrays)[l]),(2:Int))]) ⟨hltl,by dsimp only; rw [hD,List.take_succ_eq_append_getElem hltl,List.map_append,List.append_assoc]; rfl⟩ (by dsimp only; omega) ?_ ?_
    ·rw [fill_snoc,List.length_append,List.length_singleton,Int.natCast_add,Int.natCast_one]
     refine Y7 ?_
     exact bc_ 1 O (bc_ 1 O sub_end)
    ·exact Wv
   ·have hltl2:¬ (l:Int) < (((t.arrays).map ArRow).length:Int):=by omega
    rw [List.take_of_length_le (by omega)] at hD
    subst hD
    refine R_ (o_ O (Zk ?_))
    refine al_ (am_ (R_ (F_ O (L_ 3 O (o_ O (br_ O (fun hlen=>M_ O ?_)))))))
    refine T_ (au_ ?_)
    refine jc_loopS (ι:=Nat × List (ByteArray × Int)) [] (fun i=>i.1≤(p.shared).length∧i.2=((([] ++ t.inputs.map (fun x=>((fun x:Inp=>x.1) x,(1:Int)))) ++ t.vars.map (fun x=>((fun x:ByteArray=>x) x,(1:Int)))) ++ t.arrays.map (fun x=>((fun x:Arr=>x.1) x,(2:Int)))) ++ ((p.shared).take i.1).map (fun x=>((fun x:Shd=>x.1) x,(2:Int)))) (fun i=>(57,In .i64 (i.1:Int)) :: [(2,.cell (.val (.pointer (some ⟨bp,0,none⟩)))),(3,.cell (.val (.pointer (some ⟨bx,0,none⟩)))),(6,.cell (.val (.pointer (some ⟨bo,0,none⟩)))),(7,.cell (.val (.pointer (some ⟨bl,0,none⟩)))),(8,FC 149 [PV bo,PV bl]),(55,.cell (.list ((p.shared).map ShRow))),(56,In .i64 (((p.shared).map ShRow).length:Int))]) (fun i=>[.blk bo 143 [.val (.map (some bm))],.blk bl 3 [.val (.int .i64 ((i.2).length:Int))],.mapc bm (mapE (Value.int .i64) (fillF [] (i.2))),.blk bp 31 p.row,.blk bx 39 t.row]) (fun i=>(p.shared).length - i.1) (0,((([] ++ t.inputs.map (fun x=>((fun x:Inp=>x.1) x,(1:Int)))) ++ t.vars.map (fun x=>((fun x:ByteArray=>x) x,(1:Int)))) ++ t.arrays.map (fun x=>((fun x:Arr=>x.1) x,(2:Int))))) ⟨Nat.zero_le _,by simp⟩ ?_ ?_ ?_
    ·refine Zp ?_
     exact Wx
    ·exact Wv
    rintro ⟨m,D⟩ hz
    dsimp only at hz ⊢
    obtain ⟨hm,hD⟩:=hz
    have eLm:((p.shared).map ShRow).length=(p.shared).length:=List.length_map _
    by_cases hltm:m < (p.shared).length
    ·have hltm2:(m:Int) < (((p.shared).map ShRow).length:Int):=by omega
     have hDl:=congrArg List.length hD
     simp only [List.length_append,List.length_map,List.length_take,List.length_nil] at hDl
     have c0:=declare1_c bo bl bm (fillF [] D) ((fun x:Shd=>x.1) (p.shared)[m]) 2 (D.length:Int) (by omega)
     refine Zi ?_
     refine Zm (fun bl=>?_)
     refine an_ (M_ O ?_)
     refine F_ O (F_ O (L_ 0 O (o_ O (ow_callc [1,1,1] O O O O c0 (ak_ (Zx ?_))))))
     refine jq_againS (i:=(m,D)) (m+1,D ++ [(((fun x:Shd=>x.1) (p.shared)[m]),(2:Int))]) ⟨hltm,by dsimp only; rw [hD,List.take_succ_eq_append_getElem hltm,List.map_append,List.append_assoc]; rfl⟩ (by dsimp only; omega) ?_ ?_
     ·rw [fill_snoc,List.length_append,List.length_singleton,Int.natCast_add,Int.natCast_one]
      refine Y7 ?_
      exact bc_ 1 O (bc_ 1 O sub_end)
     ·exact Wv
    ·have hltm2:¬ (m:Int) < (((p.shared).map ShRow).length:Int):=by omega
     rw [List.take_of_length_le (by omega)] at hD
     subst hD
     refine R_ (o_ O (Zk ?_))
     refine al_ (am_ (ao_ O O k_ k_ (yL_ 0 O (yL_ 0 O ?_))))
     refine aa_ (fun c=>ow_lenMapO (M:=fillF [] ((((([] ++ t.inputs.map (fun x=>((fun x:Inp=>x.1) x,(1:Int)))) ++ t.vars.map (fun x=>((fun x:ByteArray=>x) x,(1:Int)))) ++ t.arrays.map (fun x=>((fun x:Arr=>x.1) x,(2:Int)))) ++ p.shared.map (fun x=>((fun x:Shd=>x.1) x,(2:Int)))))) 2 O O p_) (yL_ 1 O (aa_ (fun c=>bn_ O O p_) (yE_ O (yE_ O (ae_ (al_ (ar_ ?_)))))))
     refine jq_freezeM 4 2 O O hbm ?_
     rw [e4]
     have hd:=fill_dup (declL p.shared t)
     rw [decl_names] at hd
     exact jq_ret2S O O O (fun K h=>by rw [← hd] at h; exact h) sub_end
end Go.Proofs.YtalkkcfojplmdaaGreatDoor
end
section
namespace Go.Proofs.YtalkkcfojplmdaaGreatDoor
open Go.Vc
attribute [local irreducible] evJ evF Jb.arr
set_option maxHeartbeats 1000000
def fitB (ins:List Inp) (vs:List Int):Bool:=decide (ins.length=vs.length) && (ins.zip vs).all (fun p=>decide (p.1.2.1≤p.2) && decide (p.2≤p.1.2.2))
def wordB (n:Int):Bool:=decide (-2147483648≤n) && decide (n < 2147483648)
def filB (shs:List Shd) (ss:List (List Int)):Bool:=decide (shs.length=ss.length) && (shs.zip ss).all (fun p=>decide ((p.2.length:Int)=p.1.2.1) && p.2.all wordB)
abbrev LRow (l:List Int):List C:=[.list (l.map Irow)]
structure Out where
 vars:List Int
 arrs:List (List Int)
 shs:List (List Int)
 counts:List Int
 steps:Int
abbrev OutRow (o:Out):List C:=[.list (o.vars.map Irow),.list (o.arrs.map LRow),.list (o.shs.map LRow),.list (o.counts.map Irow),.val (.int .i64 o.steps)]
def outZ:Out:=⟨[],[],[],[],0⟩
def AMof (p:Pg) (t:Tk):AMt:=fillF [] (t.arrays.map (fun x=>(x.1,true)) ++ p.shared.map (fun x=>(x.1,false)))
def kIf (k:Nat) (l:List Int):List Int:=match k with | 0=>[] | _+1=>l
def ca0 (l:List Arr):List Int:=kIf l.length (List.replicate (l.headD (⟨#[]⟩,0)).2.toNat 0)
def cb0 (l:List Shd) (ss:List (List Int)):List Int:=kIf l.length (ss.headD [])
def jb0 (p:Pg) (t:Tk) (ins:List Int) (ss:List (List Int)):Jb:=⟨fillF [] ((t.inputs.map (·.1)).zip ins),ca0 t.arrays,cb0 p.shared ss,(List.replicate 39 (0:Int)).set 0 1,0⟩
def runO (p:Pg) (t:Tk) (ins:List Int) (ss:List (List Int)):Out :=
 let j:=runL (AMof p t) t.body (jb0 p t ins ss)
 ⟨(scaL t).map (fun s=>(aget j.V s).getD 0),t.arrays.map (fun _=>j.ca),p.shared.map (fun _=>j.cb),j.cn,j.st⟩
def tk0:Tk:=⟨⟨#[]⟩,0,0,0,0,[],[],[],[],[],[]⟩
def runF (p:Pg) (task:Int) (ins:List Int) (ss:List (List Int)):Out × Int :=
 if ckF p≠0 then (outZ,ckF p) else if 0≤task∧task < (p.tasks.length:Int) then
  (if fitB (p.tasks.getD task.toNat tk0).inputs ins=false then (outZ,9) else if filB p.shared ss=false then (outZ,10) else (runO p (p.tasks.getD task.toNat tk0) ins ss,0)) else (outZ,8)
structure Rn (p:Pg) (t:Tk):Prop where
 a1:t.arrays.length≤1
 s1:p.shared.length≤1
 nd:dupB (scaL t ++ arrL p.shared t)=false
 asz:∀ x ∈ t.arrays,1≤x.2∧x.2≤16
 ssz:∀ x ∈ p.shared,1≤x.2.1∧x.2.1≤16
 rok:Sm.roks (hasB (arrL p.shared t)) t.body=true
 cst:Sm.csts t.body≤1000000
theorem aset_map {α β:Type} (f:α→β) (k:ByteArray) (v:α):∀ M:List (ByteArray × α),(aset M k v).map (fun e=>(e.1,f e.2))=aset (M.map (fun e=>(e.1,f e.2))) k (f v)
 | []=>rfl
 | e :: M=>by
  rw [aset,List.map_cons,aset]
  by_cases h:e.1=k
  ·rw [if_pos h,if_pos h]; rfl
  ·rw [if_neg h,if_neg h,List.map_cons,aset_map f k v M]
theorem fill_map {α β:Type} (f:α→β):∀ (l M:List (ByteArray × α)),(fillF M l).map (fun e=>(e.1,f e.2))=fillF (M.map (fun e=>(e.1,f e.2))) (l.map (fun e=>(e.1,f e.2)))
 | [],M=>rfl
 | e :: l,M=>by
  show (fillF (aset M e.1 e.2) l).map _=_
  rw [fill_map f l,aset_map]
  rfl
def arV (p:Pg) (t:Tk) (va vb:Value):List (ByteArray × Value):=fillF (fillF [] (t.arrays.map (fun x=>(x.1,va)))) (p.shared.map (fun x=>(x.1,vb)))
theorem arV_eq (p:Pg) (t:Tk) (va vb:Value):mapE (fun v:Value=>v) (arV p t va vb)=mapE (fun q=>cond q va vb) (AMof p t):=by
 have h:(AMof p t).map (fun e=>(e.1,cond e.2 va vb))=arV p t va vb:=by
  unfold AMof arV
  rw [fill_map (fun q:Bool=>cond q va vb),List.map_append,List.map_map,List.map_map,fill_app]
  rfl
 rw [← h]
 simp [mapE,List.map_map,Function.comp_def]
theorem hd_get {α:Type} {d:α}:∀ {l:List α} (h:0 < l.length),l.headD d=l[0]
 | _ :: _,_=>rfl
theorem one_take {α:Type}:∀ {l:List α} (h:0 < l.length),l.take 1=[l[0]]
 | _ :: _,_=>rfl
theorem fil_hd {shs:List Shd} {ss:List (List Int)} (hf:filB shs ss=true) (hz:∀ x ∈ shs,1≤x.2.1∧x.2.1≤16) (h:0 < ss.length):(ss[0]).length≤1000000:=by
 unfold filB at hf
 rw [Bool.and_eq_true,decide_eq_true_eq] at hf
 obtain ⟨h1,h2⟩:=hf
 cases shs with
 | nil=>rw [List.length_nil] at h1; omega
 | cons x l =>
  cases ss with
  | nil=>simp at h
  | cons a m =>
   rw [List.zip_cons_cons,List.all_cons,Bool.and_eq_true,Bool.and_eq_true,decide_eq_true_eq] at h2
   have h3:=h2.1.1
   have h4:=hz x (List.mem_cons_self ..)
   dsimp only at h3
   show a.length≤_
   omega
theorem dup_right:∀ (a:List ByteArray) {b:List ByteArray},dupB (a ++ b)=false→dupB b=false
 | [],_,h=>h
 | x :: a,b,h=>by
  rw [List.cons_append,dupB,Bool.or_eq_false_iff] at h
  exact dup_right a h.2
theorem am_eq {p:Pg} {t:Tk} (h:Rn p t):AMof p t=t.arrays.map (fun x=>(x.1,true)) ++ p.shared.map (fun x=>(x.1,false)):=by
 unfold AMof
 refine fill_id ?_
 have h1:=dup_right _ h.nd
 unfold arrL at h1
 rw [List.map_append,List.map_map,List.map_map]
 exact h1
theorem am_arr {p:Pg} {t:Tk} (h:Rn p t) (hk:0 < t.arrays.length):aget (AMof p t) (t.arrays[0]).1=some true:=by
 rw [am_eq h,← hd_get (d:=(⟨#[]⟩,0)) hk]
 cases ha:t.arrays with
 | nil=>simp [ha] at hk
 | cons a l=>simp [aget]
theorem am_shr {p:Pg} {t:Tk} (h:Rn p t) (hk:0 < p.shared.length):aget (AMof p t) (p.shared[0]).1=some false:=by
 rw [am_eq h,← hd_get (d:=(⟨#[]⟩,0,⟨#[]⟩)) hk]
 have h1:=dup_right _ h.nd
 have ha1:=h.a1
 unfold arrL at h1
 cases hs:p.shared with
 | nil=>simp [hs] at hk
 | cons s m =>
  cases ha:t.arrays with
  | nil=>simp [aget]
  | cons a l =>
   rw [ha] at ha1 h1
   have hl:l=[]:=List.eq_nil_of_length_eq_zero (by simp only [List.length_cons] at ha1; omega)
   subst hl
   rw [hs] at h1
   simp only [List.map_cons,List.map_nil,List.cons_append,List.nil_append,dupB,hasB,List.any_cons,Bool.or_eq_false_iff,decide_eq_false_iff_not] at h1
   have hne:¬ a.1=s.1:=fun e=>h1.1.1 e.symm
   simp [aget,hne]
theorem am_has {p:Pg} {t:Tk} (h:Rn p t) {ss:List (List Int)} (hf:filB p.shared ss=true):∀ nm,hasB (arrL p.shared t) nm=true→∃ w,aget (AMof p t) nm=some w∧0 < cond w (ca0 t.arrays).length (cb0 p.shared ss).length:=by
 intro nm hn
 have ha1:=h.a1
 have hs1:=h.s1
 unfold hasB arrL at hn
 rw [List.any_append,Bool.or_eq_true,List.any_map,List.any_map,List.any_eq_true,List.any_eq_true] at hn
 rcases hn with ⟨x,hx,e⟩ | ⟨x,hx,e⟩
 ·have hk:0 < t.arrays.length:=List.length_pos_of_mem hx
  obtain ⟨i,hi,rfl⟩:=List.getElem_of_mem hx
  obtain rfl:i=0:=by omega
  simp only [Function.comp_apply,decide_eq_true_eq] at e
  refine ⟨true,by rw [← e]; exact am_arr h hk,?_⟩
  show 0 < (ca0 t.arrays).length
  unfold ca0
  rw [show t.arrays.length=1 by omega,kIf,List.length_replicate,hd_get hk]
  have:=(h.asz _ (List.getElem_mem hk)).1
  omega
 ·have hk:0 < p.shared.length:=List.length_pos_of_mem hx
  obtain ⟨i,hi,rfl⟩:=List.getElem_of_mem hx
  obtain rfl:i=0:=by omega
  simp only [Function.comp_apply,decide_eq_true_eq] at e
  refine ⟨false,by rw [← e]; exact am_shr h hk,?_⟩
  show 0 < (cb0 p.shared ss).length
  unfold cb0
  unfold filB at hf
  rw [Bool.and_eq_true,decide_eq_true_eq] at hf
  obtain ⟨h1,h2⟩:=hf
  have h3:0 < ss.length:=by omega
  rw [show p.shared.length=1 by omega,kIf,hd_get h3]
  have h4:=(h.ssz _ (List.getElem_mem hk)).1
  rw [List.all_eq_true] at h2
  have h5:=h2 (p.shared[0],ss[0]) (by rw [List.mem_iff_getElem]; exact ⟨0,by rw [List.length_zip]; omega,by rw [List.getElem_zip]⟩)
  rw [Bool.and_eq_true,decide_eq_true_eq] at h5
  have h6:=h5.1
  dsimp only at h6
  omega
theorem jb0_ok {p:Pg} {t:Tk} {ins:List Int} {ss:List (List Int)}:(jb0 p t ins ss).ok (ca0 t.arrays).length (cb0 p.shared ss).length 1:=by
 refine ⟨by show (0:Int)≤0∧(0:Int)≤1; omega,?_,by show ((List.replicate 39 (0:Int)).set 0 1).length=39; rw [List.length_set,List.length_replicate],rfl,rfl⟩
 intro x hx
 rcases List.mem_or_eq_of_mem_set hx with hx | rfl
 ·rw [List.eq_of_mem_replicate hx]; omega
 ·omega
theorem ca0_le {p:Pg} {t:Tk} (h:Rn p t):(ca0 t.arrays).length≤1000000:=by
 unfold ca0
 cases hk:t.arrays.length with
 | zero=>simp [kIf]
 | succ n =>
  rw [kIf,List.length_replicate,hd_get (by omega)]
  have:=(h.asz _ (List.getElem_mem (by omega:0 < t.arrays.length))).2
  omega
theorem cb0_le {p:Pg} {t:Tk} (h:Rn p t) {ss:List (List Int)} (hf:filB p.shared ss=true):(cb0 p.shared ss).length≤1000000:=by
 unfold cb0
 cases hk:p.shared.length with
 | zero=>simp [kIf]
 | succ n =>
  have h1:p.shared.length=ss.length:=by
   unfold filB at hf
   rw [Bool.and_eq_true,decide_eq_true_eq] at hf
   exact hf.1
  rw [kIf,hd_get (by omega:0 < ss.length)]
  exact fil_hd hf h.ssz (by omega)
structure Fine (p:Pg):Prop where
 pr:(progF p).2=0
 lim:limB p=true
 nam:namB p=true
 ran:ranB p=true
 lab:p.tasks.all labF=true
 lck:p.tasks.all (fun t=>Sm.lcks p.shared ⟨#[]⟩ t.body)=true
 wt:p.tasks.all (fun t=>decide (wAll 20 t.body 0≤2000))=true
theorem fine_ck {p:Pg} (h:ckF p=0):Fine p:=by
 unfold ckF at h
 have h0:(progF p).2=0:=by
  apply Classical.byContradiction
  intro hc
  rw [if_pos hc] at h
  exact hc h
 rw [if_neg (fun hc=>hc h0)] at h
 cases h1:limB p with
 | false=>rw [if_pos h1] at h; omega
 | true =>
 rw [if_neg (by rw [h1]; decide)] at h
 cases h2:namB p with
 | false=>rw [if_pos h2] at h; omega
 | true =>
 rw [if_neg (by rw [h2]; decide)] at h
 cases h3:ranB p with
 | false=>rw [if_pos h3] at h; omega
 | true =>
 rw [if_neg (by rw [h3]; decide)] at h
 cases h4:p.tasks.all labF with
 | false=>rw [if_pos h4] at h; omega
 | true =>
 rw [if_neg (by rw [h4]; decide)] at h
 cases h5:p.tasks.all (fun t=>Sm.lcks p.shared ⟨#[]⟩ t.body) with
 | false=>rw [if_pos h5] at h; omega
 | true =>
 rw [if_neg (by rw [h5]; decide)] at h
 cases h6:p.tasks.all (fun t=>decide (wAll 20 t.body 0≤2000)) with
 | false=>rw [if_pos h6] at h; omega
 | true=>exact ⟨h0,h1,h2,h3,h4,h5,h6⟩
theorem prog_fine {p:Pg} (h:(progF p).2=0) {t:Tk} (ht:t ∈ p.tasks):dpF 8 t.body=false∧∀ s ∈ t.body,fineS 8 s:=by
 unfold progF at h
 cases h1:okPg p with
 | false=>rw [if_pos h1] at h; simp at h
 | true =>
 rw [if_neg (by rw [h1]; decide)] at h
 cases h2:p.tasks.any (fun t=>dpF 8 t.body) with
 | true=>rw [if_pos h2] at h; simp at h
 | false =>
 have h3:dpF 8 t.body=false:=by
  rw [List.any_eq_false] at h2
  have:=h2 t ht
  revert this
  cases dpF 8 t.body <;> simp
 refine ⟨h3,fine_of 8 20 t.body (by omega) ?_ h3⟩
 unfold okPg at h1
 rw [Bool.and_eq_true,List.all_eq_true] at h1
 have:=h1.2 t ht
 unfold okTk at this
 simp only [Bool.and_eq_true] at this
 exact this.1.1.1.1.1.2
theorem sizeB_le {n:Int} (h:sizeB n=true):1≤n∧n≤16:=by
 unfold sizeB at h
 simp only [Bool.or_eq_true,decide_eq_true_eq] at h
 omega
theorem rn_of {p:Pg} (h:ckF p=0) {t:Tk} (ht:t ∈ p.tasks) (ha:t.arrays.length≤1) (hs:p.shared.length≤1):Rn p t:=by
 have hF:=fine_ck h
 obtain ⟨hd,hf⟩:=prog_fine hF.pr ht
 have hn:=hF.nam
 unfold namB at hn
 rw [Bool.and_eq_true,List.all_eq_true] at hn
 have hn:=hn.2 t ht
 unfold namT at hn
 simp only [Bool.and_eq_true,Bool.not_eq_true'] at hn
 have hrn:=hF.ran
 unfold ranB at hrn
 rw [Bool.and_eq_true,List.all_eq_true,List.all_eq_true] at hrn
 have hrt:=hrn.2 t ht
 unfold ranT at hrt
 simp only [Bool.and_eq_true,List.all_eq_true] at hrt
 have hl:=List.all_eq_true.1 hF.lab t ht
 rw [labF_labT hd] at hl
 unfold labT at hl
 simp only [Bool.and_eq_true,List.all_eq_true,decide_eq_true_eq] at hl
 have hw:=of_decide_eq_true (List.all_eq_true.1 hF.wt t ht)
 have hc:=csts_le (n:=8) (f:=20) (by omega) hf hrt.1.1.1.2 (by omega)
 refine ⟨ha,hs,hn.1.2,fun x hx=>sizeB_le (hrt.1.1.2 x hx),fun x hx=>sizeB_le (hrn.1 x hx),roks_of hf hn.2 (fun x hx=>hl.1.1 x hx),by omega⟩
end Go.Proofs.YtalkkcfojplmdaaGreatDoor
end
section
namespace Go.Proofs.YtalkkcfojplmdaaGreatDoor
open Go.Vc
set_option maxHeartbeats 1000000
section
variable (σ:ByteArray→ByteArray)
def T.ren:T→T
 | .nu n=>.nu n
 | .nm s=>.nm (σ s)
 | .ix s t=>.ix (σ s) t.ren
 | .bn o a b=>.bn o a.ren b.ren
mutual
def Sm.ren:Sm→Sm
 | .mk k n i v m l t e=>.mk k (σ n) (i.map (T.ren σ)) (v.map (T.ren σ)) m l (Sm.rens t) (Sm.rens e)
def Sm.rens:List Sm→List Sm
 | []=>[]
 | s :: l=>s.ren :: Sm.rens l
end
def mren {α:Type} (M:List (ByteArray × α)):List (ByteArray × α):=M.map (fun e=>(σ e.1,e.2))
def Jb.ren (j:Jb):Jb:={ j with V:=mren σ j.V }
end
section
variable {σ:ByteArray→ByteArray}
theorem rens_map:∀ l:List Sm,Sm.rens σ l=l.map (Sm.ren σ)
 | []=>rfl
 | s :: l=>by rw [Sm.rens,List.map_cons,rens_map l]
theorem aget_ren (hσ:∀ s t,σ s=σ t→s=t) {α:Type} (k:ByteArray):∀ M:List (ByteArray × α),aget (mren σ M) (σ k)=aget M k
 | []=>rfl
 | (a,x) :: M=>by
  have ih:=aget_ren hσ k M
  unfold mren at ih ⊢
  rw [List.map_cons,aget,aget,ih]
  by_cases h:a=k
  ·subst h; rw [if_pos rfl,if_pos rfl]
  ·rw [if_neg h,if_neg (fun e=>h (hσ _ _ e))]
theorem aset_ren (hσ:∀ s t,σ s=σ t→s=t) {α:Type} (k:ByteArray) (v:α):∀ M:List (ByteArray × α),aset (mren σ M) (σ k) v=mren σ (aset M k v)
 | []=>rfl
 | (a,x) :: M=>by
  have ih:=aset_ren hσ k v M
  unfold mren at ih ⊢
  rw [List.map_cons,aset,aset,ih]
  by_cases h:a=k
  ·subst h; rw [if_pos rfl,if_pos rfl]; rfl
  ·rw [if_neg h,if_neg (fun e=>h (hσ _ _ e))]; rfl
theorem evF_ren (hσ:∀ s t,σ s=σ t→s=t) (V:List (ByteArray × Int)) (A:List (ByteArray × List Int)):∀ (f:Nat) (e:T),evF (mren σ V) (mren σ A) f (e.ren σ)=evF V A f e
 | 0,_=>rfl
 | f+1,.nu n=>rfl
 | f+1,.nm s=>by rw [T.ren,evF,evF,aget_ren hσ]
 | f+1,.ix s t=>by rw [T.ren,evF,evF,aget_ren hσ,evF_ren hσ V A f t]
 | f+1,.bn o a b=>by rw [T.ren,evF,evF,evF_ren hσ V A f a,evF_ren hσ V A f b]
theorem arr_ren (AM:AMt) (j:Jb):(j.ren σ).arr (mren σ AM)=mren σ (j.arr AM):=by
 unfold Jb.arr mren
 rw [List.map_map,List.map_map]
 rfl
theorem evJ_ren (hσ:∀ s t,σ s=σ t→s=t) (AM:AMt) (j:Jb) (e:T):evJ (mren σ AM) (j.ren σ) (e.ren σ)=evJ AM j e:=by
 unfold evJ
 rw [arr_ren]
 exact evF_ren hσ _ _ 20 e
theorem hd0_ren (l:List T):hd0 (l.map (T.ren σ))=(hd0 l).ren σ:=by cases l <;> rfl
theorem put_ren (hσ:∀ s t,σ s=σ t→s=t) (AM:AMt) (j:Jb) (nm:ByteArray) (i n:Int):(j.ren σ).put (mren σ AM) (σ nm) i n=(j.put AM nm i n).ren σ:=by
 unfold Jb.put
 rw [aget_ren hσ]
 cases aget AM nm with
 | none=>rfl
 | some b=>cases b <;> rfl
theorem whI_ren (hσ:∀ s t,σ s=σ t→s=t) (AM:AMt) (c:T) (lb:Int) {b b':Jb→Jb} (hb:∀ j,b' (j.ren σ)=(b j).ren σ):∀ (n:Nat) (j:Jb),whI (mren σ AM) (c.ren σ) lb b' n (j.ren σ)=(whI AM c lb b n j).ren σ
 | 0,_=>rfl
 | n+1,j=>by
  rw [whI,whI]
  have e1:evJ (mren σ AM) ((j.ren σ).step) (c.ren σ)=evJ AM j.step c:=evJ_ren hσ AM j.step c
  have e2:b' (((j.ren σ).step).up (3 * lb+1))=(b (j.step.up (3 * lb+1))).ren σ:=hb (j.step.up (3 * lb+1))
  rw [e1,e2,whI_ren hσ AM c lb hb n]
  split
  ·rfl
  ·rfl
mutual
theorem runS_ren (hσ:∀ s t,σ s=σ t→s=t) (AM:AMt):∀ (s:Sm) (j:Jb),runS (mren σ AM) (s.ren σ) (j.ren σ)=(runS AM s j).ren σ
 | .mk k nm i v mx lb t e,j=>by
  have ht:=runL_ren hσ AM t
  have he:=runL_ren hσ AM e
  rw [Sm.ren,runS,runS,hd0_ren,hd0_ren]
  by_cases h1:k=1
  ·rw [if_pos h1,if_pos h1,evJ_ren hσ]
   unfold Jb.ren Jb.step
   dsimp only
   rw [aset_ren hσ]
  rw [if_neg h1,if_neg h1]
  by_cases h2:k=2
  ·rw [if_pos h2,if_pos h2,evJ_ren hσ,evJ_ren hσ,put_ren hσ]
   rfl
  rw [if_neg h2,if_neg h2]
  by_cases h3:k=3
  ·rw [if_pos h3,if_pos h3]
   have e1:evJ (mren σ AM) (((j.ren σ).up (3 * lb)).step) ((hd0 v).ren σ)=evJ AM (j.up (3 * lb)).step (hd0 v):=evJ_ren hσ AM (j.up (3 * lb)).step (hd0 v)
   rw [e1]
   by_cases hc:evJ AM (j.up (3 * lb)).step (hd0 v)≠0
   ·rw [if_pos hc,if_pos hc]
    exact ht ((j.up (3 * lb)).step.up (3 * lb+1))
   ·rw [if_neg hc,if_neg hc]
    exact he ((j.up (3 * lb)).step.up (3 * lb+2))
  rw [if_neg h3,if_neg h3]
  by_cases h4:k=4
  ·rw [if_pos h4,if_pos h4]
   have:=whI_ren hσ AM (hd0 v) lb (b:=runL AM t) (b':=runL (mren σ AM) (Sm.rens σ t)) ht mx.toNat (j.up (3 * lb))
   show (whI (mren σ AM) ((hd0 v).ren σ) lb (runL (mren σ AM) (Sm.rens σ t)) mx.toNat ((j.up (3 * lb)).ren σ)).up (3 * lb+2)=_
   rw [this]
   rfl
  rw [if_neg h4,if_neg h4]
  by_cases h5:k=5
  ·rw [if_pos h5,if_pos h5]
   exact ht j
  ·rw [if_neg h5,if_neg h5]
theorem runL_ren (hσ:∀ s t,σ s=σ t→s=t) (AM:AMt):∀ (l:List Sm) (j:Jb),runL (mren σ AM) (Sm.rens σ l) (j.ren σ)=(runL AM l j).ren σ
 | [],j=>rfl
 | s :: l,j=>by
  rw [Sm.rens,runL,runL,runS_ren hσ AM s j,runL_ren hσ AM l (runS AM s j)]
end
end
end Go.Proofs.YtalkkcfojplmdaaGreatDoor
end
section
namespace Go.Proofs.YtalkkcfojplmdaaGreatDoor
open Go.Vc
set_option maxHeartbeats 1000000
mutual
def Sm.ev (p:Int→ByteArray→Int→Int→Bool):Sm→Bool
 | .mk k nm _ _ mx lb t e=>p k nm lb mx && Sm.evs p t && Sm.evs p e
def Sm.evs (p:Int→ByteArray→Int→Int→Bool):List Sm→Bool
 | []=>true
 | s :: l=>s.ev p && Sm.evs p l
end
section
variable {p q:Int→ByteArray→Int→Int→Bool}
def cnt (j:Jb) (m:Nat):Int:=j.cn.getD m 0
def Rl (F:(Nat→Int)→(Nat→Int)→Prop) (j j':Jb):Prop:=j.cn.length=39→j'.cn.length=39∧F (cnt j) (cnt j')
theorem Rl.refl {F:(Nat→Int)→(Nat→Int)→Prop} (hF:∀ a,F a a) (j:Jb):Rl F j j:=fun h=>⟨h,hF _⟩
theorem Rl.trans {F:(Nat→Int)→(Nat→Int)→Prop} (hF:∀ a b c,F a b→F b c→F a c) (i j k:Jb) (h:Rl F i j) (h':Rl F j k):Rl F i k:=fun hl=>⟨(h' (h hl).1).1,hF _ _ _ (h hl).2 (h' (h hl).1).2⟩
theorem Rl.same {F:(Nat→Int)→(Nat→Int)→Prop} (hF:∀ a,F a a) {j j':Jb} (h:j'.cn=j.cn):Rl F j j':=fun hl=>⟨by rw [h]; exact hl,(show cnt j'=cnt j by funext m; unfold cnt; rw [h]) ▸ hF _⟩
def FIf (k:Nat) (a b:Nat→Int):Prop:=b (3 * k) - b (3 * k+1) - b (3 * k+2)=a (3 * k) - a (3 * k+1) - a (3 * k+2)
def FWh (k:Nat) (a b:Nat→Int):Prop:=b (3 * k) - b (3 * k+2)=a (3 * k) - a (3 * k+2)∧32 * a (3 * k) - a (3 * k+1)≤32 * b (3 * k) - b (3 * k+1)
def F0 (a b:Nat→Int):Prop:=∀ m,m < 3→b m=a m
theorem FIf.refl (k:Nat) (a:Nat→Int):FIf k a a:=rfl
theorem FIf.trans (k:Nat) (a b c:Nat→Int) (h:FIf k a b) (h':FIf k b c):FIf k a c:=by unfold FIf at *; omega
theorem FWh.refl (k:Nat) (a:Nat→Int):FWh k a a:=⟨rfl,Int.le_refl _⟩
theorem FWh.trans (k:Nat) (a b c:Nat→Int) (h:FWh k a b) (h':FWh k b c):FWh k a c:=by unfold FWh at *; omega
theorem F0.trans (a b c:Nat→Int) (h:F0 a b) (h':F0 b c):F0 a c:=fun m hm=>(h' m hm).trans (h m hm)
def p0 (kd:Int) (_:ByteArray) (lb _:Int):Bool:=if kd=3 ∨ kd=4 then decide (1≤lb) && decide (lb≤12) else true
end
end Go.Proofs.YtalkkcfojplmdaaGreatDoor
end
section
namespace Go.Proofs.YtalkkcfojplmdaaGreatDoor
open Go.Vc
set_option maxHeartbeats 1000000
abbrev Na:ByteArray:=⟨#[97]⟩
abbrev Nbuf:ByteArray:=⟨#[98,117,102]⟩
theorem ar_names {l:List Arr} (h:ArG l):l.map (·.1)=[] ∨ l.map (·.1)=[Na]:=by
 rcases h with rfl | ⟨k,_,rfl⟩
 ·exact .inl O
 ·exact .inr O
theorem sh_names {R:List ByteArray} {l:List Shd} (h:ShG R l):l.map (·.1)=[] ∨ l.map (·.1)=[Nbuf]:=by
 rcases h with rfl | ⟨r,k,_,_,rfl⟩
 ·exact .inl O
 ·exact .inr O
theorem in_names {l:List Inp} (h:l.length≤2∧InG l.length l):l.map (·.1)=[] ∨ l.map (·.1)=[⟨#[120]⟩] ∨ l.map (·.1)=XY:=by
 rw [h.2.1]
 have:l.length=0 ∨ l.length=1 ∨ l.length=2:=by omega
 rcases this with e | e | e <;> rw [e]
 ·exact .inl O
 ·exact .inr (.inl O)
 ·exact .inr (.inr O)
theorem made_names {R:List ByteArray} {sh:List Shd} {nm:ByteArray} {W:Int} {t:Tk} (hSh:ShG R sh) (h:TaskG sh nm W t):dupB (scaL t ++ arrL sh t)=false:=by
 unfold scaL arrL
 rw [h.vars]
 rcases in_names h.inputs with e1 | e1 | e1 <;> rcases ar_names h.arrays with e2 | e2 <;> rcases sh_names hSh with e3 | e3 <;> rw [e1,e2,e3] <;> decide +kernel
theorem sh_use {R:List ByteArray} {sh:List Shd} {A:List ByteArray} (hSh:ShG R sh) (hA:A=[] ∨ A=[Na]):∀ hs,∀ s ∈ usableF A sh hs,s ∈ A ++ sh.map (·.1)∧allowB sh hs s=true:=by
 intro hs s hm
 unfold usableF at hm
 rcases List.mem_append.1 hm with hm | hm
 ·refine ⟨List.mem_append_left _ hm,?_⟩
  rcases hA with rfl | rfl
  ·cases hm
  ·have e:s=Na:=List.mem_singleton.1 hm
   subst e
   rcases hSh with rfl | ⟨r,k,_,_,rfl⟩
   ·rfl
   ·unfold allowB
    simp only [List.all_cons,List.all_nil,Bool.and_true,Bool.or_eq_true,Bool.not_eq_true',decide_eq_false_iff_not]
    exact .inl (by decide)
 ·obtain ⟨x,hx,he⟩:=List.mem_filterMap.1 hm
  split at he
  ·rename_i hh
   have e:x.1=s:=Option.some.inj he
   subst e
   refine ⟨List.mem_append_right _ (List.mem_map_of_mem hx),?_⟩
   rcases hSh with rfl | ⟨r,k,_,_,rfl⟩
   ·cases hx
   ·rw [List.mem_singleton.1 hx] at hh
    unfold allowB
    simp only [List.all_cons,List.all_nil,Bool.and_true,Bool.or_eq_true,decide_eq_true_eq]
    exact .inr hh
  ·cases he
theorem pow_size {k:Nat} (h:k≤3):sizeB ((2:Int) ^ k)=true:=by
 have:k=0 ∨ k=1 ∨ k=2 ∨ k=3:=by omega
 rcases this with rfl | rfl | rfl | rfl <;> decide
theorem task_right {R:List ByteArray} {n:Nat} {sh:List Shd} {nm:ByteArray} {W:Int} {t:Tk} (hR:R=RSl n) (hSh:ShG R sh) (hW:W≤2000) (h:TaskG sh nm W t) :
 limT t=true∧namT R sh t=true∧ranT t=true∧labT t=true∧Sm.lcks sh ⟨#[]⟩ t.body=true∧wAll 20 t.body 0≤2000:=by
 have hmd:=h.md (nms_of hR hSh h)
 obtain ⟨lab,l,m,hl,hb⟩:=h.body
 have hRr:∀ x ∈ sh,x.2.2 ∈ R:=by
  rcases hSh with rfl | ⟨r,k,hr,_,rfl⟩
  ·simp
  ·intro x hx
   rw [List.mem_singleton.1 hx]
   exact List.mem_of_getElem? hr
 obtain ⟨_,g⟩:=bl_all (StG.rgt (vs:=scaL t) (ar:=arrL sh t) (rs:=R) (fun s hs=>by unfold scaL; rw [h.vars]; exact hs) (sh_use hSh (ar_names h.arrays)) hRr 3 0 E0) hl (Int.le_refl _)
 obtain ⟨a1,a2,a3⟩:=rgt_all (l:=t.body) (fun s hs=>g s (by rw [hb] at hs; exact List.mem_of_mem_take hs))
 have hlb:=bl_lab (StG.lab 3 0 E0) hl (Int.le_refl _) (by omega)
 have hsub:(Sm.lbss isIW t.body).Sublist (seqI 0 (lab - 0).toNat):=by rw [hb,← hlb.2.2]; exact Sm.lbss_take _ _ _
 have hnd:(Sm.lbss isIW t.body).Nodup:=hsub.nodup (seqI_nodup _ _)
 have hnd2:(Sm.lbss isIf t.body).Nodup:=(Sm.lbss_sub t.body).nodup hnd
 have hlen1:t.arrays.length≤1:=by rcases h.arrays with e | ⟨k,_,e⟩ <;> rw [e] <;> simp
 have hlen2:t.modes.length≤1:=by rcases h.modes with e | ⟨x,lo,hi,_,_,e⟩ <;> rw [e] <;> simp
 have hlen3:t.claims.length≤1:=by rcases h.claims with e | ⟨a,b,_,_,_,e⟩ <;> rw [e] <;> simp
 have hlen4:t.vars.length=3:=by rw [h.vars]; rfl
 have hlen5:=h.inputs.1
 have hcnt:=h.size.2
 have hpe:=h.period
 have hde:=h.deadline
 have hpr:=h.priority
 have hji:=h.jitter
 refine ⟨?_,?_,?_,?_,a3,by have:=h.weight; omega⟩
 ·unfold limT
  simp only [Bool.and_eq_true,decide_eq_true_eq]
  omega
 ·unfold namT
  simp only [Bool.and_eq_true,Bool.not_eq_true']
  refine ⟨⟨⟨?_,?_⟩,made_names hSh h⟩,a1⟩
  ·rcases h.modes with e | ⟨x,lo,hi,hx,_,e⟩
   ·rw [e]; rfl
   ·rw [e]
    simp only [List.all_cons,List.all_nil,Bool.and_true]
    exact hasB_iff.2 (List.mem_map_of_mem (List.mem_of_getElem? hx))
  ·rcases h.modes with e | ⟨x,lo,hi,hx,_,e⟩ <;> rw [e] <;> rfl
 ·unfold ranT
  simp only [Bool.and_eq_true,decide_eq_true_eq]
  refine ⟨⟨⟨⟨⟨⟨⟨⟨⟨⟨⟨by omega,by omega⟩,by omega⟩,by omega⟩,by omega⟩,by omega⟩,by omega⟩,by omega⟩,a2⟩,?_⟩,?_⟩,?_⟩
  ·rcases h.arrays with e | ⟨k,hk,e⟩
   ·rw [e]; rfl
   ·rw [e]
    simp only [List.all_cons,List.all_nil,Bool.and_true]
    exact pow_size hk
  ·rw [List.all_eq_true]
   intro x hx
   exact decide_eq_true (h.inputs.2.2 x hx).2.1
  ·rw [List.all_eq_true]
   intro md hm
   rcases h.modes with e | ⟨x,lo,hi,hx,hb2,e⟩
   ·rw [e] at hm; cases hm
   ·rw [e] at hm
    rw [List.mem_singleton.1 hm]
    unfold ranM
    rw [List.all_eq_true]
    intro y hy
    simp only [Bool.or_eq_true,Bool.and_eq_true,decide_eq_true_eq,Bool.not_eq_true',decide_eq_false_iff_not]
    by_cases hxy:y.1=x.1
    ·right
     have hdup:(t.inputs.map (·.1)).Nodup:=by
      rcases in_names h.inputs with e1 | e1 | e1 <;> rw [e1] <;> exact dupB_nodup.1 (by decide +kernel)
     have:y=x:=by
      obtain ⟨i,hi1,rfl⟩:=List.mem_iff_getElem.1 hy
      obtain ⟨hj1,rfl⟩:=List.getElem?_eq_some_iff.1 hx
      have:=(List.getElem_inj (i:=i) (j:=0) hdup (h₀:=by rw [List.length_map]; exact hi1) (h₁:=by rw [List.length_map]; exact hj1)).1 (by rw [List.getElem_map,List.getElem_map]; exact hxy)
      simp [this]
     rw [this]
     exact ⟨⟨hb2.2.1,hb2.1⟩,hb2.2.2⟩
    ·exact .inl hxy
 ·unfold labT
  simp only [Bool.and_eq_true,Bool.not_eq_true']
  refine ⟨⟨?_,dupI_nodup.2 hnd⟩,?_⟩
  ·rw [List.all_eq_true]
   intro k hk
   have:=seqI_mem (hsub.subset hk)
   have:=hlb.2.1
   simp only [Bool.and_eq_true,decide_eq_true_eq]
   have:=hlb.1
   omega
  ·rcases h.claims with e | ⟨a,b,ha,hb2,hab,e⟩
   ·rw [e]; rfl
   ·rw [e]
    have ei:=ifs_lbs hmd
    simp only [List.all_cons,List.all_nil,Bool.and_true,Bool.and_eq_true,Bool.not_eq_true',decide_eq_false_iff_not]
    refine ⟨⟨fun hh=>hab ?_,?_⟩,?_⟩
    ·rw [← ei] at hnd2
     exact (List.getElem_inj hnd2).1 hh
    ·rw [← ei]; exact hasI_iff.2 (List.getElem_mem ha)
    ·rw [← ei]; exact hasI_iff.2 (List.getElem_mem hb2)
theorem nmT_inj {i j:Nat} (hi:i < 6) (hj:j < 6) (h:nmT i=nmT j):i=j:=by
 have:∀ i:Fin 6,∀ j:Fin 6,nmT i.1=nmT j.1→i=j:=by decide +kernel
 have:=this ⟨i,hi⟩ ⟨j,hj⟩ h
 simpa using this
structure Right (p:Pg):Prop where
 lim:limB p=true
 nam:namB p=true
 ran:ranB p=true
 lab:∀ t ∈ p.tasks,labT t=true
 lck:∀ t ∈ p.tasks,Sm.lcks p.shared ⟨#[]⟩ t.body=true
 wgt:∀ t ∈ p.tasks,wAll 20 t.body 0≤2000
theorem made_right {T:Nat} {W:Int} {p:Pg} (hT:1≤T∧T≤6) (hW:W≤2000) (h:PgG T W p):Right p:=by
 obtain ⟨n,hn,hR⟩:=h.res
 have hlen:=h.len
 have htk:∀ t ∈ p.tasks,limT t=true∧namT p.res p.shared t=true∧ranT t=true∧labT t=true∧Sm.lcks p.shared ⟨#[]⟩ t.body=true∧wAll 20 t.body 0≤2000:=fun t ht=>by
  obtain ⟨i,hi,rfl⟩:=List.mem_iff_getElem.1 ht
  exact task_right hR h.shared hW (h.tasks i hi)
 have hsl:p.shared.length≤1:=by rcases h.shared with e | ⟨r,k,_,_,e⟩ <;> rw [e] <;> simp
 have hrl:p.res.length≤2:=by rw [hR]; rcases n with _ | _ | n <;> simp [RSl]
 refine ⟨?_,?_,?_,fun t ht=>(htk t ht).2.2.2.1,fun t ht=>(htk t ht).2.2.2.2.1,fun t ht=>(htk t ht).2.2.2.2.2⟩
 ·unfold limB
  simp only [Bool.and_eq_true,decide_eq_true_eq,List.all_eq_true]
  exact ⟨⟨⟨⟨by omega,by omega⟩,by omega⟩,by omega⟩,fun t ht=>(htk t ht).1⟩
 ·unfold namB
  simp only [Bool.and_eq_true,Bool.not_eq_true',List.all_eq_true]
  refine ⟨⟨⟨?_,?_⟩,?_⟩,fun t ht=>(htk t ht).2.1⟩
  ·rw [hR]
   rcases n with _ | _ | n
   ·rfl
   ·decide +kernel
   ·show dupB [Nr,Ns]=false
    decide +kernel
  ·rw [dupB_nodup]
   unfold List.Nodup
   rw [List.pairwise_iff_getElem]
   intro i j hi hj hij he
   rw [List.length_map] at hi hj
   rw [List.getElem_map,List.getElem_map,(h.tasks i hi).name,(h.tasks j hj).name] at he
   have:=nmT_inj (by omega) (by omega) he
   omega
  ·intro x hx
   rcases h.shared with e | ⟨r,k,hr,_,e⟩
   ·rw [e] at hx; cases hx
   ·rw [e] at hx
    rw [List.mem_singleton.1 hx]
    exact hasB_iff.2 (List.mem_of_getElem? hr)
 ·unfold ranB
  simp only [Bool.and_eq_true,List.all_eq_true]
  refine ⟨fun x hx=>?_,fun t ht=>(htk t ht).2.2.1⟩
  rcases h.shared with e | ⟨r,k,hr,hk,e⟩
  ·rw [e] at hx; cases hx
  ·rw [e] at hx
   rw [List.mem_singleton.1 hx]
   exact pow_size hk
end Go.Proofs.YtalkkcfojplmdaaGreatDoor
end
section
namespace Go.Proofs.YtalkkcfojplmdaaGreatDoor
open Go.Vc
attribute [local irreducible] progT StG BlG
set_option maxHeartbeats 1000000
theorem md_lns:∀ (n:Nat) (l:List Sm),(∀ s ∈ l,mdS n s)→Sm.lnss l
 | _,[],_=>trivial
 | 0,s :: l,h=>(h s (List.mem_cons_self ..)).elim
 | n+1,s :: l,h=>by
  have h1:=h s (List.mem_cons_self ..)
  have h2:=md_lns (n+1) l (fun u hu=>h u (List.mem_cons_of_mem _ hu))
  rw [Sm.lnss]
  refine ⟨?_,h2⟩
  unfold mdS at h1
  rcases h1 with ⟨v,x,_,_,rfl⟩ | ⟨v,y,x,_,_,_,rfl⟩ | ⟨x,lab,t,e,_,_,ht,he,rfl⟩ | ⟨x,mx,lab,t,_,_,_,ht,rfl⟩ | ⟨v,t,_,ht,rfl⟩
  ·rw [Sm.lns]; exact ⟨by simp,by simp,md_lns n [] (by simp),md_lns n [] (by simp)⟩
  ·rw [Sm.lns]; exact ⟨by simp,by simp,md_lns n [] (by simp),md_lns n [] (by simp)⟩
  ·rw [Sm.lns]; exact ⟨by simp,by simp,md_lns n t ht,md_lns n e he⟩
  ·rw [Sm.lns]; exact ⟨by simp,by simp,md_lns n t ht,md_lns n [] (by simp)⟩
  ·rw [Sm.lns]; exact ⟨by simp,by simp,md_lns n t ht,md_lns n [] (by simp)⟩
theorem made_ok {T:Nat} {W:Int} {p:Pg} (hT:T≤6) (h:PgG T W p):PgOk p:=⟨h.sz (by omega),fun t ht=>md_lns 4 t.body (h.md t ht)⟩
theorem ck_right {p:Pg} (h1:okPg p=true) (h2:p.tasks.any (fun t=>dpF 8 t.body)=false) (h3:(progT p).size≤8192) (hR:Right p):ckF p=0:=by
 have h0:(progF p).2=0:=by
  unfold progF
  rw [if_neg (by rw [h1]; decide),if_neg (by rw [h2]; decide),if_neg (by omega)]
 have hlab:p.tasks.all labF=true:=by
  rw [List.all_eq_true]
  intro t ht
  rw [List.any_eq_false] at h2
  have hd:=h2 t ht
  rw [labF_labT (by revert hd; cases dpF 8 t.body <;> simp)]
  exact hR.lab t ht
 have hlck:p.tasks.all (fun t=>Sm.lcks p.shared ⟨#[]⟩ t.body)=true:=List.all_eq_true.2 hR.lck
 have hwgt:p.tasks.all (fun t=>decide (wAll 20 t.body 0≤2000))=true:=List.all_eq_true.2 (fun t ht=>decide_eq_true (hR.wgt t ht))
 unfold ckF
 rw [if_neg (by rw [h0]; decide),if_neg (by rw [hR.lim]; decide),if_neg (by rw [hR.nam]; decide),if_neg (by rw [hR.ran]; decide),if_neg (by rw [hlab]; decide),if_neg (by rw [hlck]; decide),if_neg (by rw [hwgt]; decide)]
theorem made_ck {T:Nat} {W:Int} {p:Pg} (hT:1≤T∧T≤4) (hW:W≤2000) (h:PgG T W p):ckF p=0:=by
 obtain ⟨h1,h2,h3⟩:=prog_okT hT.2 h
 exact ck_right h1 h2 h3 (made_right (by omega) hW h)
theorem made_arr {Sh:List Shd} {nm:ByteArray} {W:Int} {t:Tk} (h:TaskG Sh nm W t):t.arrays.length≤1:=by
 rcases h.arrays with e | ⟨k,_,e⟩ <;> rw [e] <;> simp
theorem made_shl {R:List ByteArray} {l:List Shd} (h:ShG R l):l.length≤1:=by
 rcases h with e | ⟨r,k,_,_,e⟩ <;> rw [e] <;> simp
theorem made_rn {T:Nat} {W:Int} {p:Pg} (h:PgG T W p):ckF p=0→∀ t ∈ p.tasks,Rn p t:=fun hc t ht=>by
 obtain ⟨i,hi,rfl⟩:=List.mem_iff_getElem.1 ht
 exact rn_of hc ht (made_arr (h.tasks i hi)) (made_shl h.shared)
def InZ (l:List Inp):Prop:=l.length≤2∧∀ x ∈ l,-2≤x.2.1∧x.2.1≤x.2.2∧x.2.2≤14
theorem made_inz {Sh:List Shd} {nm:ByteArray} {W:Int} {t:Tk} (h:TaskG Sh nm W t):InZ t.inputs:=⟨h.inputs.1,fun x hx=>by have:=h.inputs.2.2 x hx; omega⟩
def ShZ (l:List Shd):Prop:=l.length≤1∧∀ x ∈ l,1≤x.2.1∧x.2.1≤16
theorem made_shz {R:List ByteArray} {l:List Shd} (h:ShG R l):ShZ l:=by
 refine ⟨made_shl h,fun x hx=>?_⟩
 rcases h with e | ⟨r,k,_,hk,e⟩
 ·rw [e] at hx; cases hx
 ·rw [e] at hx
  rw [List.mem_singleton.1 hx]
  exact sizeB_le (pow_size hk)
theorem runF_in {p:Pg} {k:Nat} (h0:ckF p=0) (hk:k < p.tasks.length) {ins:List Int} {ss:List (List Int)} (hi:fitB (p.tasks[k]).inputs ins=true) (hs:filB p.shared ss=true):runF p (k:Int) ins ss=(runO p p.tasks[k] ins ss,0):=by
 have e:p.tasks.getD ((k:Int)).toNat tk0=p.tasks[k]:=by
  rw [show ((k:Int)).toNat=k by omega,List.getD_eq_getElem?_getD,List.getElem?_eq_getElem hk]
  rfl
 unfold runF
 rw [if_neg (fun h=>h h0),if_pos ⟨by omega,by omega⟩,e,if_neg (by rw [hi]; decide),if_neg (by rw [hs]; decide)]
end Go.Proofs.YtalkkcfojplmdaaGreatDoor
end
section
namespace Go.Vc
open Go.RowKit
section
variable {P:Program} [Gl P] {nt:Nat} {c:Cx P nt} {env:Env} {H:List Ch} {K:S→List Ch→Prop}
variable {d:Option Tmp} {ty t t':TypeId} {pos:String} {af:Array Edge} {g:Option (Nat × Bool)} {x y z:Operand}
abbrev irow (n:Int):List C:=[.val (.int .i64 n)]
theorem ow_indexI [SL P t] {v:Value} {e:TypeId} {L:List Int} {Hr:List Ch} {m:Int} (j:Nat) (hx:env.ev x=some (.cell (.val v))) (hp:pick [j] H=some ([.own v e 1 (L.map irow)],Hr)) (hy:env.ev y=some (In .i64 m)) (h0:0≤m∧m < (L.length:Int))
 (hz:(TI.i P (SL.e P t)).size=1) (hK:K (.cell (.inn v m.toNat)) H):OpWp c ⟨d,.indexAddr t x y,ty,pos,af,g⟩ env H K :=
 ow_indexOwn j hx hp hy h0.1 (by rw [List.length_map]; omega) hz (by rw [Nat.mul_one]; exact hK)
theorem ow_loadI [TI P t] {v:Value} {e:TypeId} {off:Nat} {L:List Int} {Hr:List Ch} (j:Nat) (ha:aggB (TI.u P t)=false) (hx:env.ev x=some (.cell (.inn v off))) (hp:pick [j] H=some ([.own v e 1 (L.map irow)],Hr))
 (hlt:off < L.length) (hK:K (In .i64 (L.getD off 0)) H):OpWp c ⟨d,.load t x,ty,pos,af,g⟩ env H K :=
 ow_loadInn1 (f:=irow) (e1:=.val (.int .i64 (L.getD off 0))) j ha hx hp hlt (by rw [List.getD_eq_getElem?_getD,List.getElem?_eq_getElem hlt]; rfl) hK
theorem ow_storeI [TI P t] {v:Value} {e:TypeId} {off:Nat} {L:List Int} {Hr:List Ch} {n:Int} (j:Nat) (hx:env.ev x=some (.cell (.inn v off))) (hy:env.ev y=some (In .i64 n)) (hp:pick [j] H=some ([.own v e 1 (L.map irow)],Hr))
 (hlt:off < L.length) (hz:(TI.i P t).size=1) (hK:K .void (.own v e 1 ((L.set off n).map irow) :: Hr)):OpWp c ⟨d,.store t x y,ty,pos,af,g⟩ env H K :=
 ow_storeInnAll (r:=irow n) (row:=irow L[off]) j off hx hy rfl hp (by omega) (by rw [List.getElem?_map,List.getElem?_eq_getElem hlt]; rfl) rfl hz rfl (by rw [List.map_set] at hK; exact hK)
variable {κ α:Type} [KY κ]
theorem ow_mapGetOW [MK P t] [TI P (MK.e P t)] {b:Nat} {vv:α→Value} {M:List (κ × α)} {k:κ} {w:α} {u zv:Value} {Hr:List Ch} (j:Nat) (hd:MK.d P t=KY.d κ) (hzv:(TI.i P (MK.e P t)).zero=some zv) (hw:aget M k=some w) (hu:vv w=u) (h1:u.oneCell'=true) (hx:env.ev x=some (.cell (.val (.map (some b))))) (hp:pick [j] H=some ([.mapc b (mapE vv M)],Hr)) (hy:env.ev y=some (.cell (.val (KY.v k))))
 (hK:K (.cell (.val u)) H):OpWp c ⟨d,.lookup t x y false,ty,pos,af,g⟩ env H K :=
 ow_mapGetO j hd hzv (by rw [hw]; show (vv w).oneCell'=true; rw [hu]; exact h1) hx hp hy (by rw [hw]; show K (.cell (.val (vv w))) H; rw [hu]; exact hK)
end
end Go.Vc
end
section
namespace Go.Vc
open Go.RowKit
section
variable {P:Program} [Gl P] {nt:Nat} {c:Cx P nt} {env:Env} {H:List Ch} {K:S→List Ch→Prop}
variable {d:Option Tmp} {ty t t':TypeId} {pos:String} {af:Array Edge} {g:Option (Nat × Bool)} {x y z:Operand}
theorem ow_makeSliceI [SL P t] {m:Int} (n:Nat) (hz:(TI.i P (SL.e P t)).zero=some (.int .i64 0)) (hsz:(TI.i P (SL.e P t)).size=1) (hbt:(TI.i P (SL.e P t)).bytes=8) (hx:env.ev x=some (In .i64 m)) (hy:env.ev y=some (In .i64 m)) (hm:m=(n:Int)) (hlim:n≤1000000)
 (hK:∀ v,v.oneCell'=true→c.Fresh v→K (.cell (.val v)) (.own v (SL.e P t) 1 ((List.replicate n (0:Int)).map irow) :: H)):OpWp c ⟨d,.makeSlice t x y,ty,pos,af,g⟩ env H K:=by
 subst hm
 have hK':∀ v,v.oneCell'=true→c.Fresh v→K (.cell (.val v)) (.own v (SL.e P t) 1 (List.replicate n (irow 0)) :: H):=fun v h1 h2=>by
  have:=hK v h1 h2
  rwa [List.map_replicate] at this
 exact ow_makeSliceOwn (z:=.int .i64 0) n hz O hsz (by decide) hx hy (by show n * 1≤_; omega) (by rw [hbt]; omega) (by omega) hK'
end
section
variable {P:Program} [Gl P] {nt:Nat} {c:Cx P nt} {env:Env} {H:List Ch} {ops:Array Oper} {Q:Exit→Act→World→Prop}
theorem mem2 {α:Type} {x y z:α} {l:List α}:x ∈ y :: z :: x :: l:=List.mem_cons_of_mem _ mem1
theorem jc_freezeO1 {α:Type} {code:Code} {v v2:Value} {e e2:TypeId} {k:Nat} {rows:List (List C)} {l:List α} {Hr:List Ch} (hl:l.length≤1) (j j2:Nat) (hp:pick [j,j2] H=some ([.own v e k rows,.own v2 e2 1 (l.map (fun _=>[C.val v]))],Hr))
 (hX:∀ b ∈ c.X,b ∈ hb (.own v2 e2 1 (l.map (fun _=>[C.val v])) :: Hr)) (h:JC c code Q env (.own v2 e2 1 (l.map (fun _=>[C.list rows])) :: Hr)):JC c code Q env H:=by
 match l,hl with
 | [],_ =>
  intro a w hs
  have h1:St c env ([.own v e k rows,.own v2 e2 1 []] ++ Hr) a w:=hs.perm (pick_perm hp)
  have h1:St c env ([.own v e k rows] ++ (.own v2 e2 1 [] :: Hr)) a w:=h1
  exact h a w h1.drop
 | [a],_=>exact jc_freezeOG j j2 0 0 hp rfl rfl hX h
theorem jc_hpM2 {id n:Nat} (m:Nat) (hn:ops.size=n) {b1 b2:Nat} {t1 t2:TypeId} {r1 r2:List C} (j1 j2:Nat) (hm:P.follows .mixedOrders=true) (h1:H[j1]?=some (.blk b1 t1 r1)) (h2:H[j2]?=some (.blk b2 t2 r2))
 (h:∀ cs1 cs2:List Value,cs1.length=r1.length→(∀ (i:Nat) (v:Value),r1[i]?=some (C.val v)→cs1[i]?=some v)→cs2.length=r2.length→(∀ (i:Nat) (v:Value),r2[i]?=some (C.val v)→cs2[i]?=some v)→HP c ops Q (Keep [(b1,cs1,t1),(b2,cs2,t2)]) m n (Array.replicate n false) env H):JC c (.region id ops true) Q env H:=by
 intro a w hs
 obtain ⟨cs1,g1,k1⟩:=hs.heap.ok (.blk b1 t1 r1) (List.mem_of_getElem? h1)
 obtain ⟨cs2,g2,k2⟩:=hs.heap.ok (.blk b2 t2 r2) (List.mem_of_getElem? h2)
 refine hp_begin m hn hm hs ?_ (h cs1 cs2 (rdRow_length k1) (rdRow_val k1) (rdRow_length k2) (rdRow_val k2))
 intro p hp
 simp only [List.mem_cons,List.not_mem_nil,or_false] at hp
 rcases hp with rfl | rfl
 ·exact g1
 ·exact g2
theorem jc_hpM3 {id n:Nat} (m:Nat) (hn:ops.size=n) {b1 b2 b3:Nat} {t1 t2 t3:TypeId} {r1 r2 r3:List C} (j1 j2 j3:Nat) (hm:P.follows .mixedOrders=true) (h1:H[j1]?=some (.blk b1 t1 r1)) (h2:H[j2]?=some (.blk b2 t2 r2)) (h3:H[j3]?=some (.blk b3 t3 r3))
 (h:∀ cs1 cs2 cs3:List Value,cs1.length=r1.length→(∀ (i:Nat) (v:Value),r1[i]?=some (C.val v)→cs1[i]?=some v)→cs2.length=r2.length→(∀ (i:Nat) (v:Value),r2[i]?=some (C.val v)→cs2[i]?=some v)→cs3.length=r3.length→(∀ (i:Nat) (v:Value),r3[i]?=some (C.val v)→cs3[i]?=some v)→HP c ops Q (Keep [(b1,cs1,t1),(b2,cs2,t2),(b3,cs3,t3)]) m n (Array.replicate n false) env H):JC c (.region id ops true) Q env H:=by
 intro a w hs
 obtain ⟨cs1,g1,k1⟩:=hs.heap.ok (.blk b1 t1 r1) (List.mem_of_getElem? h1)
 obtain ⟨cs2,g2,k2⟩:=hs.heap.ok (.blk b2 t2 r2) (List.mem_of_getElem? h2)
 obtain ⟨cs3,g3,k3⟩:=hs.heap.ok (.blk b3 t3 r3) (List.mem_of_getElem? h3)
 refine hp_begin m hn hm hs ?_ (h cs1 cs2 cs3 (rdRow_length k1) (rdRow_val k1) (rdRow_length k2) (rdRow_val k2) (rdRow_length k3) (rdRow_val k3))
 intro p hp
 simp only [List.mem_cons,List.not_mem_nil,or_false] at hp
 rcases hp with rfl | rfl | rfl
 ·exact g1
 ·exact g2
 ·exact g3
theorem keepKn {L:List (Nat × List Value × TypeId)} (h:∀ p ∈ L,∃ row,Ch.blk p.1 p.2.2 row ∈ H∧knowsRow row=some p.2.1):∀ w,StW c H w→Keep L w:=by
 intro w hw p hp
 obtain ⟨row,h1,h2⟩:=h p hp
 obtain ⟨cs,g1,g2⟩:=hw.ok _ h1
 rw [rdRow_knows g2 h2] at g1
 exact g1
theorem keepK3 {b1 b2 b3:Nat} {t1 t2 t3:TypeId} {cs1 cs2 cs3:List Value} (h1:∃ row,Ch.blk b1 t1 row ∈ H∧knowsRow row=some cs1) (h2:∃ row,Ch.blk b2 t2 row ∈ H∧knowsRow row=some cs2) (h3:∃ row,Ch.blk b3 t3 row ∈ H∧knowsRow row=some cs3):∀ w,StW c H w→Keep [(b1,cs1,t1),(b2,cs2,t2),(b3,cs3,t3)] w :=
 keepKn (fun p hp=>by
  simp only [List.mem_cons,List.not_mem_nil,or_false] at hp
  rcases hp with rfl | rfl | rfl
  ·exact h1
  ·exact h2
  ·exact h3)
theorem keepAt {b:Nat} {t:TypeId} {row:List C} {cs:List Value} (j:Nat) (hp:H[j]?=some (.blk b t row)) (hk:knowsRow row=some cs):∃ row,Ch.blk b t row ∈ H∧knowsRow row=some cs:=⟨row,List.mem_of_getElem? hp,hk⟩
end
end Go.Vc
end
section
namespace Go.Proofs.YtalkkcfojplmdaaGreatDoor
open Go.Vc
attribute [local irreducible] JL JC JQ OpWp Con ConN HOk
set_option maxHeartbeats 4000000
end Go.Proofs.YtalkkcfojplmdaaGreatDoor
end
section
namespace Go.Proofs.YtalkkcfojplmdaaGreatDoor
open Go.Vc
attribute [local irreducible] JL JC JQ OpWp Con ConN HOk
attribute [local irreducible] evJ evF Jb.arr
set_option maxHeartbeats 4000000
abbrev MemH (bv ba:Nat) (va vb:Value) (AM:AMt) (j:Jb):List Ch:=[.mapc bv (mapE (Value.int .i64) j.V),.mapc ba (mapE (fun q=>cond q va vb) AM),.own va 3 1 (j.ca.map Irow),.own vb 3 1 (j.cb.map Irow)]
abbrev JobC (bj bv ba:Nat) (vc:Value) (j:Jb):Ch:=.blk bj 126 [.val (.map (some bv)),.val (.map (some ba)),.val vc,.val (.int .i64 j.st)]
abbrev CntC (vc:Value) (j:Jb):Ch:=.own vc 3 1 (j.cn.map Irow)
theorem small_arr {ma mb N:Nat} {j:Jb} {AM:AMt} (h:j.ok ma mb N) (ha:ma≤1000000) (hb:mb≤1000000):smallA (j.arr AM):=by
 intro s
 have key:∀ L:AMt,((aget (L.map (fun e=>(e.1,cond e.2 j.ca j.cb))) s).getD []).length≤1000000:=by
  intro L
  induction L with
  | nil=>simp [aget]
  | cons e L ih =>
   rw [List.map_cons,aget]
   split
   ·show (cond e.2 j.ca j.cb).length≤_
    have:=h.ca
    have:=h.cb
    cases e.2 <;> simp only [cond] <;> omega
   ·exact ih
 unfold Jb.arr
 exact key AM
theorem lend_mem {w:World} {A:Nat→Prop} {bv ba:Nat} {va vb:Value} {AM:AMt} {j:Jb} (hok:∀ ch ∈ MemH bv ba va vb AM j,ch.ok w A) (hn:∀ b ∈ hb (MemH bv ba va vb AM j),¬ A b) :
 Rd1 w A (.map (mapE (Value.int .i64) j.V)) (.map (some bv))∧Rd1 w A (listM Irow (j.arr AM)) (.map (some ba)):=by
 have o1:=hok (.mapc bv (mapE (Value.int .i64) j.V)) (by simp)
 have o2:=hok (.mapc ba (mapE (fun q=>cond q va vb) AM)) (by simp)
 have o3:=hok (.own va 3 1 (j.ca.map Irow)) (by simp)
 have o4:=hok (.own vb 3 1 (j.cb.map Irow)) (by simp)
 refine ⟨lend_map o1 (hn bv (by simp [hb,Ch.bs])),?_⟩
 unfold Jb.arr
 exact lend_two o2 (hn ba (by simp [hb,Ch.bs])) o3 (fun g hg=>hn g (by simp [hb,Ch.bs,hg])) o4 (fun g hg=>hn g (by simp [hb,Ch.bs,hg]))
section
variable {bj bv ba:Nat} {va vb vc:Value} {AM:AMt} {ma mb N:Nat}
theorem lExpr6_c (j:Jb) (hA:smallA (j.arr AM)) (e:T):Con Tryz.prog 30 [.row e.row',.cell (.val (.map (some bv))),.cell (.val (.map (some ba)))] (MemH bv ba va vb AM j) (fun K=>K (In .i64 (evJ AM j e)) (MemH bv ba va vb AM j)):=by
 have hE:=rExpr6_c j.V (j.arr AM) hA e
 unfold evJ
 refine con_lendG hE trivial (fun w A vs hok hn hvs=>?_)
 obtain ⟨v1,r1,rfl,h1,h2⟩:=hvs
 obtain ⟨v2,r2,rfl,h3,h4⟩:=h2
 obtain ⟨v3,r3,rfl,h5,h6⟩:=h4
 obtain ⟨rfl,_⟩:=h3
 obtain ⟨rfl,_⟩:=h5
 obtain ⟨m1,m2⟩:=lend_mem hok hn
 exact ⟨v1,_,rfl,h1,_,_,rfl,m1,_,_,rfl,m2,h6⟩
theorem rvalue6_c (j:Jb) (hA:smallA (j.arr AM)) (e:T):Con Tryz.prog 132 [Ptr bj,.row e.row'] (JobC bj bv ba vc j :: MemH bv ba va vb AM j) (fun K=>K (In .i64 (evJ AM j e)) (JobC bj bv ba vc j :: MemH bv ba va vb AM j)):=by
 have hE:=lExpr6_c (bv:=bv) (ba:=ba) (va:=va) (vb:=vb) j hA e
 refine con_intro Tryz.func132 O O b_ (fun c hc=>Wu (fun bx=>?_))
 refine am_ (ao_ O O k_ k_ (aa_ (fun c=>bs_ 0 O O O O p_) (We ?_)))
 refine We ?_
 exact aa_ (fun c=>ow_callA [2,2,2,2] O O hE) (yE_ O (ae_ (al_ (ar_ (jq_ret1S O O (fun K h=>h) (bc_ 1 O (bc_ 1 O (bc_ 1 O (bc_ 1 O (bc_ 1 O sub_end))))))))))
theorem hd0_row {l:List T} (h:(!l.isEmpty)=true):(l.map T.row)[0]?=some (hd0 l).row':=by
 cases l with
 | nil=>cases h
 | cons a l=>simp [hd0,T.row_eq]
theorem runL_take_ok {j:Jb} (h:j.ok ma mb N) (l:List Sm) (k:Nat):(runL AM (l.take k) j).ok ma mb (N+Sm.csts (l.take k)):=runL_ok AM (l.take k) N j h
abbrev JobH (bj bv ba:Nat) (va vb vc:Value) (AM:AMt) (j:Jb):List Ch:=[JobC bj bv ba vc j,CntC vc j,.mapc bv (mapE (Value.int .i64) j.V),.mapc ba (mapE (fun q=>cond q va vb) AM),.own va 3 1 (j.ca.map Irow),.own vb 3 1 (j.cb.map Irow)]
theorem rrun6_c (ar:ByteArray→Bool) (har:∀ nm,ar nm=true→∃ w,aget AM nm=some w∧0 < cond w ma mb) (ha:ma≤1000000) (hb':mb≤1000000) (hva:va.oneCell'=true) (hvb:vb.oneCell'=true):∀ l:List Sm,Sm.roks ar l=true→∀ (N:Nat) (j:Jb),j.ok ma mb N→N+Sm.csts l≤1000000000 →
 Con Tryz.prog 82 [Ptr bj,.cell (.list (l.map Sm.row))] (JobH bj bv ba va vb vc AM j) (fun K=>K (.tup []) (JobH bj bv ba va vb vc AM (runL AM l j))):=by
 refine Sms.ind (fun l ih hl N j hj hN=>con_intro Tryz.func82 O O b_ (fun c hc=>R_ (E_ O (T_ (au_ (jc_loopS (ι:=Nat) [] (fun k=>k≤(l).length) (fun k=>(4,In .i64 (k:Int)) :: [(0,Ptr bj),(1,.cell (.list (l.map Sm.row)))]) (fun k=>JobH bj bv ba va vb vc AM (runL AM (l.take k) j)) (fun k=>(l).length - k) 0 (Nat.zero_le _) ?_ ?_ ?_))))))
 ·refine Zp ?_
  exact Ww
 ·exact Wv
 rintro k hk
 have eLk:((l).map Sm.row).length=(l).length:=List.length_map _
 by_cases hltk:k < (l).length
 ·have hltk2:(k:Int) < (((l).map Sm.row).length:Int):=by omega
  obtain ⟨i1,i2⟩:=ih l[k] (List.getElem_mem hltk)
  have hr:=roks_mem hl l[k] (List.getElem_mem hltk)
  rw [rok_eq] at hr
  have hcs:=csts_take hltk
  rw [cst_eq] at hcs
  have hj1:=runL_take_ok (AM:=AM) hj l k
  have hstep:=runL_step (AM:=AM) hltk j
  rw [runS_eq] at hstep
  generalize runL AM (l.take k) j=J at hj1 hstep ⊢
  have hst:=hj1.st
  by_cases hk1:l[k].kind=1
  ·rw [if_pos hk1] at hr hcs hstep
   have hrv:=hd0_row hr
   have cv:=rvalue6_c (bj:=bj) (bv:=bv) (ba:=ba) (va:=va) (vb:=vb) (vc:=vc) (J) (small_arr (AM:=AM) (hj1) ha hb') (hd0 l[k].value)
   refine YG ?_
   refine Zb (fun hlen=>?_)
   refine R_ (M_ O (M_ O (Zq ?_)))
   refine Yn (fun bl=>?_)
   refine Yu ?_
   refine Zu ?_
   refine aq_ O u_ (am_ (jc_anyB 12 none O k_ k_ (yM_ O ?_)))
   refine yN_ O (yF_ O (yL_ 1 O (yF_ O (yL_ 0 O (yM_ O (yF_ O (yL_ 0 O (aa_ (fun c=>ow_indexAddrN 0 O O O hrv O b_ p_) (aa_ (fun c=>cr_ O O O p_) (aa_ (fun c=>ow_callA [1,2,2,2,2] O O cv) (ae_ (afin_none (ag_ (ow_mapPut (κ:=ByteArray) (vv:=Value.int .i64) (M:=J.V) 3 O O O O O (T_ (an_ ?_))))))))))))))))
   refine M_ O (N_ O (F_ O (L_ 2 O (o_ O (bj_ O O g_ (N_ O (F_ O (W_ 2 O (ak_ (ay_ (Ws ?_)))))))))))
   refine E_ O ?_
   refine ak_ (jq_againS (i:=k) (k+1) hltk g_ ?_ ?_)
   ·rw [hstep]
    exact bc_ 0 O (bc_ 2 O (bc_ 0 O (bc_ 1 O (bc_ 1 O (bc_ 1 O sub_end)))))
   ·exact Wv
  rw [if_neg hk1] at hr hcs hstep
  by_cases hk2:l[k].kind=2
  ·rw [if_pos hk2] at hr hcs hstep
   simp only [Bool.and_eq_true] at hr
   obtain ⟨⟨hr0,hr1⟩,hr2⟩:=hr
   have hri:=hd0_row hr0
   have hrv:=hd0_row hr1
   obtain ⟨w,hw,hpos⟩:=har _ hr2
   cases w with
   | true =>
    have hput:J.put AM l[k].name (evJ AM J (hd0 l[k].index)) (evJ AM J (hd0 l[k].value))={ J with ca:=J.ca.set (evJ AM J (hd0 l[k].index) % J.ca.length).toNat (evJ AM J (hd0 l[k].value)) }:=by unfold Jb.put; rw [hw]
    rw [hput] at hstep
    have hlc:=hj1.ca
    have eca:(J.ca.map Irow).length=J.ca.length:=List.length_map _
    have cm:=rmod_c (evJ AM J (hd0 l[k].index)) ((J.ca.map Irow).length:Int) (by simp only [cond] at hpos; omega)
    have hb0:=Int.emod_nonneg (evJ AM J (hd0 l[k].index)) (show ((J.ca.map Irow).length:Int)≠0 by simp only [cond] at hpos; omega)
    have hb1:=Int.emod_lt_of_pos (evJ AM J (hd0 l[k].index)) (show 0 < ((J.ca.map Irow).length:Int) by simp only [cond] at hpos; omega)
    rw [show (J.ca.length:Int)=((J.ca.map Irow).length:Int) by omega] at hstep
    generalize evJ AM J (hd0 l[k].index) % ((J.ca.map Irow).length:Int)=q at cm hb0 hb1 hstep
    have cv:=rvalue6_c (bj:=bj) (bv:=bv) (ba:=ba) (va:=va) (vb:=vb) (vc:=vc) (J) (small_arr (AM:=AM) (hj1) ha hb') (hd0 l[k].value)
    have ci:=rvalue6_c (bj:=bj) (bv:=bv) (ba:=ba) (va:=va) (vb:=vb) (vc:=vc) (J) (small_arr (AM:=AM) (hj1) ha hb') (hd0 l[k].index)
    refine YG ?_
    refine Zb (fun hlen=>?_)
    refine R_ (M_ O (M_ O (Zq ?_)))
    refine Yn (fun bl=>?_)
    refine Yu ?_
    refine Zc ?_
    refine E_ O ?_
    refine T_ (aq_ O u_ (am_ (ao_ O O k_ k_ (We ?_))))
    refine yF_ O (yL_ 0 O (aa_ (fun c=>ow_mapGetOW (κ:=ByteArray) (vv:=fun q=>cond q va vb) (M:=AM) (w:=true) (u:=va) 4 O O hw O hva O O O p_) (yE_ O (ae_ (al_ (R_ (M_ O ?_)))))))
    refine F_ O (L_ 0 O (o_ O (ow_indexAddrN 0 O O O hri O b_ (o_ O (cr_ O O O (o_ O (bi_ [1,2,2,2,2] O O ci (M_ O (o_ O (cw_ 3 O O (fun hlen=>o_ O (bm_ O (cm) (E_ O (T_ (R_ (M_ O (M_ O (M_ O (F_ O (L_ 5 O ?_))))))))))))))))))))
    refine YX ?_
    refine bi_ [0,0,0,0,0] O O cv (o_ O (ow_indexI 3 O O O g_ O (ag_ (ow_storeI 3 O O O g_ O (T_ (an_ (Wk ?_)))))))
    refine bj_ O O g_ (N_ O (F_ O (W_ 1 O (ak_ ?_))))
    refine ay_ (Zj ?_)
    refine jq_againS (i:=k) (k+1) hltk g_ ?_ ?_
    ·rw [hstep]
     exact bc_ 0 O (bc_ 5 O (bc_ 1 O (bc_ 1 O (bc_ 0 O (bc_ 0 O sub_end)))))
    ·exact Wv
   | false =>
    have hput:J.put AM l[k].name (evJ AM J (hd0 l[k].index)) (evJ AM J (hd0 l[k].value))={ J with cb:=J.cb.set (evJ AM J (hd0 l[k].index) % J.cb.length).toNat (evJ AM J (hd0 l[k].value)) }:=by unfold Jb.put; rw [hw]
    rw [hput] at hstep
    have hlc:=hj1.cb
    have eca:(J.cb.map Irow).length=J.cb.length:=List.length_map _
    have cm:=rmod_c (evJ AM J (hd0 l[k].index)) ((J.cb.map Irow).length:Int) (by simp only [cond] at hpos; omega)
    have hb0:=Int.emod_nonneg (evJ AM J (hd0 l[k].index)) (show ((J.cb.map Irow).length:Int)≠0 by simp only [cond] at hpos; omega)
    have hb1:=Int.emod_lt_of_pos (evJ AM J (hd0 l[k].index)) (show 0 < ((J.cb.map Irow).length:Int) by simp only [cond] at hpos; omega)
    rw [show (J.cb.length:Int)=((J.cb.map Irow).length:Int) by omega] at hstep
    generalize evJ AM J (hd0 l[k].index) % ((J.cb.map Irow).length:Int)=q at cm hb0 hb1 hstep
    have cv:=rvalue6_c (bj:=bj) (bv:=bv) (ba:=ba) (va:=va) (vb:=vb) (vc:=vc) (J) (small_arr (AM:=AM) (hj1) ha hb') (hd0 l[k].value)
    have ci:=rvalue6_c (bj:=bj) (bv:=bv) (ba:=ba) (va:=va) (vb:=vb) (vc:=vc) (J) (small_arr (AM:=AM) (hj1) ha hb') (hd0 l[k].index)
    refine YG ?_
    refine Zb (fun hlen=>?_)
    refine R_ (M_ O (M_ O (Zq ?_)))
    refine Yn (fun bl=>?_)
    refine Yu ?_
    refine Zc ?_
    refine E_ O ?_
    refine T_ (aq_ O u_ (am_ (ao_ O O k_ k_ (We ?_))))
    refine yF_ O (yL_ 0 O (aa_ (fun c=>ow_mapGetOW (κ:=ByteArray) (vv:=fun q=>cond q va vb) (M:=AM) (w:=false) (u:=vb) 4 O O hw O hvb O O O p_) (yE_ O (ae_ (al_ (R_ (M_ O ?_)))))))
    refine F_ O (L_ 0 O (o_ O (ow_indexAddrN 0 O O O hri O b_ (o_ O (cr_ O O O (o_ O (bi_ [1,2,2,2,2] O O ci (M_ O (o_ O (cw_ 4 O O (fun hlen=>o_ O (bm_ O (cm) (E_ O (T_ (R_ (M_ O (M_ O (M_ O (F_ O (L_ 5 O ?_))))))))))))))))))))
    refine YX ?_
    refine bi_ [0,0,0,0,0] O O cv (o_ O (ow_indexI 4 O O O g_ O (ag_ (ow_storeI 4 O O O g_ O (T_ (an_ (Wk ?_)))))))
    refine bj_ O O g_ (N_ O (F_ O (W_ 1 O (ak_ ?_))))
    refine ay_ (Zj ?_)
    refine jq_againS (i:=k) (k+1) hltk g_ ?_ ?_
    ·rw [hstep]
     exact bc_ 0 O (bc_ 5 O (bc_ 1 O (bc_ 1 O (bc_ 1 O (bc_ 0 O sub_end)))))
    ·exact Wv
  rw [if_neg hk2] at hr hcs hstep
  by_cases hk3:l[k].kind=3
  ·rw [if_pos hk3] at hr hcs hstep
   simp only [Bool.and_eq_true,decide_eq_true_eq] at hr
   obtain ⟨⟨⟨⟨hr0,hl0⟩,hl12⟩,hr1⟩,hr2⟩:=hr
   have hrv:=hd0_row hr0
   have hg:=getD_ok hj1 (3 * l[k].label).toNat
   have hln:=hj1.len
   have hj2:(J.up (3 * l[k].label)).step.ok ma mb (N+Sm.csts (l.take k)+1+1):=(hj1.up _).step
   have cv:=rvalue6_c (bj:=bj) (bv:=bv) (ba:=ba) (va:=va) (vb:=vb) (vc:=vc) ((J.up (3 * l[k].label)).step) (small_arr (AM:=AM) (hj2) ha hb') (hd0 l[k].value)
   refine YG ?_
   refine Zb (fun hlen=>?_)
   refine R_ (M_ O (M_ O (Zq ?_)))
   refine Yn (fun bl=>?_)
   refine Yu ?_
   refine Zc ?_
   refine E_ O ?_
   refine T_ (ap_ O w_ (Zu ?_))
   refine aq_ O u_ (am_ (jc_anyB 11 none O k_ k_ (We ?_)))
   refine yF_ O (yL_ 0 O (aa_ (fun c=>cz_ O O g_ p_) ?_))
   refine aa_ (fun c=>ow_indexI 2 O O O g_ O p_) (aa_ (fun c=>ow_loadI 2 O O O g_ p_) (aa_ (fun c=>bj_ O O g_ p_) (aa_ (fun c=>ow_indexI 2 O O O g_ O p_) (ae_ (afin_none (ag_ (ow_storeI 2 O O O g_ O (T_ (R_ (M_ O (N_ O (F_ O (L_ 2 O (o_ O (bj_ O O g_ (N_ O (F_ O ?_)))))))))))))))))
   refine W_ 2 O (T_ (R_ (M_ O (F_ O (L_ 2 O ?_)))))
   by_cases hz:evJ AM (J.up (3 * l[k].label)).step (hd0 l[k].value)=0
   ·have hz2:¬ evJ AM (J.up (3 * l[k].label)).step (hd0 l[k].value)≠0:=fun h=>h hz
    rw [if_neg hz2] at hstep
    refine YX ?_
    refine bi_ [0,2,2,2,2] O O cv (o_ O (bx_ O O (T_ (ap_ O w_ (am_ ?_)))))
    clear cv hz
    clear hz2
    refine jc_reset ([(0,Ptr bj),(1,.cell (.list (l.map Sm.row))),(4,In .i64 (k:Int)),(5,Ptr bl)]) (JobH bj bv ba va vb vc AM ((J.up (3 * l[k].label)).step) ++ [.blk bl 66 l[k].row']) ?_ ?_ ?_
    ·exact Wv
    ·refine bc_ 0 O (bc_ 4 O (Zp ?_))
     exact Wx
    generalize (J.up (3 * l[k].label)).step=J2 at hj2 hstep ⊢
    have hj3:=hj2.up (3 * l[k].label+2)
    have cr:=i2 hr2 _ _ hj3 (by omega)
    have hg2:=getD_ok hj2 (3 * l[k].label+2).toNat
    have hl2:=hj2.len
    refine jc_anyB 12 none O k_ k_ (Zz ?_)
    refine T_ (an_ (M_ O (F_ O (L_ 6 O (o_ O (bi_ [1,0,0,0,0,0] O O cr (ak_ (ay_ (Zj ?_)))))))))
    refine jq_againS (i:=k) (k+1) hltk g_ ?_ ?_
    ·rw [hstep]
     refine Zp ?_
     exact Ww
    ·exact Wv
   ·rw [if_pos hz] at hstep
    refine YX ?_
    refine bi_ [0,2,2,2,2] O O cv (o_ O (bx_ O O (T_ (aq_ O u_ (am_ ?_)))))
    clear cv hz
    refine jc_reset ([(0,Ptr bj),(1,.cell (.list (l.map Sm.row))),(4,In .i64 (k:Int)),(5,Ptr bl)]) (JobH bj bv ba va vb vc AM ((J.up (3 * l[k].label)).step) ++ [.blk bl 66 l[k].row']) ?_ ?_ ?_
    ·exact Wv
    ·refine bc_ 0 O (bc_ 4 O (Zp ?_))
     exact Wx
    generalize (J.up (3 * l[k].label)).step=J2 at hj2 hstep ⊢
    have hj3:=hj2.up (3 * l[k].label+1)
    have cr:=i1 hr1 _ _ hj3 (by omega)
    have hg2:=getD_ok hj2 (3 * l[k].label+1).toNat
    have hl2:=hj2.len
    refine jc_anyB 12 none O k_ k_ (Zz ?_)
    refine T_ (an_ (M_ O (F_ O (L_ 6 O (o_ O (bi_ [1,0,0,0,0,0] O O cr (ak_ (ay_ (Zj ?_)))))))))
    refine jq_againS (i:=k) (k+1) hltk g_ ?_ ?_
    ·rw [hstep]
     refine Zp ?_
     exact Ww
    ·exact Wv
  rw [if_neg hk3] at hr hcs hstep
  by_cases hk4:l[k].kind=4
  ·rw [if_pos hk4] at hr hcs hstep
   simp only [Bool.and_eq_true,decide_eq_true_eq] at hr
   obtain ⟨⟨⟨hr0,hl0⟩,hl12⟩,hr1⟩:=hr
   have hrv:=hd0_row hr0
   have hg:=getD_ok hj1 (3 * l[k].label).toNat
   have hln:=hj1.len
   have hj2:(J.up (3 * l[k].label)).ok ma mb (N+Sm.csts (l.take k)+1):=hj1.up _
   have hF:=whI_ok (AM:=AM) (c:=hd0 l[k].value) (lb:=l[k].label) (body:=runL AM l[k].thn) (B:=Sm.csts l[k].thn) (fun N j h=>runL_ok AM l[k].thn N j h) l[k].max.toNat _ _ hj2
   generalize hFe:whI AM (hd0 l[k].value) l[k].label (runL AM l[k].thn) l[k].max.toNat (J.up (3 * l[k].label))=F at hF hstep
   refine YG ?_
   refine Zb (fun hlen=>?_)
   refine R_ (M_ O (M_ O (Zq ?_)))
   refine Yn (fun bl=>?_)
   refine Yu ?_
   refine Zc ?_
   refine E_ O ?_
   refine T_ (ap_ O w_ (Zc ?_))
   refine E_ O (T_ (aq_ O u_ (am_ (jc_anyB 11 none O k_ k_ (yM_ O (yN_ O ?_))))))
   refine yF_ O (yL_ 1 O (yF_ O (yL_ 0 O (aa_ (fun c=>cz_ O O g_ p_) (aa_ (fun c=>ow_indexI 2 O O O g_ O p_) (aa_ (fun c=>ow_loadI 2 O O O g_ p_) (aa_ (fun c=>bj_ O O g_ p_) (aa_ (fun c=>ow_indexI 2 O O O g_ O p_) (ae_ (afin_none (ag_ (ow_storeI 2 O O O g_ O (T_ (am_ (R_ (E_ O ?_))))))))))))))))
   refine T_ (jc_cut (ι:=Unit) [] (fun _=>True) (fun _=>[(0,Ptr bj),(1,.cell (.list (l.map Sm.row))),(4,In .i64 (k:Int)),(5,Ptr bl)]) (fun _=>JobH bj bv ba va vb vc AM F ++ [.blk bl 66 l[k].row']) ?_ ?_)
   ·refine au_ ?_
    refine jc_loopS (ι:=Nat × Jb) [] (fun i=>i.1≤l[k].max.toNat∧whI AM (hd0 l[k].value) l[k].label (runL AM l[k].thn) (l[k].max.toNat - i.1) i.2=F∧i.2.ok ma mb (N+Sm.csts (l.take k)+1+i.1 * (2+Sm.csts l[k].thn))) (fun i=>(8,In .i64 (i.1:Int)) :: [(0,Ptr bj),(1,.cell (.list (l.map Sm.row))),(4,In .i64 (k:Int)),(5,Ptr bl)]) (fun i=>JobH bj bv ba va vb vc AM i.2 ++ [.blk bl 66 l[k].row']) (fun i=>l[k].max.toNat - i.1) (0,J.up (3 * l[k].label)) ⟨Nat.zero_le _,hFe,by rw [Nat.zero_mul]; exact hj2⟩ ?_ ?_ ?_
    ·refine bc_ 2 O (bc_ 0 O (YB ?_))
     exact Wx
    ·exact Wv
    rintro ⟨n,G⟩ hz
    dsimp only at hz ⊢
    obtain ⟨hn,hG,hok⟩:=hz
    by_cases hlt:(n:Int) < l[k].max
    ·have hb2:n * (2+Sm.csts l[k].thn)+(2+Sm.csts l[k].thn)≤l[k].max.toNat * (2+Sm.csts l[k].thn):=by
      rw [← Nat.succ_mul]
      exact Nat.mul_le_mul_right _ g_
     have hnn:n≤n * (2+Sm.csts l[k].thn):=Nat.le_mul_of_pos_right _ (by omega)
     have hst:=hok.st
     have hok2:=hok.step
     have cv:=rvalue6_c (bj:=bj) (bv:=bv) (ba:=ba) (va:=va) (vb:=vb) (vc:=vc) (G.step) (small_arr (AM:=AM) (hok2) ha hb') (hd0 l[k].value)
     rw [show l[k].max.toNat - n=(l[k].max.toNat - (n+1))+1 by omega,whI] at hG
     by_cases hz0:evJ AM G.step (hd0 l[k].value)=0
     ·rw [if_pos hz0] at hG
      refine am_ (R_ (M_ O (F_ O (L_ 6 O (o_ O (bw_ O O (T_ (aq_ O u_ (as_ (al_ (B_ (R_ (YL ?_)))))))))))))
      refine o_ O (bj_ O O g_ (N_ O (F_ O (W_ 0 O (T_ (am_ (R_ (M_ O (F_ O (L_ 6 O (YX ?_)))))))))))
      refine bi_ [0,1,1,1,1] O O cv (o_ O (bn_ O O (T_ (aq_ O u_ ?_))))
      refine av_ (ax_ (bb_ O (ax_ (ax_ (ba_ (jq_cutS () trivial ?_ ?_))))))
      ·rw [← hG]
       refine bc_ 0 O (bc_ 4 O (Zp ?_))
       exact Wx
      ·exact Wv
     ·rw [if_neg hz0] at hG
      refine am_ (R_ (M_ O (F_ O (L_ 6 O (o_ O (bw_ O O (T_ (aq_ O u_ (as_ (al_ (B_ (R_ (YL ?_)))))))))))))
      refine o_ O (bj_ O O g_ (N_ O (F_ O (W_ 0 O (T_ (am_ (R_ (M_ O (F_ O (L_ 6 O (YX ?_)))))))))))
      refine bi_ [0,1,1,1,1] O O cv (o_ O (bn_ O O (T_ (ap_ O w_ ?_))))
      refine as_ (al_ (am_ ?_))
      clear cv hz0
      refine jc_reset ((8,In .i64 (n:Int)) :: [(0,Ptr bj),(1,.cell (.list (l.map Sm.row))),(4,In .i64 (k:Int)),(5,Ptr bl)]) (JobH bj bv ba va vb vc AM (G.step) ++ [.blk bl 66 l[k].row']) ?_ ?_ ?_
      ·exact Wv
      ·refine bc_ 0 O (bc_ 4 O (Zp ?_))
       exact Wx
      generalize G.step=G2 at hok2 hG ⊢
      have cr:=i1 hr1 _ _ (hok2.up (3 * l[k].label+1)) (by omega)
      have hok3:=runL_ok AM l[k].thn _ _ (hok2.up (3 * l[k].label+1))
      have hl2:=hok2.len
      have hg2:=getD_ok hok2 (3 * l[k].label+1).toNat
      refine jc_anyB 12 none O k_ k_ (Zz ?_)
      refine T_ (an_ (M_ O (F_ O (L_ 6 O (o_ O (bi_ [1,0,0,0,0,0] O O cr (ak_ (Zj ?_))))))))
      refine jq_againS (i:=(n,G)) (n+1,runL AM l[k].thn (G2.up (3 * l[k].label+1))) ⟨by omega,hG,hok3.mono (by rw [Nat.succ_mul]; omega)⟩ (by dsimp only; omega) ?_ ?_
      ·refine Zp ?_
       exact WF
      ·exact Wv
    ·rw [show l[k].max.toNat - n=0 by omega,whI] at hG
     refine am_ (R_ (M_ O (F_ O (L_ 6 O (o_ O (bw_ O O (T_ (ap_ O w_ (av_ (ax_ (ax_ (ba_ (jq_cutS () trivial ?_ ?_)))))))))))))
     ·rw [← hG]
      refine Zp ?_
      exact WF
     ·exact Wv
   ·intro _ _
    have hgF:=getD_ok hF (3 * l[k].label+2).toNat
    have hlF:=hF.len
    skip
    refine jc_anyB 12 none O k_ k_ (Zz ?_)
    refine ak_ (ay_ (Zj ?_))
    refine jq_againS (i:=k) (k+1) hltk g_ ?_ ?_
    ·rw [hstep]
     refine bc_ 1 O (Zp ?_)
     exact Wx
    ·exact Wv
  rw [if_neg hk4] at hr hcs hstep
  by_cases hk5:l[k].kind=5
  ·rw [if_pos hk5] at hr hcs hstep
   have cr:=i1 hr _ _ hj1 (by omega)
   refine YG ?_
   refine Zb (fun hlen=>?_)
   refine R_ (M_ O (M_ O (Zq ?_)))
   refine Yn (fun bl=>?_)
   refine Yu ?_
   refine Zc ?_
   refine E_ O ?_
   refine T_ (ap_ O w_ (Zc ?_))
   refine E_ O (T_ (ap_ O w_ (Zu ?_)))
   refine aq_ O u_ (an_ (M_ O (F_ O (L_ 0 O (o_ O (bi_ [1,1,1,1,1,1] O O cr (ak_ (ay_ (Zj ?_)))))))))
   refine jq_againS (i:=k) (k+1) hltk g_ ?_ ?_
   ·rw [hstep]
    refine Zp ?_
    exact Ww
   ·exact Wv
  rw [if_neg hk5] at hcs hstep
  refine YG ?_
  refine Zb (fun hlen=>?_)
  refine R_ (M_ O (M_ O (Zq ?_)))
  refine Yn (fun bl=>?_)
  refine Yu ?_
  refine Zc ?_
  refine E_ O ?_
  refine T_ (ap_ O w_ (Zc ?_))
  refine E_ O (T_ (ap_ O w_ (Zu ?_)))
  refine ap_ O w_ (as_ (ay_ (Zj ?_)))
  refine jq_againS (i:=k) (k+1) hltk g_ ?_ ?_
  ·rw [hstep]
   refine YB ?_
   exact bc_ 1 O (bc_ 1 O sub_end)
  ·exact Wv
 ·have hltk2:¬ (k:Int) < (((l).map Sm.row).length:Int):=by omega
  rw [List.take_of_length_le (by omega)]
  refine YG ?_
  refine Zh (fun hlen=>?_)
  refine jq_ret0S (.inr O) O (fun K h=>h) (Y7 ?_)
  exact WF
end
end Go.Proofs.YtalkkcfojplmdaaGreatDoor
end
section
namespace Go.Proofs.YtalkkcfojplmdaaGreatDoor
open Go.Vc
attribute [local irreducible] JL JC JQ OpWp Con ConN HOk
attribute [local irreducible] evJ evF Jb.arr
set_option maxHeartbeats 4000000
section
variable {bj bv ba:Nat} {va vb vc:Value} {AM:AMt} {ma mb N:Nat}
end
end Go.Proofs.YtalkkcfojplmdaaGreatDoor
end