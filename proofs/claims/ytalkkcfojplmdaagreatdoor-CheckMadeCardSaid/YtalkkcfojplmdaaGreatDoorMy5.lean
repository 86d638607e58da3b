import Derived.Test.YtalkkcfojplmdaaGreatDoorMy4
section
namespace Go.Proofs.YtalkkcfojplmdaaGreatDoor
open Go.Vc
attribute [local irreducible] JL JC JQ OpWp Con ConN
attribute [local irreducible] byteAt runLen isL isD isName hasW rd fineS numS textT hdT stsT stT
set_option maxHeartbeats 4000000
abbrev Bw (v:Value) (X:ByteArray):Ch:=.own v 5 1 ((bytesI X).map Brow)
def RBody (n:Nat):Prop:=∀ (l:List Sm) (sp X:ByteArray) (v:Value),(∀ s ∈ l,fineS n s)→sp.size+2 * n≤100→X.size+60000 * Sm.szs l≤100000000000000 →
 Con Tryz.prog 163 [.cell (.val v),.cell (.list (l.map Sm.row)),Str sp] [Bw v X] (fun K=>∀ v':Value,True→K (.cell (.val v')) [Bw v' (X ++ stsT sp l)])
theorem hdT1 {s:Sm} {x:T} (hk:s.kind=1) (hv:s.value=[x]):hdT s=((s.name ++ Kst) ++ textT x) ++ Knl:=by unfold hdT; rw [if_pos hk,hv]; rfl
theorem hdT2 {s:Sm} {x y:T} (hk:s.kind=2) (hi:s.index=[y]) (hv:s.value=[x]):hdT s=((((s.name ++ Kx1) ++ textT y) ++ Kx2) ++ textT x) ++ Knl:=by unfold hdT; rw [if_neg (by omega),if_pos hk,hv,hi]; rfl
theorem hdT3 {s:Sm} {x:T} (hk:s.kind=3) (hv:s.value=[x]):hdT s=(((Kif2 ++ textT x) ++ Klab) ++ numS s.label) ++ Kopen:=by unfold hdT; rw [if_neg (by omega),if_neg (by omega),if_pos hk,hv]; rfl
theorem hdT4 {s:Sm} {x:T} (hk:s.kind=4) (hv:s.value=[x]):hdT s=(((((Kwh ++ textT x) ++ Kmx) ++ numS s.max) ++ Klab) ++ numS s.label) ++ Kopen:=by unfold hdT; rw [if_neg (by omega),if_neg (by omega),if_neg (by omega),if_pos hk,hv]; rfl
theorem hdT5 {s:Sm} (hk:s.kind=5):hdT s=(Klk ++ s.name) ++ Kopen:=by unfold hdT; rw [if_neg (by omega),if_neg (by omega),if_neg (by omega),if_neg (by omega)]
theorem row1 {s:Sm} {x:T} (h:s.value=[x]):s.row'=[.val (.int .i64 s.kind),.val (.string s.name),.list (s.index.map T.row),.list ([x].map T.row),.val (.int .i64 s.max),.val (.int .i64 s.label),.list (s.thn.map Sm.row),.list (s.els.map Sm.row)]:=by
 rw [← h]
theorem row2 {s:Sm} {x y:T} (hi:s.index=[y]) (h:s.value=[x]):s.row'=[.val (.int .i64 s.kind),.val (.string s.name),.list ([y].map T.row),.list ([x].map T.row),.val (.int .i64 s.max),.val (.int .i64 s.label),.list (s.thn.map Sm.row),.list (s.els.map Sm.row)]:=by
 rw [← h,← hi]
theorem rtextF_c {t:T} (h:Fx t):Con Tryz.prog 202 [.row t.row'] [] (fun K=>K (Str (textT t)) []):=rtext_c t h.1 (text_small h.1 h.2)
theorem rnumF_c {n:Int} (h:Pl n):Con Tryz.prog 162 [In .i64 n] [] (fun K=>K (Str (numS n)) []):=refNumber_c n ⟨by have:=h.1; omega,h.2⟩
theorem rbody_step (n:Nat) (hrec:∀ n',n=n'+1→RBody n'):RBody n:=by
 intro l sp X v0 hfine hsp hX
 have eL:(l.map Sm.row).length=l.length:=List.length_map _
 refine con_intro Tryz.func163 O O b_ (fun c hc=>ZO ?_)
 refine jc_loopS (ι:=Nat × Value) [] (fun i=>i.1≤l.length) (fun i=>[(0,.cell (.val i.2)),(1,.cell (.list (l.map Sm.row))),(2,Str sp),(7,In .i64 (i.1:Int))]) (fun i=>[Bw i.2 (X ++ stsT sp (l.take i.1))]) (fun i=>l.length - i.1) (0,v0) (Nat.zero_le _) ?_ ?_ ?_
 ·rw [show X ++ stsT sp (l.take 0)=X by rw [List.take_zero,stsT,ba_nil]]
  exact Wy
 ·exact Ww
 rintro ⟨k,v⟩ hk
 dsimp only at hk ⊢
 by_cases hlt:k < l.length
 ·have hlt2:(k:Int) < ((l.map Sm.row).length:Int):=by omega
  have hfk:=hfine l[k] (List.getElem_mem hlt)
  have hszk:=szs_take_succ hlt
  have hs0:=sts_size (l:=l.take k) (fun s hs=>hfine s (List.mem_of_mem_take hs)) hsp
  have hsk:=st_size n sp l[k] hfk hsp
  have hYs:(X ++ stsT sp (l.take k)).size+60000 * l[k].sz≤100000000000000:=by rw [ByteArray.size_append]; omega
  have hnext:X ++ stsT sp (l.take (k+1))=(X ++ stsT sp (l.take k)) ++ stT sp l[k]:=by rw [stsT_take sp hlt,ByteArray.append_assoc]
  generalize X ++ stsT sp (l.take k)=Y at hYs hnext ⊢
  have hz1:1≤l[k].sz:=by rw [Sm.sz_eq]; omega
  refine Yu ?_
  refine Zb (fun hlen=>?_)
  refine R_ (M_ O (M_ O (Zq ?_)))
  refine Yt (fun bl=>?_)
  refine R_ (M_ O (M_ O (o_ O (ow_appendS 1 O O O O O O O O g_ (fun v1 _=>E_ O (T_ (am_ ?_)))))))
  obtain ⟨s,hs⟩:∃ s,s=l[k]:=⟨_,rfl⟩
  rw [← hs] at hfk hsk hYs hnext hz1 ⊢
  have hhd:=hd_size hfk
  have hY2:(Y ++ sp).size=Y.size+sp.size:=ByteArray.size_append ..
  obtain ⟨n',rfl⟩:∃ n',n=n'+1:=by
   cases n with
   | zero=>exact absurd hfk (by unfold fineS; exact id)
   | succ n=>exact ⟨n,rfl⟩
  have hrec:=hrec n' rfl
  unfold fineS at hfk
  refine jc_cut (ι:=Value) [] (fun _=>3≤s.kind) (fun v=>[(0,.cell (.val v)),(1,.cell (.list (l.map Sm.row))),(2,Str sp),(7,In .i64 (k:Int)),(8,.cell (.val (.pointer (some ⟨bl,0,none⟩))))]) (fun v=>[Bw v ((Y ++ sp) ++ hdT s),.blk bl 66 s.row']) ?_ ?_
  ·rcases hfk with ⟨hk1,hn,x,hv,fx⟩ | ⟨hk1,hn,y,x,hi,hv,fy,fx⟩ | ⟨hk1,⟨x,hv,fx⟩,hl,_⟩ | ⟨hk1,⟨x,hv,fx⟩,hm,hl,_⟩ | ⟨hk1,hn,_⟩
   ·rw [row1 hv]
    have ehd:=hdT1 hk1 hv
    have e1:[x].length=1:=rfl
    have hxs:=fx.size
    have hns:=name_size hn
    have ht:=rtextF_c fx
    refine R_ (F_ O (L_ 1 O (T_ (au_ (Zu ?_)))))
    refine aq_ O u_ (am_ (jc_anyB 11 none O k_ k_ (yM_ O (yF_ O (yL_ 1 O (aa_ (fun c=>ow_strcat rfl O (by simp only [ba_lit,List.length_cons,List.length_nil];omega) p_) ?_))))))
    refine yF_ O (yL_ 1 O (ZA ?_))
    refine aa_ (fun c=>bm_ O (ht) p_) (Zf ?_)
    refine ae_ (afin_none ?_)
    refine o_ O (ow_appendS 0 O O O O O O O O (by rw [← ehd];omega) (fun v1 _=>E_ O (T_ (av_ (bb_ O (ax_ (ba_ (al_ (an_ (YN ?_))))))))))
    rw [← ehd]
    refine jq_againS (i:=(k,v)) (k+1,v1) hlt (by dsimp only; omega) ?_ ?_
    ·dsimp only
     rw [hnext,stT_leaf sp (.inl hk1),← ByteArray.append_assoc]
     exact Wy
    ·exact Ww
   ·rw [row2 hi hv]
    have ehd:=hdT2 hk1 hi hv
    have e1:[x].length=1:=rfl
    have e2:[y].length=1:=rfl
    have hxs:=fx.size
    have hys:=fy.size
    have hns:=name_size hn
    have ht:=rtextF_c fx
    have ht2:=rtextF_c fy
    refine R_ (F_ O (L_ 1 O (T_ (au_ (Zu ?_)))))
    refine ap_ O v_ (Zu ?_)
    refine aq_ O u_ (am_ ?_)
    refine jc_anyB 18 none O k_ k_ (yM_ O (yF_ O (yL_ 1 O (aa_ (fun c=>ow_strcat rfl O (by simp only [ba_lit,List.length_cons,List.length_nil];omega) p_) (yF_ O (yL_ 1 O (ZA ?_)))))))
    refine aa_ (fun c=>bm_ O (ht2) p_) ?_
    refine Zf ?_
    refine yF_ O (yL_ 1 O (ZA ?_))
    refine aa_ (fun c=>bm_ O (ht) p_) ?_
    refine Zf ?_
    refine ae_ (afin_none (o_ O (ow_appendS 0 O O O O O O O O (by rw [← ehd];omega) (fun v1 _=>E_ O (T_ (av_ (bb_ O (ax_ (ba_ (al_ (an_ ?_)))))))))))
    refine YN ?_
    rw [← ehd]
    refine jq_againS (i:=(k,v)) (k+1,v1) hlt (by dsimp only; omega) ?_ ?_
    ·dsimp only
     rw [hnext,stT_leaf sp (.inr hk1),← ByteArray.append_assoc]
     exact Wy
    ·exact Ww
   ·rw [row1 hv]
    have ehd:=hdT3 hk1 hv
    have e1:[x].length=1:=rfl
    have hxs:=fx.size
    have hls:=hl.size
    have ht:=rtextF_c fx
    have hN:=rnumF_c hl
    refine R_ (F_ O (L_ 1 O (T_ (au_ (Zu ?_)))))
    refine ap_ O v_ (Zu ?_)
    refine ap_ O v_ (R_ ?_)
    refine o_ O (bn_ O O (E_ O (T_ (aq_ O u_ (jc_anyB 13 none O k_ k_ (yM_ O (yF_ O (yL_ 1 O (ZA ?_)))))))))
    refine aa_ (fun c=>bm_ O (ht) p_) (aa_ (fun c=>ow_strcat rfl O (by simp only [ba_lit,List.length_cons,List.length_nil];omega) p_) ?_)
    refine YJ ?_
    refine yL_ 1 O (aa_ (fun c=>bm_ O (hN) p_) (aa_ (fun c=>ow_strcat rfl O (by simp only [ByteArray.size_append,ba_lit,List.length_cons,List.length_nil];omega) p_) ?_))
    refine Yc ?_
    refine o_ O (ow_appendS 0 O O O O O O O O (by rw [← ehd];omega) (fun v1 _=>E_ O (ak_ (ay_ ?_))))
    rw [← ehd,← row1 hv]
    refine jq_cutS v1 g_ ?_ ?_
    ·exact Wx
    ·exact Ww
   ·rw [row1 hv]
    have ehd:=hdT4 hk1 hv
    have e1:[x].length=1:=rfl
    have hxs:=fx.size
    have hls:=hl.size
    have hms:=hm.size
    have ht:=rtextF_c fx
    have hN:=rnumF_c hl
    have hM:=rnumF_c hm
    refine R_ (F_ O (L_ 1 O (T_ (au_ (Zu ?_)))))
    refine ap_ O v_ (Zu ?_)
    refine ap_ O v_ (R_ ?_)
    refine o_ O (bn_ O O (E_ O (T_ (ap_ O v_ (Zu ?_)))))
    refine aq_ O u_ (jc_anyB 18 none O k_ k_ (yM_ O (yF_ O (yL_ 1 O (ZA ?_)))))
    refine aa_ (fun c=>bm_ O (ht) p_) ?_
    refine Zw ?_
    refine yF_ O (yL_ 1 O (aa_ (fun c=>bm_ O (hM) p_) ?_))
    refine Zf ?_
    refine yF_ O (yL_ 1 O (aa_ (fun c=>bm_ O (hN) p_) ?_))
    refine Zf ?_
    refine ae_ (afin_none (o_ O (ow_appendS 0 O O O O O O O O (by rw [← ehd];omega) (fun v1 _=>E_ O (ak_ (ay_ ?_))))))
    rw [← ehd,← row1 hv]
    refine jq_cutS v1 g_ ?_ ?_
    ·exact Wx
    ·exact Ww
   ·have ehd:=hdT5 hk1
    have hns:=name_size hn
    refine R_ (F_ O (L_ 1 O (T_ (au_ (Zu ?_)))))
    refine ap_ O v_ (Zu ?_)
    refine ap_ O v_ (R_ ?_)
    refine o_ O (bn_ O O (E_ O (T_ (ap_ O v_ (Zu ?_)))))
    refine ap_ O v_ (an_ (M_ O (F_ O (L_ 1 O (Yl ?_)))))
    refine Wk ?_
    refine o_ O (ow_appendS 0 O O O O O O O O (by rw [← ehd];omega) (fun v1 _=>E_ O (ak_ (ay_ ?_))))
    rw [← ehd]
    refine jq_cutS v1 g_ ?_ ?_
    ·exact Wx
    ·exact Ww
  intro v3 hk3
  have hk12:¬ (s.kind=1 ∨ s.kind=2):=by omega
  have hthn:∀ t ∈ s.thn,fineS n' t:=by
   rcases hfk with h | h | h | h | h
   ·exact absurd (.inl h.1) hk12
   ·exact absurd (.inr h.1) hk12
   ·exact h.2.2.2.1
   ·exact h.2.2.2.2.1
   ·exact h.2.2.1
  have hels:∀ t ∈ s.els,fineS n' t:=by
   rcases hfk with h | h | h | h | h
   ·exact absurd (.inl h.1) hk12
   ·exact absurd (.inr h.1) hk12
   ·exact h.2.2.2.2
   ·rw [h.2.2.2.2.2]; simp
   ·rw [h.2.2.2]; simp
  have ez:=Sm.sz_eq s
  have hsp2:(sp ++ Ksp).size=sp.size+2:=by rw [ByteArray.size_append]; rfl
  have hZ:((Y ++ sp) ++ hdT s).size=(Y ++ sp).size+(hdT s).size:=ByteArray.size_append ..
  have e1:stT sp s=(sp ++ hdT s) ++ stsT (sp ++ Ksp) s.thn ++ (if s.els=[] then ⟨#[]⟩ else (sp ++ Kelse2) ++ stsT (sp ++ Ksp) s.els) ++ (sp ++ Kclose):=stT_node sp hk12
  have hT:=sts_size hthn (sp:=sp ++ Ksp) (by omega)
  have hE:=sts_size hels (sp:=sp ++ Ksp) (by omega)
  clear hfk
  generalize hZe:(Y ++ sp) ++ hdT s=Zt at hZ ⊢
  have con1:=hrec s.thn (sp ++ Ksp) Zt v3 hthn (by omega) (by omega)
  have hZ2:(Zt ++ stsT (sp ++ Ksp) s.thn).size=Zt.size+(stsT (sp ++ Ksp) s.thn).size:=ByteArray.size_append ..
  have eE:(s.els.map Sm.row).length=s.els.length:=List.length_map _
  refine R_ (M_ O (F_ O (L_ 1 O (M_ O (Yl ?_)))))
  refine o_ O (bt_ [0] O O (con1) (fun pp hpp=>E_ O (T_ (am_ ?_))))
  generalize hZ2e:Zt ++ stsT (sp ++ Ksp) s.thn=Z2 at hZ2 ⊢
  by_cases hnil:s.els=[]
  ·have hz:¬ (0:Int) < ((s.els.map Sm.row).length:Int):=by rw [hnil]; simp
   refine R_ (F_ O (L_ 1 O (o_ O (br_ O (fun hlen=>Ws ?_)))))
   refine al_ (an_ (M_ O (M_ O (Yl ?_))))
   refine o_ O (ow_appendS 0 O O O O O O O O (by simp only [ByteArray.size_append,ba_lit,List.length_cons,List.length_nil];omega) (fun v1 _=>E_ O (ak_ ?_)))
   refine Zk ?_
   refine jq_againS (i:=(k,v)) (k+1,v1) hlt (by dsimp only; omega) ?_ ?_
   ·dsimp only
    rw [hnext,e1,if_pos hnil,ba_nil,← hZ2e,← hZe]
    simp only [ByteArray.append_assoc]
    exact Wy
   ·exact Ww
  ·have hz:(0:Int) < ((s.els.map Sm.row).length:Int):=by
    have:=List.length_pos_iff.2 hnil
    omega
   have hsp3:(sp ++ Kelse2).size=sp.size+9:=by rw [ByteArray.size_append]; rfl
   have hZ3:(Z2 ++ (sp ++ Kelse2)).size=Z2.size+(sp ++ Kelse2).size:=ByteArray.size_append ..
   have con2:=fun v=>hrec s.els (sp ++ Ksp) (Z2 ++ (sp ++ Kelse2)) v hels (by omega) (by omega)
   refine R_ (F_ O (L_ 1 O (o_ O (br_ O (fun hlen=>o_ O (bz_ O O (T_ (aq_ O u_ (R_ (M_ O (M_ O (Yl ?_))))))))))))
   refine o_ O (ow_appendS 0 O O O O O O O O (by simp only [ByteArray.size_append,ba_lit,List.length_cons,List.length_nil];omega) (fun v1 _=>E_ O (T_ (an_ (M_ O ?_)))))
   refine F_ O (L_ 1 O (M_ O (Yl ?_)))
   refine o_ O (bt_ [0] O O (con2 _) (fun pp hpp=>E_ O (T_ (an_ (M_ O (M_ O (Yl ?_)))))))
   refine o_ O (ow_appendS 0 O O O O O O O O (by simp only [ByteArray.size_append,ba_lit,List.length_cons,List.length_nil];omega) (fun v1 _=>E_ O (ak_ (Zk ?_))))
   refine jq_againS (i:=(k,v)) (k+1,v1) hlt (by dsimp only; omega) ?_ ?_
   ·dsimp only
    rw [hnext,e1,if_neg hnil,← hZ2e,← hZe]
    simp only [ByteArray.append_assoc]
    exact Wy
   ·exact Ww
 ·have hlt2:¬ (k:Int) < ((l.map Sm.row).length:Int):=by omega
  rw [List.take_of_length_le (by omega)]
  refine Yu ?_
  refine Zh (fun hlen=>?_)
  refine al_ (R_ (M_ O (E_ O ?_)))
  refine T_ (ar_ (jq_ret1 O O [0] O (fun K h=>h v trivial)))
theorem rbody_c : ∀ n : Nat, RBody n
  | 0 => rbody_step 0 (fun n' h => by omega)
  | n + 1 => rbody_step (n + 1) (fun n' h => by obtain rfl : n' = n := by omega
                                                exact rbody_c n')
end Go.Proofs.YtalkkcfojplmdaaGreatDoor
end
section
namespace Go.Proofs.YtalkkcfojplmdaaGreatDoor
open Go.Vc
attribute [local irreducible] JL JC JQ OpWp Con ConN
attribute [local irreducible] byteAt runLen isL isD isName hasW rd fineS numS textT hdT stsT stT okSs
set_option maxHeartbeats 8000000
def catL {α:Type} (f:α→ByteArray):List α→ByteArray
 | []=>⟨#[]⟩
 | a :: l=>f a ++ catL f l
theorem catL_app {α:Type} (f:α→ByteArray):∀ l m:List α,catL f (l ++ m)=catL f l ++ catL f m
 | [],m=>by rw [List.nil_append,catL,nil_ba]
 | a :: l,m=>by rw [List.cons_append,catL,catL,catL_app f l m,ByteArray.append_assoc]
theorem catL_take {α:Type} (f:α→ByteArray) (Y:ByteArray) {l:List α} {k:Nat} (h:k < l.length):Y ++ catL f (l.take (k+1))=(Y ++ catL f (l.take k)) ++ f l[k]:=by
 rw [List.take_succ_eq_append_getElem h,catL_app,catL,catL,ba_nil,ByteArray.append_assoc]
theorem catL_size {α:Type} {f:α→ByteArray} {B:Nat}:∀ {l:List α},(∀ a ∈ l,(f a).size≤B)→(catL f l).size≤l.length * B
 | [],_=>by simp [catL]; rfl
 | a :: l,h=>by
  have h1:=h a (by simp)
  have h2:=catL_size (l:=l) (fun x hx=>h x (by simp [hx]))
  rw [catL,ByteArray.size_append,List.length_cons,Nat.add_mul]
  omega
theorem catL_takeS {α:Type} {f:α→ByteArray} {B:Nat} {l:List α} (h:∀ a ∈ l,(f a).size≤B) (k:Nat):(catL f (l.take k)).size≤l.length * B:=by
 have h1:=catL_size (l:=l.take k) (fun a ha=>h a (List.mem_of_mem_take ha))
 have h2:(l.take k).length * B≤l.length * B:=Nat.mul_le_mul_right _ (by rw [List.length_take]; omega)
 omega
def resT (x:ByteArray):ByteArray:=(((⟨#[114,101,115,111,117,114,99,101,32]⟩:ByteArray) ++ x) ++ (⟨#[10]⟩:ByteArray))
def shT (x:Shd):ByteArray:=(((((((⟨#[115,104,97,114,101,100,32]⟩:ByteArray) ++ x.1) ++ (⟨#[32]⟩:ByteArray)) ++ numS x.2.1) ++ (⟨#[32]⟩:ByteArray)) ++ x.2.2) ++ (⟨#[10]⟩:ByteArray))
def inT (x:Inp):ByteArray:=(((((((⟨#[105,110,112,117,116,32]⟩:ByteArray) ++ x.1) ++ (⟨#[32]⟩:ByteArray)) ++ numS x.2.1) ++ (⟨#[32]⟩:ByteArray)) ++ numS x.2.2) ++ (⟨#[10]⟩:ByteArray))
def vaT (x:ByteArray):ByteArray:=(((⟨#[118,97,114,32]⟩:ByteArray) ++ x) ++ (⟨#[10]⟩:ByteArray))
def arT (x:Arr):ByteArray:=(((((⟨#[97,114,114,97,121,32]⟩:ByteArray) ++ x.1) ++ (⟨#[32]⟩:ByteArray)) ++ numS x.2) ++ (⟨#[10]⟩:ByteArray))
def mdT (x:Md):ByteArray:=(((((((((⟨#[109,111,100,101,32]⟩:ByteArray) ++ x.1) ++ (⟨#[32]⟩:ByteArray)) ++ x.2.1) ++ (⟨#[32]⟩:ByteArray)) ++ numS x.2.2.1) ++ (⟨#[32]⟩:ByteArray)) ++ numS x.2.2.2) ++ (⟨#[10]⟩:ByteArray))
def clT (x:Clm):ByteArray:=(((((⟨#[110,101,118,101,114,32]⟩:ByteArray) ++ numS x.1) ++ (⟨#[32]⟩:ByteArray)) ++ numS x.2) ++ (⟨#[10]⟩:ByteArray))
def tkHd (x:Tk):ByteArray:=(((((((((((⟨#[116,97,115,107,32]⟩:ByteArray) ++ x.name) ++ (⟨#[32,112,101,114,105,111,100,32]⟩:ByteArray)) ++ numS x.period) ++ (⟨#[32,100,101,97,100,108,105,110,101,32]⟩:ByteArray)) ++ numS x.deadline) ++ (⟨#[32,112,114,105,111,114,105,116,121,32]⟩:ByteArray)) ++ numS x.priority) ++ (⟨#[32,106,105,116,116,101,114,32]⟩:ByteArray)) ++ numS x.jitter) ++ (⟨#[10]⟩:ByteArray))
def tkT (t:Tk):ByteArray:=((((((((tkHd t ++ catL inT t.inputs) ++ catL vaT t.vars) ++ catL arT t.arrays) ++ catL mdT t.modes) ++ catL clT t.claims) ++ (⟨#[98,111,100,121,10]⟩:ByteArray)) ++ stsT Ksp t.body) ++ (⟨#[101,110,100,10]⟩:ByteArray))
def progT (p:Pg):ByteArray:=(catL resT p.res ++ catL shT p.shared) ++ catL tkT p.tasks
def progF (p:Pg):ByteArray × Int:=if okPg p=false then (⟨#[]⟩,10) else if p.tasks.any (fun t=>dpF 8 t.body)=true then (⟨#[]⟩,4) else if 8192 < (progT p).size then (⟨#[]⟩,4) else (progT p,0)
structure TkSz (t:Tk):Prop where
 inputs:t.inputs.length≤1000
 vars:t.vars.length≤1000
 arrays:t.arrays.length≤1000
 modes:t.modes.length≤1000
 claims:t.claims.length≤1000
 body:Sm.szs t.body≤1000000
structure PgSz (p:Pg):Prop where
 res:p.res.length≤1000
 shared:p.shared.length≤1000
 len:p.tasks.length≤1000
 tasks:∀ t ∈ p.tasks,TkSz t
theorem resT_ok {x:ByteArray} (h:nameB x=true):nmOk (x):=by
 exact nameB_ok.1 h
theorem resT_size {x:ByteArray} (h:nameB x=true):(resT x).size≤200:=by
 have h:=resT_ok h
 have:=name_size h
 simp only [resT,ByteArray.size_append,ba_lit,List.length_cons,List.length_nil]
 omega
theorem shT_ok {x:Shd} (h:shB x=true):nmOk (x.1)∧Pl (x.2.1)∧nmOk (x.2.2):=by
 unfold shB at h
 simp only [Bool.and_eq_true,and_assoc] at h
 obtain ⟨h0,h1,h2⟩:=h
 exact ⟨nameB_ok.1 h0,plainB_ok.1 h1,nameB_ok.1 h2⟩
theorem shT_size {x:Shd} (h:shB x=true):(shT x).size≤200:=by
 have h:=shT_ok h
 obtain ⟨h0,h1,h2⟩:=h
 have:=name_size h0
 have:=h1.size
 have:=name_size h2
 simp only [shT,ByteArray.size_append,ba_lit,List.length_cons,List.length_nil]
 omega
theorem inT_ok {x:Inp} (h:inB x=true):nmOk (x.1)∧(-2147483647≤x.2.1∧x.2.1≤2147483647)∧(-2147483647≤x.2.2∧x.2.2≤2147483647):=by
 unfold inB at h
 simp only [Bool.and_eq_true,and_assoc] at h
 obtain ⟨h0,h1,h2⟩:=h
 exact ⟨nameB_ok.1 h0,smallB_ok.1 h1,smallB_ok.1 h2⟩
theorem inT_size {x:Inp} (h:inB x=true):(inT x).size≤200:=by
 have h:=inT_ok h
 obtain ⟨h0,h1,h2⟩:=h
 have:=name_size h0
 have:=numS_size _ h1.1 h1.2
 have:=numS_size _ h2.1 h2.2
 simp only [inT,ByteArray.size_append,ba_lit,List.length_cons,List.length_nil]
 omega
theorem vaT_ok {x:ByteArray} (h:nameB x=true):nmOk (x):=by
 exact nameB_ok.1 h
theorem vaT_size {x:ByteArray} (h:nameB x=true):(vaT x).size≤200:=by
 have h:=vaT_ok h
 have:=name_size h
 simp only [vaT,ByteArray.size_append,ba_lit,List.length_cons,List.length_nil]
 omega
theorem arT_ok {x:Arr} (h:arB x=true):nmOk (x.1)∧Pl (x.2):=by
 unfold arB at h
 simp only [Bool.and_eq_true] at h
 obtain ⟨h0,h1⟩:=h
 exact ⟨nameB_ok.1 h0,plainB_ok.1 h1⟩
theorem arT_size {x:Arr} (h:arB x=true):(arT x).size≤200:=by
 have h:=arT_ok h
 obtain ⟨h0,h1⟩:=h
 have:=name_size h0
 have:=h1.size
 simp only [arT,ByteArray.size_append,ba_lit,List.length_cons,List.length_nil]
 omega
theorem mdT_ok {x:Md} (h:mdB x=true):nmOk (x.1)∧nmOk (x.2.1)∧(-2147483647≤x.2.2.1∧x.2.2.1≤2147483647)∧(-2147483647≤x.2.2.2∧x.2.2.2≤2147483647):=by
 unfold mdB at h
 simp only [Bool.and_eq_true,and_assoc] at h
 obtain ⟨h0,h1,h2,h3⟩:=h
 exact ⟨nameB_ok.1 h0,nameB_ok.1 h1,smallB_ok.1 h2,smallB_ok.1 h3⟩
theorem mdT_size {x:Md} (h:mdB x=true):(mdT x).size≤200:=by
 have h:=mdT_ok h
 obtain ⟨h0,h1,h2,h3⟩:=h
 have:=name_size h0
 have:=name_size h1
 have:=numS_size _ h2.1 h2.2
 have:=numS_size _ h3.1 h3.2
 simp only [mdT,ByteArray.size_append,ba_lit,List.length_cons,List.length_nil]
 omega
theorem clT_ok {x:Clm} (h:clB x=true):Pl (x.1)∧Pl (x.2):=by
 unfold clB at h
 simp only [Bool.and_eq_true] at h
 obtain ⟨h0,h1⟩:=h
 exact ⟨plainB_ok.1 h0,plainB_ok.1 h1⟩
theorem clT_size {x:Clm} (h:clB x=true):(clT x).size≤200:=by
 have h:=clT_ok h
 obtain ⟨h0,h1⟩:=h
 have:=h0.size
 have:=h1.size
 simp only [clT,ByteArray.size_append,ba_lit,List.length_cons,List.length_nil]
 omega
theorem tk1_ok {x:Tk} (h:hdB x=true):nmOk (x.name)∧Pl (x.period)∧Pl (x.deadline)∧Pl (x.priority)∧Pl (x.jitter):=by
 unfold hdB at h
 simp only [Bool.and_eq_true,and_assoc] at h
 obtain ⟨h0,h1,h2,h3,h4⟩:=h
 exact ⟨nameB_ok.1 h0,plainB_ok.1 h1,plainB_ok.1 h2,plainB_ok.1 h3,plainB_ok.1 h4⟩
theorem tk1_size {x:Tk} (h:hdB x=true):(tkHd x).size≤200:=by
 have h:=tk1_ok h
 obtain ⟨h0,h1,h2,h3,h4⟩:=h
 have:=name_size h0
 have:=h1.size
 have:=h2.size
 have:=h3.size
 have:=h4.size
 simp only [tkHd,ByteArray.size_append,ba_lit,List.length_cons,List.length_nil]
 omega
theorem hd_of {t:Tk} (h:okTk t=true):hdB t=true∧okSs 20 t.body=true∧(∀ x ∈ t.inputs,inB x=true)∧(∀ x ∈ t.vars,nameB x=true)∧(∀ x ∈ t.arrays,arB x=true)∧(∀ x ∈ t.modes,mdB x=true)∧∀ x ∈ t.claims,clB x=true:=by
 unfold okTk at h
 simp only [Bool.and_eq_true,and_assoc,List.all_eq_true] at h
 exact h
theorem tkT_size {t:Tk} (h:okTk t=true) (hd:dpF 8 t.body=false) (hs:TkSz t):(tkT t).size≤60002000000:=by
 obtain ⟨h0,hb,h1,h2,h3,h4,h5⟩:=hd_of h
 have e0:=tk1_size h0
 have e1:=catL_size (f:=inT) (fun x hx=>inT_size (h1 x hx))
 have e2:=catL_size (f:=vaT) (fun x hx=>vaT_size (h2 x hx))
 have e3:=catL_size (f:=arT) (fun x hx=>arT_size (h3 x hx))
 have e4:=catL_size (f:=mdT) (fun x hx=>mdT_size (h4 x hx))
 have e5:=catL_size (f:=clT) (fun x hx=>clT_size (h5 x hx))
 have e6:=sts_size (sp:=Ksp) (fine_of 8 20 t.body (by omega) hb hd) (by show 2+2 * 8≤100; omega)
 have:=hs.inputs
 have:=hs.vars
 have:=hs.arrays
 have:=hs.modes
 have:=hs.claims
 have:=hs.body
 simp only [tkT,ByteArray.size_append,ba_lit,List.length_cons,List.length_nil]
 omega
theorem rProg_c (p:Pg) (hz:PgSz p):Con Tryz.prog 112 [.row p.row] [] (fun K=>K (.tup [Str (progF p).1,In .i64 (progF p).2]) []):=by
 refine con_intro Tryz.func112 O O b_ (fun c hc=>R_ (o_ O (ci_ O (fun bx=>E_ O (E_ O (T_ (am_ (R_ (A_ 0 O (o_ O (bm_ O (rprintableB_c _) (o_ O (cd_ O (T_ ?_))))))))))))))
 by_cases hok:okPg p=false
 ·have hN:(!okPg p)=true:=by rw [hok]; rfl
  have e1:progF p=(⟨#[]⟩,10):=by unfold progF; rw [if_pos hok]
  refine aq_ O h_ (R_ (E_ O (E_ O (T_ (ar_ (aw_ (jq_ret2 O O O [] O (fun K h=>by rw [e1] at h; exact h))))))))
 have hok:okPg p=true:=by simpa using hok
 have hN:(!okPg p)=false:=by rw [hok]; rfl
 have hokb:¬ okPg p=false:=by rw [hok]; simp
 refine ap_ O h_ (as_ (al_ ?_))
 -- none is too deep
 have eT:(p.tasks.map Tk.row).length=p.tasks.length:=List.length_map _
 refine am_ (jc_cut (ι:=Unit) [] (fun _=>p.tasks.any (fun t=>dpF 8 t.body)=false) (fun _=>[(1,.cell (.val (.pointer (some ⟨bx,0,none⟩))))]) (fun _=>[.blk bx 31 p.row]) ?_ ?_)
 ·refine R_ (E_ O (T_ (au_ (jc_loopS (ι:=Nat) [] (fun k=>k≤p.tasks.length∧(p.tasks.take k).any (fun t=>dpF 8 t.body)=false) (fun k=>(4,In .i64 (k:Int)) :: [(1,.cell (.val (.pointer (some ⟨bx,0,none⟩))))]) (fun _=>[.blk bx 31 p.row]) (fun k=>p.tasks.length - k) 0 ⟨Nat.zero_le _,rfl⟩ ?_ ?_ ?_))))
  ·exact Wy
  ·exact Ww
  rintro k ⟨hk,hall⟩
  by_cases hlt:k < p.tasks.length
  ·have hlt2:(k:Int) < ((p.tasks.map Tk.row).length:Int):=by omega
   by_cases hd:dpF 8 p.tasks[k].body=true
   ·have hany:p.tasks.any (fun t=>dpF 8 t.body)=true:=any_yes hlt hd
    have e1:progF p=(⟨#[]⟩,4):=by unfold progF; rw [if_neg hokb,if_pos hany]
    refine ZB ?_
    refine Zb (fun hlen=>?_)
    refine Y6 ?_
    refine ZI ?_
    refine Yo ?_
    refine bm_ O (rDeep_c _) (T_ (aq_ O h_ (R_ (E_ O (E_ O (T_ (ar_ (az_ (aw_ (aw_ (az_ (aw_ ?_))))))))))))
    refine jq_ret2 O O O [] O (fun K h=>by rw [e1] at h; exact h)
   ·have hd:dpF 8 p.tasks[k].body=false:=by simpa using hd
    refine ZB ?_
    refine Zb (fun hlen=>?_)
    refine Y6 ?_
    refine ZI ?_
    refine Yo ?_
    refine bm_ O (rDeep_c _) (T_ (ap_ O h_ (as_ (Zk ?_))))
    refine jq_againS (k+1) ⟨hlt,any_snoc hlt hall hd⟩ g_ ?_ ?_
    ·exact Wy
    ·exact Ww
  ·have hlt2:¬ (k:Int) < ((p.tasks.map Tk.row).length:Int):=by omega
   refine ZB ?_
   refine Zh (fun hlen=>?_)
   refine jq_cutS () (by rw [List.take_of_length_le g_] at hall; exact hall) ?_ ?_
   ·exact Wy
   ·exact Ww
 intro _ hdeep
 have hok2:=hok
 unfold okPg at hok2
 simp only [Bool.and_eq_true,List.all_eq_true,and_assoc] at hok2
 obtain ⟨hR,hSh,hTk⟩:=hok2
 have zr:=hz.res
 have zs:=hz.shared
 have zl:=hz.len
 refine jc_ownNil 5 1 g_ (R_ (E_ O (T_ (am_ ?_))))
 have hY0:((⟨#[]⟩:ByteArray)).size≤0:=Nat.le_refl _
 refine jc_cut (ι:=Value) [] (fun _=>True) (fun v=>(5,.cell (.val v)) :: [(1,.cell (.val (.pointer (some ⟨bx,0,none⟩))))]) (fun v=>[Bw v ((⟨#[]⟩:ByteArray) ++ catL resT (p.res)),.blk bx 31 p.row]) ?_ ?_
 ·refine R_ (E_ O (T_ (au_ (jc_loopS (ι:=Nat × Value) [] (fun i=>i.1≤(p.res).length) (fun i=>(6,In .i64 (i.1:Int)) :: (5,.cell (.val i.2)) :: [(1,.cell (.val (.pointer (some ⟨bx,0,none⟩))))]) (fun i=>[Bw i.2 ((⟨#[]⟩:ByteArray) ++ catL resT ((p.res).take i.1)),.blk bx 31 p.row]) (fun i=>(p.res).length - i.1) (0,(.slice none 0 0)) (Nat.zero_le _) ?_ ?_ ?_))))
  ·rw [show (⟨#[]⟩:ByteArray) ++ catL resT ((p.res).take 0)=(⟨#[]⟩:ByteArray) by rw [List.take_zero,catL,ba_nil]]
   exact Wx
  ·exact Ww
  rintro ⟨k,v⟩ hk
  dsimp only at hk ⊢
  have eL:((p.res).map Wrow).length=(p.res).length:=List.length_map _
  by_cases hlt:k < (p.res).length
  ·have hlt2:(k:Int) < (((p.res).map Wrow).length:Int):=by omega
   have hsz:=catL_takeS (f:=resT) (l:=p.res) (fun x hx=>resT_size (hR x hx)) k
   have hnx:=catL_take resT ((⟨#[]⟩:ByteArray)) hlt
   have hfs:=resT_size (hR _ (List.getElem_mem hlt))
   have hYs:((⟨#[]⟩:ByteArray) ++ catL resT ((p.res).take k)).size≤0+200000:=by rw [ByteArray.size_append]; omega
   generalize (⟨#[]⟩:ByteArray) ++ catL resT ((p.res).take k)=Z at hYs hnx ⊢
   have gk:=resT_ok (hR _ (List.getElem_mem hlt))
   have g0:=gk
   have:=name_size g0
   refine Z6 ?_
   refine Zb (fun hlen=>?_)
   refine an_ (M_ O (F_ O (L_ 1 O ?_)))
   refine M_ O (ZI ?_)
   refine cb_ O O (Yl ?_)
   refine Wk ?_
   refine o_ O (ow_appendS 0 O O O O O O O O (by show _+(resT (p.res)[k]).size≤_;omega) (fun v1 _=>?_))
   refine E_ O (ak_ (Zk ?_))
   refine jq_againS (i:=(k,v)) (k+1,v1) hlt (by dsimp only; omega) ?_ ?_
   ·dsimp only
    rw [hnx]
    exact Wx
   ·exact Ww
  ·have hlt2:¬ (k:Int) < (((p.res).map Wrow).length:Int):=by omega
   rw [List.take_of_length_le (show (p.res).length≤k by omega)]
   refine Z6 ?_
   refine Zh (fun hlen=>?_)
   refine jq_cutS v trivial ?_ ?_
   ·exact Wx
   ·exact Ww
 intro vA _
 rw [nil_ba]
 have hY1:=catL_size (f:=resT) (fun x hx=>resT_size (hR x hx))
 refine am_ (jc_cut (ι:=Value) [] (fun _=>True) (fun v=>(5,.cell (.val v)) :: [(1,.cell (.val (.pointer (some ⟨bx,0,none⟩))))]) (fun v=>[Bw v (catL resT p.res ++ catL shT (p.shared)),.blk bx 31 p.row]) ?_ ?_)
 ·refine R_ (E_ O (T_ (au_ (jc_loopS (ι:=Nat × Value) [] (fun i=>i.1≤(p.shared).length) (fun i=>(7,In .i64 (i.1:Int)) :: (5,.cell (.val i.2)) :: [(1,.cell (.val (.pointer (some ⟨bx,0,none⟩))))]) (fun i=>[Bw i.2 (catL resT p.res ++ catL shT ((p.shared).take i.1)),.blk bx 31 p.row]) (fun i=>(p.shared).length - i.1) (0,vA) (Nat.zero_le _) ?_ ?_ ?_))))
  ·rw [show catL resT p.res ++ catL shT ((p.shared).take 0)=catL resT p.res by rw [List.take_zero,catL,ba_nil]]
   exact Wx
  ·exact Ww
  rintro ⟨k,v⟩ hk
  dsimp only at hk ⊢
  have eL:((p.shared).map ShRow).length=(p.shared).length:=List.length_map _
  by_cases hlt:k < (p.shared).length
  ·have hlt2:(k:Int) < (((p.shared).map ShRow).length:Int):=by omega
   have hsz:=catL_takeS (f:=shT) (l:=p.shared) (fun x hx=>shT_size (hSh x hx)) k
   have hnx:=catL_take shT (catL resT p.res) hlt
   have hfs:=shT_size (hSh _ (List.getElem_mem hlt))
   have hYs:(catL resT p.res ++ catL shT ((p.shared).take k)).size≤200000+200000:=by rw [ByteArray.size_append]; omega
   generalize catL resT p.res ++ catL shT ((p.shared).take k)=Z at hYs hnx ⊢
   have gk:=shT_ok (hSh _ (List.getElem_mem hlt))
   obtain ⟨g0,g1,g2⟩:=gk
   have:=name_size g0
   have:=g1.size
   have:=name_size g2
   refine Z6 ?_
   refine Zb (fun hlen=>?_)
   refine R_ (F_ O (L_ 1 O (M_ O ?_)))
   refine Zm (fun bl=>?_)
   refine jc_anyB 16 none O k_ k_ (yM_ O (yF_ O (yF_ O (yL_ 0 O (aa_ (fun c=>ow_strcat rfl O (by simp only [ba_lit,List.length_cons,List.length_nil];omega) p_) ?_)))))
   refine YJ ?_
   refine yF_ O (yL_ 0 O (aa_ (fun c=>bm_ O (rnumF_c g1) p_) (aa_ (fun c=>ow_strcat rfl O (by simp only [ByteArray.size_append,ba_lit,List.length_cons,List.length_nil];omega) p_) ?_)))
   refine YJ ?_
   refine yL_ 0 O (Zf ?_)
   refine ae_ ?_
   refine afin_none (o_ O (ow_appendS 1 O O O O O O O O (by show _+(shT (p.shared)[k]).size≤_;omega) (fun v1 _=>E_ O (ak_ (Zk ?_)))))
   refine jq_againS (i:=(k,v)) (k+1,v1) hlt (by dsimp only; omega) ?_ ?_
   ·dsimp only
    rw [hnx]
    exact bc_ 0 O (bc_ 1 O sub_end)
   ·exact Ww
  ·have hlt2:¬ (k:Int) < (((p.shared).map ShRow).length:Int):=by omega
   rw [List.take_of_length_le (show (p.shared).length≤k by omega)]
   refine Z6 ?_
   refine Zh (fun hlen=>?_)
   refine jq_cutS v trivial ?_ ?_
   ·exact Wx
   ·exact Ww
 intro vB _
 have hY2:(catL resT p.res ++ catL shT p.shared).size≤400000:=by
  have:=catL_size (f:=shT) (fun x hx=>shT_size (hSh x hx))
  rw [ByteArray.size_append]; omega
 generalize hX2:catL resT p.res ++ catL shT p.shared=X2 at hY2 ⊢
 have hdk:∀ t ∈ p.tasks,dpF 8 t.body=false:=fun t ht=>by simpa using List.any_eq_false.1 hdeep t ht
 have htz:∀ t ∈ p.tasks,(tkT t).size≤60002000000:=fun t ht=>tkT_size (hTk t ht) (hdk t ht) (hz.tasks t ht)
 refine am_ (jc_cut (ι:=Value) [] (fun _=>True) (fun v=>(5,.cell (.val v)) :: [(1,.cell (.val (.pointer (some ⟨bx,0,none⟩))))]) (fun v=>[Bw v (X2 ++ catL tkT p.tasks),.blk bx 31 p.row]) ?_ ?_)
 ·refine R_ (E_ O (T_ (au_ (jc_loopS (ι:=Nat × Value) [] (fun i=>i.1≤p.tasks.length) (fun i=>(9,In .i64 (i.1:Int)) :: (5,.cell (.val i.2)) :: [(1,.cell (.val (.pointer (some ⟨bx,0,none⟩))))]) (fun i=>[Bw i.2 (X2 ++ catL tkT (p.tasks.take i.1)),.blk bx 31 p.row]) (fun i=>p.tasks.length - i.1) (0,vB) (Nat.zero_le _) ?_ ?_ ?_))))
  ·rw [show X2 ++ catL tkT (p.tasks.take 0)=X2 by rw [List.take_zero,catL,ba_nil]]
   exact Wx
  ·exact Ww
  rintro ⟨kt,v⟩ hkt
  dsimp only at hkt ⊢
  by_cases hltt:kt < p.tasks.length
  ·have hlt2:(kt:Int) < ((p.tasks.map Tk.row).length:Int):=by omega
   have hsz:=catL_takeS (f:=tkT) (l:=p.tasks) htz kt
   have hnx:=catL_take tkT X2 hltt
   have hmt:=List.getElem_mem hltt
   have htk:=htz _ hmt
   have hYs:(X2 ++ catL tkT (p.tasks.take kt)).size≤60002000400000:=by
    have:p.tasks.length * 60002000000≤1000 * 60002000000:=Nat.mul_le_mul_right _ zl
    rw [ByteArray.size_append]; omega
   generalize X2 ++ catL tkT (p.tasks.take kt)=Z0 at hYs hnx ⊢
   obtain ⟨h0,hb,h1,h2,h3,h4,h5⟩:=hd_of (hTk _ hmt)
   have tz:=hz.tasks _ hmt
   have zi:=tz.inputs
   have zv:=tz.vars
   have za:=tz.arrays
   have zm:=tz.modes
   have zc:=tz.claims
   have zb:=tz.body
   have hdt:=hdk _ hmt
   refine Z6 ?_
   refine Zb (fun hlen=>?_)
   refine R_ (F_ O (L_ 1 O (M_ O ?_)))
   refine Zm (fun bl=>?_)
   generalize p.tasks[kt]=t at *
   have gk:=tk1_ok h0
   obtain ⟨g0,g1,g2,g3,g4⟩:=gk
   have:=name_size g0
   have:=g1.size
   have:=g2.size
   have:=g3.size
   have:=g4.size
   have hts:=tk1_size h0
   refine am_ (jc_anyB 25 none O k_ k_ (yM_ O (yF_ O (yL_ 0 O (Zw ?_)))))
   refine yF_ O (yL_ 0 O (aa_ (fun c=>bm_ O (rnumF_c g1) p_) ?_))
   refine Zf ?_
   refine yF_ O (yL_ 0 O (aa_ (fun c=>bm_ O (rnumF_c g2) p_) ?_))
   refine Zf ?_
   refine yF_ O (yL_ 0 O (aa_ (fun c=>bm_ O (rnumF_c g3) p_) ?_))
   refine Zf ?_
   refine yF_ O (yL_ 0 O (aa_ (fun c=>bm_ O (rnumF_c g4) p_) ?_))
   refine Zf ?_
   refine ae_ (afin_none (o_ O (ow_appendS 1 O O O O O O O O (by show _+(tkHd t).size≤_;omega) (fun v1 _=>E_ O (T_ (am_ ?_))))))
   rw [show (((((((((((⟨#[116,97,115,107,32]⟩:ByteArray) ++ t.name) ++ (⟨#[32,112,101,114,105,111,100,32]⟩:ByteArray)) ++ numS t.period) ++ (⟨#[32,100,101,97,100,108,105,110,101,32]⟩:ByteArray)) ++ numS t.deadline) ++ (⟨#[32,112,114,105,111,114,105,116,121,32]⟩:ByteArray)) ++ numS t.priority) ++ (⟨#[32,106,105,116,116,101,114,32]⟩:ByteArray)) ++ numS t.jitter) ++ (⟨#[10]⟩:ByteArray))=tkHd t from rfl]
   generalize hE0:Z0 ++ tkHd t=Y0 at *
   have hY0:Y0.size≤60002000400200:=by rw [← hE0,ByteArray.size_append]; omega
   refine jc_cut (ι:=Value) [] (fun _=>True) (fun v=>(5,.cell (.val v)) :: [(1,.cell (.val (.pointer (some ⟨bx,0,none⟩)))),(9,In .i64 (kt:Int)),(10,.cell (.val (.pointer (some ⟨bl,0,none⟩))))]) (fun v=>[Bw v (Y0 ++ catL inT (t.inputs)),.blk bl 39 t.row,.blk bx 31 p.row]) ?_ ?_
   ·refine R_ (E_ O (T_ (au_ ?_)))
    refine jc_loopS (ι:=Nat × Value) [] (fun i=>i.1≤(t.inputs).length) (fun i=>(11,In .i64 (i.1:Int)) :: (5,.cell (.val i.2)) :: [(1,.cell (.val (.pointer (some ⟨bx,0,none⟩)))),(9,In .i64 (kt:Int)),(10,.cell (.val (.pointer (some ⟨bl,0,none⟩))))]) (fun i=>[Bw i.2 (Y0 ++ catL inT ((t.inputs).take i.1)),.blk bl 39 t.row,.blk bx 31 p.row]) (fun i=>(t.inputs).length - i.1) (0,v1) (Nat.zero_le _) ?_ ?_ ?_
    ·rw [show Y0 ++ catL inT ((t.inputs).take 0)=Y0 by rw [List.take_zero,catL,ba_nil]]
     exact WG
    ·exact Ww
    rintro ⟨k,v⟩ hk
    dsimp only at hk ⊢
    have eL:((t.inputs).map InRow).length=(t.inputs).length:=List.length_map _
    by_cases hlt:k < (t.inputs).length
    ·have hlt2:(k:Int) < (((t.inputs).map InRow).length:Int):=by omega
     have hsz:=catL_takeS (f:=inT) (l:=t.inputs) (fun x hx=>inT_size (h1 x hx)) k
     have hnx:=catL_take inT (Y0) hlt
     have hfs:=inT_size (h1 _ (List.getElem_mem hlt))
     have hYs:(Y0 ++ catL inT ((t.inputs).take k)).size≤60002000400200+200000:=by rw [ByteArray.size_append]; omega
     generalize Y0 ++ catL inT ((t.inputs).take k)=Z at hYs hnx ⊢
     have gk:=inT_ok (h1 _ (List.getElem_mem hlt))
     obtain ⟨g0,g1,g2⟩:=gk
     have:=name_size g0
     have:=numS_size _ g1.1 g1.2
     have:=numS_size _ g2.1 g2.2
     refine Z6 ?_
     refine Zb (fun hlen=>?_)
     refine jc_anyB 27 none O k_ k_ (yM_ O (yF_ O (yL_ 1 O ?_)))
     refine Zi ?_
     refine Zw ?_
     refine yF_ O (yL_ 1 O (yM_ O ?_))
     refine aa_ (fun c=>cc_ O O g_ O O b_ p_) (YM ?_)
     refine aa_ (fun c=>bm_ O (refNumber_c _ g1) p_) (Zf ?_)
     refine yF_ O (yL_ 1 O (Zi ?_))
     refine aa_ (fun c=>bm_ O (refNumber_c _ g2) p_) (aa_ (fun c=>ow_strcat rfl O (by simp only [ByteArray.size_append,ba_lit,List.length_cons,List.length_nil];omega) p_) ?_)
     refine Yc ?_
     refine o_ O (ow_appendS 0 O O O O O O O O (by show _+(inT (t.inputs)[k]).size≤_;omega) (fun v1 _=>E_ O (ak_ (Zk ?_))))
     refine jq_againS (i:=(k,v)) (k+1,v1) hlt (by dsimp only; omega) ?_ ?_
     ·dsimp only
      rw [hnx]
      exact WG
     ·exact Ww
    ·have hlt2:¬ (k:Int) < (((t.inputs).map InRow).length:Int):=by omega
     rw [List.take_of_length_le (show (t.inputs).length≤k by omega)]
     refine Z6 ?_
     refine Zh (fun hlen=>?_)
     refine jq_cutS v trivial ?_ ?_
     ·exact WG
     ·exact Ww
   intro vN0 _
   have hS0:=catL_size (f:=inT) (l:=t.inputs) (fun x hx=>inT_size (h1 x hx))
   generalize hE1:Y0 ++ catL inT (t.inputs)=Y1 at *
   have hY1:Y1.size≤60002000600200:=by rw [← hE1,ByteArray.size_append]; omega
   clear hS0 hY0
   refine am_ (jc_cut (ι:=Value) [] (fun _=>True) (fun v=>(5,.cell (.val v)) :: [(1,.cell (.val (.pointer (some ⟨bx,0,none⟩)))),(9,In .i64 (kt:Int)),(10,.cell (.val (.pointer (some ⟨bl,0,none⟩))))]) (fun v=>[Bw v (Y1 ++ catL vaT (t.vars)),.blk bl 39 t.row,.blk bx 31 p.row]) ?_ ?_)
   ·refine R_ (E_ O (T_ (au_ ?_)))
    refine jc_loopS (ι:=Nat × Value) [] (fun i=>i.1≤(t.vars).length) (fun i=>(12,In .i64 (i.1:Int)) :: (5,.cell (.val i.2)) :: [(1,.cell (.val (.pointer (some ⟨bx,0,none⟩)))),(9,In .i64 (kt:Int)),(10,.cell (.val (.pointer (some ⟨bl,0,none⟩))))]) (fun i=>[Bw i.2 (Y1 ++ catL vaT ((t.vars).take i.1)),.blk bl 39 t.row,.blk bx 31 p.row]) (fun i=>(t.vars).length - i.1) (0,vN0) (Nat.zero_le _) ?_ ?_ ?_
    ·rw [show Y1 ++ catL vaT ((t.vars).take 0)=Y1 by rw [List.take_zero,catL,ba_nil]]
     exact WG
    ·exact Ww
    rintro ⟨k,v⟩ hk
    dsimp only at hk ⊢
    have eL:((t.vars).map Wrow).length=(t.vars).length:=List.length_map _
    by_cases hlt:k < (t.vars).length
    ·have hlt2:(k:Int) < (((t.vars).map Wrow).length:Int):=by omega
     have hsz:=catL_takeS (f:=vaT) (l:=t.vars) (fun x hx=>vaT_size (h2 x hx)) k
     have hnx:=catL_take vaT (Y1) hlt
     have hfs:=vaT_size (h2 _ (List.getElem_mem hlt))
     have hYs:(Y1 ++ catL vaT ((t.vars).take k)).size≤60002000600200+200000:=by rw [ByteArray.size_append]; omega
     generalize Y1 ++ catL vaT ((t.vars).take k)=Z at hYs hnx ⊢
     have gk:=vaT_ok (h2 _ (List.getElem_mem hlt))
     have g0:=gk
     have:=name_size g0
     refine Z6 ?_
     refine Zb (fun hlen=>?_)
     refine an_ (M_ O (F_ O (L_ 1 O ?_)))
     refine M_ O (ZI ?_)
     refine cb_ O O (Yl ?_)
     refine Wk ?_
     refine o_ O (ow_appendS 0 O O O O O O O O (by show _+(vaT (t.vars)[k]).size≤_;omega) (fun v1 _=>?_))
     refine E_ O (ak_ (Zk ?_))
     refine jq_againS (i:=(k,v)) (k+1,v1) hlt (by dsimp only; omega) ?_ ?_
     ·dsimp only
      rw [hnx]
      exact WG
     ·exact Ww
    ·have hlt2:¬ (k:Int) < (((t.vars).map Wrow).length:Int):=by omega
     rw [List.take_of_length_le (show (t.vars).length≤k by omega)]
     refine Z6 ?_
     refine Zh (fun hlen=>?_)
     refine jq_cutS v trivial ?_ ?_
     ·exact WG
     ·exact Ww
   intro vN1 _
   have hS1:=catL_size (f:=vaT) (l:=t.vars) (fun x hx=>vaT_size (h2 x hx))
   generalize hE2:Y1 ++ catL vaT (t.vars)=Y2 at *
   have hY2:Y2.size≤60002000800200:=by rw [← hE2,ByteArray.size_append]; omega
   clear hS1 hY1
   refine am_ (jc_cut (ι:=Value) [] (fun _=>True) (fun v=>(5,.cell (.val v)) :: [(1,.cell (.val (.pointer (some ⟨bx,0,none⟩)))),(9,In .i64 (kt:Int)),(10,.cell (.val (.pointer (some ⟨bl,0,none⟩))))]) (fun v=>[Bw v (Y2 ++ catL arT (t.arrays)),.blk bl 39 t.row,.blk bx 31 p.row]) ?_ ?_)
   ·refine R_ (E_ O (T_ (au_ ?_)))
    refine jc_loopS (ι:=Nat × Value) [] (fun i=>i.1≤(t.arrays).length) (fun i=>(13,In .i64 (i.1:Int)) :: (5,.cell (.val i.2)) :: [(1,.cell (.val (.pointer (some ⟨bx,0,none⟩)))),(9,In .i64 (kt:Int)),(10,.cell (.val (.pointer (some ⟨bl,0,none⟩))))]) (fun i=>[Bw i.2 (Y2 ++ catL arT ((t.arrays).take i.1)),.blk bl 39 t.row,.blk bx 31 p.row]) (fun i=>(t.arrays).length - i.1) (0,vN1) (Nat.zero_le _) ?_ ?_ ?_
    ·rw [show Y2 ++ catL arT ((t.arrays).take 0)=Y2 by rw [List.take_zero,catL,ba_nil]]
     exact WG
    ·exact Ww
    rintro ⟨k,v⟩ hk
    dsimp only at hk ⊢
    have eL:((t.arrays).map ArRow).length=(t.arrays).length:=List.length_map _
    by_cases hlt:k < (t.arrays).length
    ·have hlt2:(k:Int) < (((t.arrays).map ArRow).length:Int):=by omega
     have hsz:=catL_takeS (f:=arT) (l:=t.arrays) (fun x hx=>arT_size (h3 x hx)) k
     have hnx:=catL_take arT (Y2) hlt
     have hfs:=arT_size (h3 _ (List.getElem_mem hlt))
     have hYs:(Y2 ++ catL arT ((t.arrays).take k)).size≤60002000800200+200000:=by rw [ByteArray.size_append]; omega
     generalize Y2 ++ catL arT ((t.arrays).take k)=Z at hYs hnx ⊢
     have gk:=arT_ok (h3 _ (List.getElem_mem hlt))
     obtain ⟨g0,g1⟩:=gk
     have:=name_size g0
     have:=g1.size
     refine Z6 ?_
     refine Zb (fun hlen=>?_)
     refine jc_anyB 18 none O k_ k_ (yM_ O (yF_ O (yL_ 1 O ?_)))
     refine Zi ?_
     refine Zw ?_
     refine yF_ O (yL_ 1 O (yM_ O ?_))
     refine aa_ (fun c=>cc_ O O g_ O O b_ p_) (YM ?_)
     refine aa_ (fun c=>bm_ O (rnumF_c g1) p_) (Zf ?_)
     refine ae_ ?_
     refine afin_none (o_ O (ow_appendS 0 O O O O O O O O (by show _+(arT (t.arrays)[k]).size≤_;omega) (fun v1 _=>E_ O (ak_ (Zk ?_)))))
     refine jq_againS (i:=(k,v)) (k+1,v1) hlt (by dsimp only; omega) ?_ ?_
     ·dsimp only
      rw [hnx]
      exact WG
     ·exact Ww
    ·have hlt2:¬ (k:Int) < (((t.arrays).map ArRow).length:Int):=by omega
     rw [List.take_of_length_le (show (t.arrays).length≤k by omega)]
     refine Z6 ?_
     refine Zh (fun hlen=>?_)
     refine jq_cutS v trivial ?_ ?_
     ·exact WG
     ·exact Ww
   intro vN2 _
   have hS2:=catL_size (f:=arT) (l:=t.arrays) (fun x hx=>arT_size (h3 x hx))
   generalize hE3:Y2 ++ catL arT (t.arrays)=Y3 at *
   have hY3:Y3.size≤60002001000200:=by rw [← hE3,ByteArray.size_append]; omega
   clear hS2 hY2
   refine am_ (jc_cut (ι:=Value) [] (fun _=>True) (fun v=>(5,.cell (.val v)) :: [(1,.cell (.val (.pointer (some ⟨bx,0,none⟩)))),(9,In .i64 (kt:Int)),(10,.cell (.val (.pointer (some ⟨bl,0,none⟩))))]) (fun v=>[Bw v (Y3 ++ catL mdT (t.modes)),.blk bl 39 t.row,.blk bx 31 p.row]) ?_ ?_)
   ·refine R_ (E_ O (T_ (au_ ?_)))
    refine jc_loopS (ι:=Nat × Value) [] (fun i=>i.1≤(t.modes).length) (fun i=>(14,In .i64 (i.1:Int)) :: (5,.cell (.val i.2)) :: [(1,.cell (.val (.pointer (some ⟨bx,0,none⟩)))),(9,In .i64 (kt:Int)),(10,.cell (.val (.pointer (some ⟨bl,0,none⟩))))]) (fun i=>[Bw i.2 (Y3 ++ catL mdT ((t.modes).take i.1)),.blk bl 39 t.row,.blk bx 31 p.row]) (fun i=>(t.modes).length - i.1) (0,vN2) (Nat.zero_le _) ?_ ?_ ?_
    ·rw [show Y3 ++ catL mdT ((t.modes).take 0)=Y3 by rw [List.take_zero,catL,ba_nil]]
     exact WG
    ·exact Ww
    rintro ⟨k,v⟩ hk
    dsimp only at hk ⊢
    have eL:((t.modes).map MdRow).length=(t.modes).length:=List.length_map _
    by_cases hlt:k < (t.modes).length
    ·have hlt2:(k:Int) < (((t.modes).map MdRow).length:Int):=by omega
     have hsz:=catL_takeS (f:=mdT) (l:=t.modes) (fun x hx=>mdT_size (h4 x hx)) k
     have hnx:=catL_take mdT (Y3) hlt
     have hfs:=mdT_size (h4 _ (List.getElem_mem hlt))
     have hYs:(Y3 ++ catL mdT ((t.modes).take k)).size≤60002001000200+200000:=by rw [ByteArray.size_append]; omega
     generalize Y3 ++ catL mdT ((t.modes).take k)=Z at hYs hnx ⊢
     have gk:=mdT_ok (h4 _ (List.getElem_mem hlt))
     obtain ⟨g0,g1,g2,g3⟩:=gk
     have:=name_size g0
     have:=name_size g1
     have:=numS_size _ g2.1 g2.2
     have:=numS_size _ g3.1 g3.2
     refine Z6 ?_
     refine Zb (fun hlen=>?_)
     refine R_ (F_ O (L_ 1 O (M_ O ?_)))
     refine Zm (fun bl=>?_)
     refine jc_anyB 19 none O k_ k_ (yM_ O (yF_ O (yL_ 0 O (Zw ?_))))
     refine yF_ O (yL_ 0 O (Zf ?_))
     refine yF_ O (yL_ 0 O (aa_ (fun c=>bm_ O (refNumber_c _ g2) p_) ?_))
     refine Zf ?_
     refine yF_ O (yL_ 0 O (aa_ (fun c=>bm_ O (refNumber_c _ g3) p_) ?_))
     refine Zf ?_
     refine ae_ (afin_none (o_ O (ow_appendS 1 O O O O O O O O (by show _+(mdT (t.modes)[k]).size≤_;omega) (fun v1 _=>E_ O (ak_ (ay_ (al_ ?_)))))))
     refine an_ (YN ?_)
     refine jq_againS (i:=(k,v)) (k+1,v1) hlt (by dsimp only; omega) ?_ ?_
     ·dsimp only
      rw [hnx]
      exact bc_ 0 O (bc_ 1 O (bc_ 1 O sub_end))
     ·exact Ww
    ·have hlt2:¬ (k:Int) < (((t.modes).map MdRow).length:Int):=by omega
     rw [List.take_of_length_le (show (t.modes).length≤k by omega)]
     refine Z6 ?_
     refine Zh (fun hlen=>?_)
     refine jq_cutS v trivial ?_ ?_
     ·exact WG
     ·exact Ww
   intro vN3 _
   have hS3:=catL_size (f:=mdT) (l:=t.modes) (fun x hx=>mdT_size (h4 x hx))
   generalize hE4:Y3 ++ catL mdT (t.modes)=Y4 at *
   have hY4:Y4.size≤60002001200200:=by rw [← hE4,ByteArray.size_append]; omega
   clear hS3 hY3
   refine am_ (jc_cut (ι:=Value) [] (fun _=>True) (fun v=>(5,.cell (.val v)) :: [(1,.cell (.val (.pointer (some ⟨bx,0,none⟩)))),(9,In .i64 (kt:Int)),(10,.cell (.val (.pointer (some ⟨bl,0,none⟩))))]) (fun v=>[Bw v (Y4 ++ catL clT (t.claims)),.blk bl 39 t.row,.blk bx 31 p.row]) ?_ ?_)
   ·refine R_ (E_ O (T_ (au_ ?_)))
    refine jc_loopS (ι:=Nat × Value) [] (fun i=>i.1≤(t.claims).length) (fun i=>(16,In .i64 (i.1:Int)) :: (5,.cell (.val i.2)) :: [(1,.cell (.val (.pointer (some ⟨bx,0,none⟩)))),(9,In .i64 (kt:Int)),(10,.cell (.val (.pointer (some ⟨bl,0,none⟩))))]) (fun i=>[Bw i.2 (Y4 ++ catL clT ((t.claims).take i.1)),.blk bl 39 t.row,.blk bx 31 p.row]) (fun i=>(t.claims).length - i.1) (0,vN3) (Nat.zero_le _) ?_ ?_ ?_
    ·rw [show Y4 ++ catL clT ((t.claims).take 0)=Y4 by rw [List.take_zero,catL,ba_nil]]
     exact WG
    ·exact Ww
    rintro ⟨k,v⟩ hk
    dsimp only at hk ⊢
    have eL:((t.claims).map ClRow).length=(t.claims).length:=List.length_map _
    by_cases hlt:k < (t.claims).length
    ·have hlt2:(k:Int) < (((t.claims).map ClRow).length:Int):=by omega
     have hsz:=catL_takeS (f:=clT) (l:=t.claims) (fun x hx=>clT_size (h5 x hx)) k
     have hnx:=catL_take clT (Y4) hlt
     have hfs:=clT_size (h5 _ (List.getElem_mem hlt))
     have hYs:(Y4 ++ catL clT ((t.claims).take k)).size≤60002001200200+200000:=by rw [ByteArray.size_append]; omega
     generalize Y4 ++ catL clT ((t.claims).take k)=Z at hYs hnx ⊢
     have gk:=clT_ok (h5 _ (List.getElem_mem hlt))
     obtain ⟨g0,g1⟩:=gk
     have:=g0.size
     have:=g1.size
     refine Z6 ?_
     refine Zb (fun hlen=>?_)
     refine jc_anyB 19 none O k_ k_ (yM_ O (yF_ O (yL_ 1 O ?_)))
     refine Zi ?_
     refine aa_ (fun c=>bm_ O (rnumF_c g0) p_) (Zw ?_)
     refine yF_ O (yL_ 1 O (Zi ?_))
     refine aa_ (fun c=>bm_ O (rnumF_c g1) p_) (aa_ (fun c=>ow_strcat rfl O (by simp only [ByteArray.size_append,ba_lit,List.length_cons,List.length_nil];omega) p_) ?_)
     refine Yc ?_
     refine o_ O (ow_appendS 0 O O O O O O O O (by show _+(clT (t.claims)[k]).size≤_;omega) (fun v1 _=>E_ O (ak_ (Zk ?_))))
     refine jq_againS (i:=(k,v)) (k+1,v1) hlt (by dsimp only; omega) ?_ ?_
     ·dsimp only
      rw [hnx]
      exact WG
     ·exact Ww
    ·have hlt2:¬ (k:Int) < (((t.claims).map ClRow).length:Int):=by omega
     rw [List.take_of_length_le (show (t.claims).length≤k by omega)]
     refine Z6 ?_
     refine Zh (fun hlen=>?_)
     refine jq_cutS v trivial ?_ ?_
     ·exact WG
     ·exact Ww
   intro vN4 _
   have hS4:=catL_size (f:=clT) (l:=t.claims) (fun x hx=>clT_size (h5 x hx))
   generalize hE5:Y4 ++ catL clT (t.claims)=Y5 at *
   have hY5:Y5.size≤60002001400200:=by rw [← hE5,ByteArray.size_append]; omega
   clear hS4 hY4
   have hfine:=fine_of 8 20 t.body (by omega) hb hdt
   have hbs:=sts_size (sp:=Ksp) hfine (by show 2+2 * 8≤100; omega)
   have hX1:(Y5 ++ (⟨#[98,111,100,121,10]⟩:ByteArray)).size=Y5.size+5:=by rw [ByteArray.size_append]; rfl
   have con1:=fun v=>rbody_c 8 t.body Ksp (Y5 ++ (⟨#[98,111,100,121,10]⟩:ByteArray)) v hfine (by show 2+2 * 8≤100; omega) (by omega)
   have hX3:((Y5 ++ (⟨#[98,111,100,121,10]⟩:ByteArray)) ++ stsT Ksp t.body).size=(Y5 ++ (⟨#[98,111,100,121,10]⟩:ByteArray)).size+(stsT Ksp t.body).size:=ByteArray.size_append ..
   refine R_ (M_ O (o_ O (ow_appendS 0 O O O O O O O O (by simp only [ba_lit,List.length_cons,List.length_nil];omega) (fun v1 _=>E_ O (T_ (R_ (M_ O (F_ O (L_ 1 O (o_ O (bt_ [0] O O (con1 _) (fun pp hpp=>E_ O (T_ (an_ (M_ O (o_ O (ow_appendS 0 O O O O O O O O (by simp only [ba_lit,List.length_cons,List.length_nil];omega) (fun v1 _=>E_ O ?_))))))))))))))))))
   refine ak_ (Zk ?_)
   refine jq_againS (i:=(kt,v)) (kt+1,v1) hltt (by dsimp only; omega) ?_ ?_
   ·dsimp only
    rw [hnx,show Z0 ++ tkT t=((Y5 ++ (⟨#[98,111,100,121,10]⟩:ByteArray)) ++ stsT Ksp t.body) ++ (⟨#[101,110,100,10]⟩:ByteArray) by rw [← hE5,← hE4,← hE3,← hE2,← hE1,← hE0]; simp only [tkT,ByteArray.append_assoc]]
    exact bc_ 0 O (bc_ 1 O sub_end)
   ·exact Ww
  ·have hlt2:¬ (kt:Int) < ((p.tasks.map Tk.row).length:Int):=by omega
   rw [List.take_of_length_le (show p.tasks.length≤kt by omega)]
   refine Z6 ?_
   refine Zh (fun hlen=>?_)
   refine jq_cutS v trivial ?_ ?_
   ·exact Wx
   ·exact Ww
 intro vC _
 have hprog:X2 ++ catL tkT p.tasks=progT p:=by rw [← hX2]; rfl
 rw [hprog]
 have hPs:(progT p).size≤60002000400000:=by
  have h1:=catL_size (f:=tkT) htz
  have:p.tasks.length * 60002000000≤1000 * 60002000000:=Nat.mul_le_mul_right _ zl
  rw [← hprog,ByteArray.size_append]; omega
 have ePn:((bytesI (progT p)).map Brow).length=(progT p).size:=by rw [List.length_map,bytesI_len]
 have e0:progF p=if 8192 < (progT p).size then (⟨#[]⟩,4) else (progT p,0):=by unfold progF; rw [if_neg hokb,if_neg (by rw [hdeep]; simp)]
 by_cases hbig:8192 < (progT p).size
 ·have hbig2:(8192:Int) < (((bytesI (progT p)).map Brow).length:Int):=by omega
  rw [if_pos hbig] at e0
  refine am_ (R_ (M_ O (o_ O (cw_ 0 O O (fun hlen=>o_ O (bz_ O O (T_ (aq_ O u_ (R_ (E_ O (E_ O (T_ (ar_ (aw_ (jq_ret2 O O O [] O (fun K h=>by rw [e0] at h; exact h))))))))))))))))
 ·have hbig2:¬ (8192:Int) < (((bytesI (progT p)).map Brow).length:Int):=by omega
  rw [if_neg hbig] at e0
  refine am_ (R_ (M_ O (o_ O (cw_ 0 O O (fun hlen=>Ws ?_)))))
  refine al_ (R_ (M_ O (jl_freeze 264 0 O O (by rw [hc]; simp [hb]) (o_ O (ow_bytesToString O O O ?_)))))
  rw [bytesOf_bytesI]
  refine E_ O (E_ O (T_ (ar_ (jq_ret2 O O O [] O (fun K h=>by rw [e0] at h; exact h)))))
end Go.Proofs.YtalkkcfojplmdaaGreatDoor
end
section
namespace Go.Proofs.YtalkkcfojplmdaaGreatDoor
open Go.Vc
attribute [local irreducible] JL JC JQ OpWp Con ConN HOk
attribute [local irreducible] byteAt runLen isL isD isName hasW
set_option maxHeartbeats 4000000
theorem szs_step {l:List Sm} {k:Nat} (h:k < l.length):Sm.szs (l.take (k+1))=Sm.szs (l.take k)+(1+Sm.szs l[k].thn+Sm.szs l[k].els):=by
 rw [List.take_succ_eq_append_getElem h,Sm.szs_app,Sm.szs,Sm.sz_eq]
 rfl
theorem szs_step_le {l:List Sm} {k:Nat} (h:k < l.length):Sm.szs (l.take k)+(1+Sm.szs l[k].thn+Sm.szs l[k].els)≤Sm.szs l:=by
 rw [← szs_step h]
 exact Sm.szs_take _ _
theorem rnames_c (l:List Arr) (hl:l.length≤100000):Con Tryz.prog 167 [.cell (.list (l.map ArRow))] [] (fun K=>K (.cell (.list ((l.map (·.1)).map Wrow))) []):=by
 refine con_intro Tryz.func167 O O b_ (fun c hc=>R_ (E_ O (T_ (ZO ?_))))
 refine jc_ownNil 9 1 g_ ?_
 refine jc_loopS (ι:=Nat × Value × List _) [] (fun i=>i.1≤(l).length∧i.2.2=((l).take i.1).map (·.1)) (fun i=>(4,In .i64 (i.1:Int)) :: (3,.cell (.val i.2.1)) :: [(0,.cell (.list (l.map ArRow)))]) (fun i=>(.own i.2.1 9 1 (i.2.2.map Wrow)) :: []) (fun i=>(l).length - i.1) (0,.slice none 0 0,[]) ⟨Nat.zero_le _,rfl⟩ ?_ ?_ ?_
 ·exact Wy
 ·exact Ww
 rintro ⟨k,v,B⟩ hz
 dsimp only at hz ⊢
 obtain ⟨hk,hB⟩:=hz
 have eLk:((l).map ArRow).length=(l).length:=List.length_map _
 by_cases hltk:k < (l).length
 ·have hltk2:(k:Int) < (((l).map ArRow).length:Int):=by omega
  have hBl:=congrArg List.length hB
  simp only [List.length_map,List.length_take] at hBl
  refine Yu ?_
  refine Zb (fun hlen=>?_)
  refine an_ (M_ O (M_ O (M_ O (o_ O (cc_ O O g_ O O b_ ?_)))))
  refine o_ O (Yo ?_)
  refine bq_ O O b_ O O b_ (o_ O (ow_append1 0 ((·.1) (l)[k]) O O O O O O O (fun _=>O) (by show (_+_) * 16≤_; first | omega | (simp only [List.length_append]; omega)) (by first | omega | (simp only [List.length_append]; omega)) (fun v1 hv1=>E_ O (ak_ (Zk ?_)))))
  refine jq_againS (i:=(k,v,B)) (k+1,v1,B ++ [(·.1) (l)[k]]) ⟨hltk,by dsimp only; rw [hB,List.take_succ_eq_append_getElem hltk,List.map_append]; simp only [List.map_cons,List.map_nil]⟩ (by dsimp only; omega) ?_ ?_
  ·exact Wy
  ·exact Ww
 ·have hltk2:¬ (k:Int) < (((l).map ArRow).length:Int):=by omega
  rw [List.take_of_length_le (by omega)] at hB
  subst hB
  refine Yu ?_
  refine Zh (fun hlen=>?_)
  refine al_ (R_ (M_ O (E_ O ?_)))
  refine T_ (ar_ (jq_freeze 2 0 O O (by rw [hc]; simp [hb]) (jq_ret1 O O [] O (fun K h=>h))))
theorem rScalars_c (t:Tk) (h1:t.inputs.length≤1000) (h2:t.vars.length≤1000):Con Tryz.prog 83 [.row t.row] [] (fun K=>K (.cell (.list ((scaL t).map Wrow))) []):=by
 refine con_intro Tryz.func83 O O b_ (fun c hc=>Wv (fun bx=>?_))
 refine ZO ?_
 refine jc_ownNil 9 1 g_ ?_
 refine jc_loopS (ι:=Nat × Value × List _) [] (fun i=>i.1≤(t.inputs).length∧i.2.2=((t.inputs).take i.1).map (·.1)) (fun i=>(4,In .i64 (i.1:Int)) :: (3,.cell (.val i.2.1)) :: [(1,.cell (.val (.pointer (some ⟨bx,0,none⟩))))]) (fun i=>(.own i.2.1 9 1 (i.2.2.map Wrow)) :: [.blk bx 39 t.row]) (fun i=>(t.inputs).length - i.1) (0,.slice none 0 0,[]) ⟨Nat.zero_le _,rfl⟩ ?_ ?_ ?_
 ·exact Wx
 ·exact Ww
 rintro ⟨k,v,B⟩ hz
 dsimp only at hz ⊢
 obtain ⟨hk,hB⟩:=hz
 have eLk:((t.inputs).map InRow).length=(t.inputs).length:=List.length_map _
 by_cases hltk:k < (t.inputs).length
 ·have hltk2:(k:Int) < (((t.inputs).map InRow).length:Int):=by omega
  have hBl:=congrArg List.length hB
  simp only [List.length_map,List.length_take] at hBl
  refine Z6 ?_
  refine Zb (fun hlen=>?_)
  refine an_ (M_ O (F_ O (L_ 1 O ?_)))
  refine M_ O (ZI ?_)
  refine Yo ?_
  refine bq_ O O b_ O O b_ (o_ O (ow_append1 0 ((·.1) (t.inputs)[k]) O O O O O O O (fun _=>O) (by show (_+_) * 16≤_; first | omega | (simp only [List.length_append]; omega)) (by first | omega | (simp only [List.length_append]; omega)) (fun v1 hv1=>E_ O (ak_ (ay_ (al_ (an_ (M_ O ?_))))))))
  refine o_ O (bj_ O O g_ (E_ O (ak_ (jq_againS (i:=(k,v,B)) (k+1,v1,B ++ [(·.1) (t.inputs)[k]]) ⟨hltk,by dsimp only; rw [hB,List.take_succ_eq_append_getElem hltk,List.map_append]; simp only [List.map_cons,List.map_nil]⟩ (by dsimp only; omega) ?_ ?_))))
  ·exact Wx
  ·exact Ww
 ·have hltk2:¬ (k:Int) < (((t.inputs).map InRow).length:Int):=by omega
  rw [List.take_of_length_le (by omega)] at hB
  subst hB
  refine Z6 ?_
  refine Zh (fun hlen=>?_)
  refine al_ (R_ (M_ O ?_))
  refine F_ O (L_ 1 O ?_)
  have eV:(t.vars.map Wrow).length=t.vars.length:=List.length_map _
  have eB:(t.inputs.map (·.1)).length=t.inputs.length:=List.length_map _
  refine o_ O (ow_appendM 0 O O O O O O O (fun _=>O) (by show (_+_) * 16≤_; first | omega | (simp only [List.length_append]; omega)) (by first | omega | (simp only [List.length_append]; omega)) (fun v1 hv1=>E_ O (T_ (ar_ (jq_freeze 2 0 O O (by rw [hc]; simp [hb]) (jq_ret1 O O [] O (fun K h=>h)))))))
theorem rArrays_c (p:Pg) (t:Tk) (h1:t.arrays.length≤1000) (h2:p.shared.length≤1000):Con Tryz.prog 168 [.row p.row,.row t.row] [] (fun K=>K (.cell (.list ((t.arrays ++ p.shared.map (fun x=>(x.1,x.2.1))).map ArRow))) []):=by
 refine con_intro Tryz.func168 O O b_ (fun c hc=>?_)
 have eV:(t.arrays.map ArRow).length=t.arrays.length:=List.length_map _
 refine R_ (o_ O (ci_ O (fun bx=>o_ O (ci_ O (fun bx=>E_ O (T_ (R_ (o_ O (ow_buildSliceOwn (rows:=([]:List Arr).map ArRow) O O b_ O O b_ (fun v0 _ fv0=>F_ O (L_ 1 O (o_ O (ow_appendM 0 (f:=ArRow) (l1:=[]) (l2:=t.arrays) O O O O O O O (fun x=>O) (by show (0+_) * 24≤_;omega) (by show 0+_≤_;omega) (fun v1 _=>E_ O (T_ (am_ (R_ (E_ O ?_))))))))))))))))))
 refine T_ (au_ ?_)
 rename_i b0 x0 x1
 refine jc_loopS (ι:=Nat × Value × List _) [] (fun i=>i.1≤(p.shared).length∧i.2.2=t.arrays ++ ((p.shared).take i.1).map (fun x=>(x.1,x.2.1))) (fun i=>(6,In .i64 (i.1:Int)) :: (5,.cell (.val i.2.1)) :: [(2,.cell (.val (.pointer (some ⟨b0,0,none⟩)))),(3,.cell (.val (.pointer (some ⟨bx,0,none⟩))))]) (fun i=>(.own i.2.1 84 2 (i.2.2.map ArRow)) :: [.blk b0 31 p.row,.blk bx 39 t.row]) (fun i=>(p.shared).length - i.1) (0,v1,t.arrays) ⟨Nat.zero_le _,by simp⟩ ?_ ?_ ?_
 ·exact bc_ 0 O (bc_ 1 O (bc_ 0 O sub_end))
 ·exact Ww
 rintro ⟨k,v,B⟩ hz
 dsimp only at hz ⊢
 obtain ⟨hk,hB⟩:=hz
 have eLk:((p.shared).map ShRow).length=(p.shared).length:=List.length_map _
 by_cases hltk:k < (p.shared).length
 ·have hltk2:(k:Int) < (((p.shared).map ShRow).length:Int):=by omega
  have hBl:=congrArg List.length hB
  simp only [List.length_append,List.length_map,List.length_take] at hBl
  refine Z6 ?_
  refine Zb (fun hlen=>?_)
  refine an_ (M_ O (F_ O (L_ 1 O ?_)))
  refine M_ O (ZI ?_)
  refine cf_ O O O b_ O b_ (o_ O (cr_ O O O (YK ?_)))
  refine ow_append1 0 ((fun x=>(x.1,x.2.1)) (p.shared)[k]) O O O O O O O (fun _=>O) (by show (_+_) * 24≤_; first | omega | (simp only [List.length_append]; omega)) (by first | omega | (simp only [List.length_append]; omega)) (fun v1 hv1=>E_ O (ak_ (ay_ (al_ ?_))))
  refine an_ (YN ?_)
  refine jq_againS (i:=(k,v,B)) (k+1,v1,B ++ [(fun x=>(x.1,x.2.1)) (p.shared)[k]]) ⟨hltk,by dsimp only; rw [hB,List.take_succ_eq_append_getElem hltk,List.map_append]; simp only [List.append_assoc,List.map_cons,List.map_nil]⟩ (by dsimp only; omega) ?_ ?_
  ·exact WG
  ·exact Ww
 ·have hltk2:¬ (k:Int) < (((p.shared).map ShRow).length:Int):=by omega
  rw [List.take_of_length_le (by omega)] at hB
  subst hB
  refine Z6 ?_
  refine Zh (fun hlen=>?_)
  refine al_ (R_ (M_ O ?_))
  refine E_ O (T_ (ar_ (jq_freeze 4 0 O O (by rw [hc]; simp [hb]) (jq_ret1 O O [] O (fun K h=>h)))))
theorem rcount_c:∀ l:List Sm,Sm.szs l≤1000000→Con Tryz.prog 164 [.cell (.list (l.map Sm.row))] [] (fun K=>K (In .i64 (Sm.szs l:Int)) []):=by
 refine Sms.ind (fun l ih hz=>con_intro Tryz.func164 O O b_ (fun c hc=>R_ (E_ O (T_ (ZO ?_)))))
 refine jc_loopS (ι:=Nat) [] (fun k=>k≤(l).length) (fun k=>(4,In .i64 (k:Int)) :: [(0,.cell (.list (l.map Sm.row))),(3,In .i64 (Sm.szs (l.take k):Int))]) (fun k=>[]) (fun k=>(l).length - k) 0 (Nat.zero_le _) ?_ ?_ ?_
 ·exact sub_end
 ·rw [show (Sm.szs (l.take 0):Int)=0 by simp [Sm.szs]]
  exact Ww
 rintro k hk
 have eLk:((l).map Sm.row).length=(l).length:=List.length_map _
 by_cases hltk:k < (l).length
 ·have hltk2:(k:Int) < (((l).map Sm.row).length:Int):=by omega
  obtain ⟨i1,i2⟩:=ih l[k] (List.getElem_mem hltk)
  have q1:=szs_step hltk
  have q2:=szs_step_le hltk
  have c1:=i1 (by omega)
  have c2:=i2 (by omega)
  refine Yu ?_
  refine Zb (fun hlen=>?_)
  refine ao_ O O k_ k_ (yM_ O (aa_ (fun c=>bj_ O O g_ p_) (yM_ O (yM_ O ?_))))
  refine aa_ (fun c=>cc_ O O g_ (Sm.row_eq _) O b_ p_) (YM ?_)
  refine aa_ (fun c=>bm_ O (c1) p_) (aa_ (fun c=>bj_ O O g_ p_) (yM_ O (yM_ O (aa_ (fun c=>cc_ O O g_ (Sm.row_eq _) O b_ p_) (YM ?_)))))
  refine aa_ (fun c=>bm_ O (c2) p_) (aa_ (fun c=>bj_ O O g_ p_) (yE_ O (ae_ (ay_ ?_))))
  refine al_ (an_ (YN ?_))
  refine jq_againS (i:=k) (k+1) hltk g_ ?_ ?_
  ·exact sub_end
  ·rw [q1,show ((Sm.szs (l.take k)+(1+Sm.szs l[k].thn+Sm.szs l[k].els):Nat):Int)=(Sm.szs (l.take k):Int)+1+(Sm.szs l[k].thn:Int)+(Sm.szs l[k].els:Int) by omega]
   exact Ww
 ·have hltk2:¬ (k:Int) < (((l).map Sm.row).length:Int):=by omega
  rw [List.take_of_length_le (by omega)]
  refine Yu ?_
  refine Zh (fun hlen=>?_)
  refine al_ (R_ (M_ O (E_ O ?_)))
  refine T_ (ar_ (jq_ret1 O O [] O (fun K h=>h)))
def findF (l:List Tk) (nm:ByteArray):Nat × Bool:=match l.findIdx? (fun t=>decide (t.name=nm)) with | some i=>(i,true) | none=>(0,false)
theorem find_yes {l:List Tk} {nm:ByteArray} {k:Nat} (h:k < l.length) (h0:(l.take k).any (fun t=>decide (t.name=nm))=false) (h1:l[k].name=nm):findF l nm=(k,true):=by
 unfold findF
 rw [List.findIdx?_eq_some_iff_getElem.2 ⟨h,decide_eq_true h1,fun j hj=>by
  have:=List.any_eq_false.1 h0 l[j] (by rw [List.mem_take_iff_getElem]; exact ⟨j,by omega,rfl⟩)
  exact this⟩]
theorem rlimits_c (p:Pg) (hz:PgSz p):Con Tryz.prog 113 [.row p.row] [] (fun K=>K (Bl (limB p)) []):=by
 refine con_intro Tryz.func113 O O b_ (fun c hc=>?_)
 have eR:(p.res.map Wrow).length=p.res.length:=List.length_map _
 have eS:(p.shared.map ShRow).length=p.shared.length:=List.length_map _
 have eT:(p.tasks.map Tk.row).length=p.tasks.length:=List.length_map _
 refine ZD (fun bx=>?_)
 refine F_ O (L_ 0 O (o_ O (br_ O (fun hlen=>o_ O (bz_ O O (M_ O (jl_or 4 4 O O O O (nb O) ?_)))))))
 apply Exists.intro
 refine ⟨fun hb1=>?_,?_⟩
 refine Za ?_
 exact WH
 refine M_ O (jl_or 4 10 O O O O (nb O) ?_)
 apply Exists.intro
 refine ⟨fun hb1=>?_,?_⟩
 refine Za ?_
 exact br_ O (fun hlen=>ah_ O h_ b_ (bw_ O O (ak_ (jq_seg 4 O O O (List.Perm.refl _)))))
 refine M_ O (jl_or 4 16 O O O O (nb O) ?_)
 apply Exists.intro
 refine ⟨fun hb1=>?_,?_⟩
 refine Za ?_
 exact WH
 refine T_ (jc_cond O (fun hn=>?_) (fun hy=>?_))
 ·have hres:limB p=false:=by
   unfold limB
   simp only [Bool.or_eq_true,decide_eq_true_eq] at hn
   simp only [Bool.and_eq_false_iff,decide_eq_false_iff_not]
   omega
  refine R_ (E_ O (T_ (ar_ (aw_ (jq_ret1 O O [] O (fun K h=>by rw [hres] at h; exact h))))))
 ·have h0:limB p=p.tasks.all limT:=by
   unfold limB
   simp only [Bool.or_eq_false_iff,decide_eq_false_iff_not] at hy
   rw [decide_eq_true (by omega),decide_eq_true (by omega),decide_eq_true (by omega),decide_eq_true (by omega)]
   rfl
  clear hy
  refine as_ (al_ (am_ (R_ (E_ O (T_ (au_ (jc_loopS (ι:=Nat) [] (fun k=>k≤(p.tasks).length∧((p.tasks).take k).all (limT)=true) (fun k=>(3,In .i64 (k:Int)) :: [(1,.cell (.val (.pointer (some ⟨bx,0,none⟩))))]) (fun k=>[.blk bx 31 p.row]) (fun k=>(p.tasks).length - k) 0 ⟨Nat.zero_le _,rfl⟩ ?_ ?_ ?_)))))))
  ·exact Wy
  ·exact Ww
  rintro k ⟨hk,hI⟩
  have eLk:((p.tasks).map Tk.row).length=(p.tasks).length:=List.length_map _
  by_cases hltk:k < (p.tasks).length
  ·have hltk2:(k:Int) < (((p.tasks).map Tk.row).length:Int):=by omega
   have c1:=rcount_c (p.tasks[k]).body (hz.tasks _ (List.getElem_mem hltk)).body
   have z1:=(hz.tasks _ (List.getElem_mem hltk)).inputs
   have z2:=(hz.tasks _ (List.getElem_mem hltk)).vars
   have q1:((p.tasks[k]).inputs.map InRow).length=(p.tasks[k]).inputs.length:=List.length_map _
   have q2:((p.tasks[k]).vars.map Wrow).length=(p.tasks[k]).vars.length:=List.length_map _
   have q3:((p.tasks[k]).arrays.map ArRow).length=(p.tasks[k]).arrays.length:=List.length_map _
   have q4:((p.tasks[k]).modes.map MdRow).length=(p.tasks[k]).modes.length:=List.length_map _
   have q5:((p.tasks[k]).claims.map ClRow).length=(p.tasks[k]).claims.length:=List.length_map _
   refine ZB ?_
   refine Zb (fun hlen=>?_)
   refine Y6 ?_
   refine Zm (fun bl=>?_)
   refine Yh ?_
   refine br_ O (fun hlen=>o_ O (bz_ O O (M_ O (jl_or 8 4 O O O O (nb O) ?_))))
   apply Exists.intro
   refine ⟨fun hb1=>?_,?_⟩
   refine Za ?_
   refine br_ O (fun hlen=>Za ?_)
   exact br_ O (fun hlen=>ah_ O h_ b_ (bj_ O O g_ (ah_ O h_ b_ (bz_ O O (ak_ (jq_seg 8 O O O (List.Perm.refl _)))))))
   refine M_ O (jl_or 4 14 O O O O (nb O) ?_)
   apply Exists.intro
   refine ⟨fun hb1=>?_,?_⟩
   refine Za ?_
   exact WH
   refine M_ O (jl_or 4 20 O O O O (nb O) ?_)
   apply Exists.intro
   refine ⟨fun hb1=>?_,?_⟩
   refine Za ?_
   exact WH
   refine M_ O (jl_or 4 26 O O O O (nb O) ?_)
   apply Exists.intro
   refine ⟨fun hb1=>?_,?_⟩
   refine Za ?_
   exact WH
   refine M_ O (jl_or 4 32 O O O O (nb O) ?_)
   apply Exists.intro
   refine ⟨fun hb1=>?_,?_⟩
   refine Za ?_
   exact bm_ O (c1) (ah_ O h_ b_ (bz_ O O (ak_ (jq_seg 4 O O O (List.Perm.refl _)))))
   refine T_ (jc_cond O (fun hn=>?_) (fun hy=>?_))
   ·have hp:(limT) (p.tasks)[k]=false:=by
     unfold limT
     simp only [Bool.or_eq_true,decide_eq_true_eq] at hn
     simp only [Bool.and_eq_false_iff,decide_eq_false_iff_not]
     omega
    have hno:(p.tasks).all (limT)=false:=all_no hltk hp
    have hres:limB p=false:=by
     rw [h0]
     exact hno
    refine Zr ?_
    refine aw_ (jq_ret1 O O [] O (fun K h=>by rw [hres] at h; exact h))
   ·have hp:(limT) (p.tasks)[k]=true:=by
     unfold limT
     simp only [Bool.or_eq_false_iff,decide_eq_false_iff_not] at hy
     simp only [Bool.and_eq_true,decide_eq_true_eq]
     omega
    refine as_ (Zk ?_)
    refine jq_againS (i:=k) (k+1) ⟨hltk,all_snoc hltk hI hp⟩ g_ ?_ ?_
    ·exact WE
    ·exact Ww
  ·have hltk2:¬ (k:Int) < (((p.tasks).map Tk.row).length:Int):=by omega
   rw [List.take_of_length_le (by omega)] at hI
   have hres:limB p=true:=by rw [h0]; exact hI
   refine ZB ?_
   refine Zh (fun hlen=>?_)
   refine al_ (R_ (E_ O ?_))
   refine T_ (ar_ (jq_ret1 O O [] O (fun K h=>by rw [hres] at h; exact h)))
end Go.Proofs.YtalkkcfojplmdaaGreatDoor
end
section
namespace Go.Proofs.YtalkkcfojplmdaaGreatDoor
open Go.Vc
attribute [local irreducible] JL JC JQ OpWp Con ConN HOk
attribute [local irreducible] byteAt runLen isL isD isName hasW
set_option maxHeartbeats 4000000
structure PgOk (p:Pg):Prop where
 sz:PgSz p
 ls:∀ t ∈ p.tasks,Sm.lnss t.body
theorem arr_names (p:Pg) (t:Tk):(t.arrays ++ p.shared.map (fun x=>(x.1,x.2.1))).map (·.1)=arrL p.shared t:=by
 simp [arrL,List.map_map,Function.comp_def]
theorem rnamed_c (p:Pg) (hp:PgOk p):Con Tryz.prog 114 [.row p.row] [] (fun K=>K (Bl (namB p)) []):=by
 refine con_intro Tryz.func114 O O b_ (fun c hc=>Wv (fun bx=>?_))
 refine ZO ?_
 have hsz:=hp.sz.shared
 have hsl:=hp.sz.len
 refine jc_ownNil 9 1 g_ (jc_loopS (ι:=Nat × Value × List _) [] (fun i=>i.1≤(p.tasks).length∧i.2.2=((p.tasks).take i.1).map (·.name)) (fun i=>(4,In .i64 (i.1:Int)) :: (3,.cell (.val i.2.1)) :: [(1,.cell (.val (.pointer (some ⟨bx,0,none⟩))))]) (fun i=>(.own i.2.1 9 1 (i.2.2.map Wrow)) :: [.blk bx 31 p.row]) (fun i=>(p.tasks).length - i.1) (0,.slice none 0 0,[]) ⟨Nat.zero_le _,rfl⟩ ?_ ?_ ?_)
 ·exact Wx
 ·exact Ww
 rintro ⟨q,v,B⟩ hz
 dsimp only at hz ⊢
 obtain ⟨hq,hB⟩:=hz
 have eLq:((p.tasks).map Tk.row).length=(p.tasks).length:=List.length_map _
 by_cases hltq:q < (p.tasks).length
 ·have hltq2:(q:Int) < (((p.tasks).map Tk.row).length:Int):=by omega
  have hBl:=congrArg List.length hB
  simp only [List.length_map,List.length_take] at hBl
  refine Z6 ?_
  refine Zb (fun hlen=>?_)
  refine an_ (M_ O (F_ O (L_ 1 O ?_)))
  refine M_ O (ZI ?_)
  refine Yo ?_
  refine bq_ O O b_ O O b_ (o_ O (ow_append1 0 ((·.name) (p.tasks)[q]) O O O O O O O (fun _=>O) (by show (_+_) * 16≤_; first | omega | (simp only [List.length_append]; omega)) (by first | omega | (simp only [List.length_append]; omega)) (fun v1 hv1=>E_ O (ak_ (ay_ (al_ (an_ (M_ O ?_))))))))
  refine o_ O (bj_ O O g_ (E_ O (ak_ (jq_againS (i:=(q,v,B)) (q+1,v1,B ++ [(·.name) (p.tasks)[q]]) ⟨hltq,by dsimp only; rw [hB,List.take_succ_eq_append_getElem hltq,List.map_append]; simp only [List.map_cons,List.map_nil]⟩ (by dsimp only; omega) ?_ ?_))))
  ·exact Wx
  ·exact Ww
 ·have hltq2:¬ (q:Int) < (((p.tasks).map Tk.row).length:Int):=by omega
  rw [List.take_of_length_le (by omega)] at hB
  subst hB
  refine Z6 ?_
  refine Zh (fun hlen=>?_)
  refine al_ (am_ (am_ ?_))
  refine jc_freeze 3 0 O O (by rw [hc]; simp [hb]) (an_ (F_ O (L_ 0 O (o_ O (bm_ O (rtwice_c _) (M_ O (jl_or 2 3 O O O O (nb O) ?_)))))))
  apply Exists.intro
  refine ⟨fun hb1=>?_,?_⟩
  refine Z8 ?_
  exact bm_ O (rtwice_c _) (ak_ (jq_seg 2 O O O (List.Perm.refl _)))
  refine T_ (jc_cond O (fun hn=>?_) (fun hy=>?_))
  ·have hres:namB p=false:=by
    unfold namB
    cases hd1:dupB p.res
    ·rw [hd1,Bool.false_or] at hn
     rw [hn]; rfl
    ·rfl
   refine R_ (E_ O (T_ (ar_ (aw_ (jq_ret1 O O [] O (fun K h=>by rw [hres] at h; exact h))))))
  ·obtain ⟨hd1,hd2⟩:=Bool.or_eq_false_iff.1 hy
   refine as_ (al_ (am_ (R_ (E_ O (T_ (au_ ?_))))))
   clear hltq hltq2 hq hy
   refine jc_loopS (ι:=Nat) [] (fun j=>j≤(p.shared).length∧((p.shared).take j).all (fun s=>hasB p.res s.2.2)=true) (fun j=>(5,In .i64 (j:Int)) :: [(1,.cell (.val (.pointer (some ⟨bx,0,none⟩))))]) (fun j=>[.blk bx 31 p.row]) (fun j=>(p.shared).length - j) 0 ⟨Nat.zero_le _,rfl⟩ ?_ ?_ ?_
   ·exact Wy
   ·exact Ww
   rintro j ⟨hj,hI⟩
   have eLj:((p.shared).map ShRow).length=(p.shared).length:=List.length_map _
   by_cases hltj:j < (p.shared).length
   ·have hltj2:(j:Int) < (((p.shared).map ShRow).length:Int):=by omega
    refine ZB ?_
    refine Zb (fun hlen=>?_)
    refine am_ (ao_ O O k_ k_ (yF_ O (yL_ 0 O ?_)))
    refine yF_ O (yL_ 0 O (Zi ?_))
    refine aa_ (fun c=>bm_ O (rhas_c _ _) p_) (aa_ (fun c=>cd_ O p_) (ae_ (al_ (jc_cond O (fun hn=>?_) (fun hy=>?_)))))
    ·have hp:(fun s=>hasB p.res s.2.2) (p.shared)[j]=false:=by
      simpa using hn
     have hno:(p.shared).all (fun s=>hasB p.res s.2.2)=false:=all_no hltj hp
     have hres:namB p=false:=by
      unfold namB
      rw [hno,Bool.and_false]; rfl
     refine Zr ?_
     refine aw_ (jq_ret1 O O [] O (fun K h=>by rw [hres] at h; exact h))
    ·have hp:(fun s=>hasB p.res s.2.2) (p.shared)[j]=true:=by
      simpa using hy
     refine as_ (Zk ?_)
     refine jq_againS (i:=j) (j+1) ⟨hltj,all_snoc hltj hI hp⟩ g_ ?_ ?_
     ·exact Wy
     ·exact Ww
   ·have hltj2:¬ (j:Int) < (((p.shared).map ShRow).length:Int):=by omega
    rw [List.take_of_length_le (by omega)] at hI
    have h0:namB p=p.tasks.all (namT p.res p.shared):=by unfold namB; rw [hd1,hd2,hI]; rfl
    refine ZB ?_
    refine Zh (fun hlen=>?_)
    refine al_ (am_ (R_ ?_))
    refine E_ O (T_ (au_ ?_))
    clear hI hltj hltj2 hj
    refine jc_loopS (ι:=Nat) [] (fun k=>k≤(p.tasks).length∧(p.tasks.take k).all (namT p.res p.shared)=true) (fun k=>(6,In .i64 (k:Int)) :: [(1,.cell (.val (.pointer (some ⟨bx,0,none⟩))))]) (fun k=>[.blk bx 31 p.row]) (fun k=>(p.tasks).length - k) 0 ⟨Nat.zero_le _,rfl⟩ ?_ ?_ ?_
    ·exact Wy
    ·exact Ww
    rintro k ⟨hk,hA⟩
    have eLk:((p.tasks).map Tk.row).length=(p.tasks).length:=List.length_map _
    by_cases hltk:k < (p.tasks).length
    ·have hltk2:(k:Int) < (((p.tasks).map Tk.row).length:Int):=by omega
     have zt:=hp.sz.tasks _ (List.getElem_mem hltk)
     have z1:=zt.inputs
     have z2:=zt.vars
     have z3:=zt.arrays
     have z4:=zt.modes
     have cS:=rScalars_c (p.tasks[k]) z1 z2
     have cA:=rArrays_c p (p.tasks[k]) z3 hp.sz.shared
     have cN:=rnames_c ((p.tasks[k]).arrays ++ p.shared.map (fun x=>(x.1,x.2.1))) (by have:=hp.sz.shared; rw [List.length_append,List.length_map]; omega)
     rw [arr_names] at cN
     refine ZB ?_
     refine Zb (fun hlen=>?_)
     refine Y6 ?_
     refine Zm (fun bl=>?_)
     refine am_ (ao_ O O k_ k_ (aa_ (fun c=>bs_ 0 O O O O p_) (aa_ (fun c=>bm_ O (cS) p_) (aa_ (fun c=>bs_ 1 O O O O p_) (aa_ (fun c=>bs_ 0 O O O O p_) (aa_ (fun c=>bm_ O (cA) p_) (aa_ (fun c=>bm_ O (cN) p_) (yE_ O (yE_ O (ae_ ?_))))))))))
     refine al_ (R_ (E_ O (E_ O (T_ (am_ (R_ (E_ O (T_ (au_ (jc_ownNil 9 1 g_ ?_))))))))))
     refine jc_loopS (ι:=Nat × Value × List _) [] (fun i=>i.1≤((p.tasks[k]).inputs).length∧i.2.2=(((p.tasks[k]).inputs).take i.1).map (·.1)) (fun i=>(12,In .i64 (i.1:Int)) :: (11,.cell (.val i.2.1)) :: [(8,.cell (.list ((scaL (p.tasks[k])).map Wrow))),(9,.cell (.list ((arrL p.shared (p.tasks[k])).map Wrow))),(10,.cell (.val (.slice none 0 0))),(7,.cell (.val (.pointer (some ⟨bl,0,none⟩)))),(6,In .i64 (k:Int)),(1,.cell (.val (.pointer (some ⟨bx,0,none⟩))))]) (fun i=>(.own i.2.1 9 1 (i.2.2.map Wrow)) :: [.blk bl 39 (p.tasks[k]).row,.blk bx 31 p.row]) (fun i=>((p.tasks[k]).inputs).length - i.1) (0,.slice none 0 0,[]) ⟨Nat.zero_le _,rfl⟩ ?_ ?_ ?_
     ·exact WG
     ·exact Ww
     rintro ⟨j,v,B⟩ hz
     dsimp only at hz ⊢
     obtain ⟨hj,hB⟩:=hz
     have eLj:(((p.tasks[k]).inputs).map InRow).length=((p.tasks[k]).inputs).length:=List.length_map _
     by_cases hltj:j < ((p.tasks[k]).inputs).length
     ·have hltj2:(j:Int) < ((((p.tasks[k]).inputs).map InRow).length:Int):=by omega
      have hBl:=congrArg List.length hB
      simp only [List.length_map,List.length_take] at hBl
      refine Z6 ?_
      refine Zb (fun hlen=>?_)
      refine an_ (M_ O (F_ O (L_ 1 O ?_)))
      refine M_ O (ZI ?_)
      refine Yo ?_
      refine bq_ O O b_ O O b_ (o_ O (ow_append1 0 ((·.1) ((p.tasks[k]).inputs)[j]) O O O O O O O (fun _=>O) (by show (_+_) * 16≤_; first | omega | (simp only [List.length_append]; omega)) (by first | omega | (simp only [List.length_append]; omega)) (fun v1 hv1=>E_ O (ak_ (ay_ (al_ (an_ ?_)))))))
      refine YN ?_
      refine jq_againS (i:=(j,v,B)) (j+1,v1,B ++ [(·.1) ((p.tasks[k]).inputs)[j]]) ⟨hltj,by dsimp only; rw [hB,List.take_succ_eq_append_getElem hltj,List.map_append]; simp only [List.map_cons,List.map_nil]⟩ (by dsimp only; omega) ?_ ?_
      ·exact WG
      ·exact Ww
     ·have hltj2:¬ (j:Int) < ((((p.tasks[k]).inputs).map InRow).length:Int):=by omega
      rw [List.take_of_length_le (by omega)] at hB
      subst hB
      refine Z6 ?_
      refine Zh (fun hlen=>?_)
      refine al_ (am_ (am_ ?_))
      refine jc_freeze 11 0 O O (by rw [hc]; simp [hb]) (an_ (E_ O (T_ (au_ (jc_ownNil 9 1 g_ ?_)))))
      refine jc_loopS (ι:=Nat × Value × List ByteArray) [] (fun i=>i.1≤((p.tasks[k]).modes).length∧i.2.2=((p.tasks[k]).modes.take i.1).map (·.1)∧((p.tasks[k]).modes.take i.1).all (fun m=>hasB ((p.tasks[k]).inputs.map (·.1)) m.2.1)=true) (fun i=>(13,In .i64 (i.1:Int)) :: (10,.cell (.val i.2.1)) :: [(8,.cell (.list ((scaL (p.tasks[k])).map Wrow))),(9,.cell (.list ((arrL p.shared (p.tasks[k])).map Wrow))),(11,.cell (.list (((p.tasks[k]).inputs.map (·.1)).map Wrow))),(7,.cell (.val (.pointer (some ⟨bl,0,none⟩)))),(6,In .i64 (k:Int)),(1,.cell (.val (.pointer (some ⟨bx,0,none⟩))))]) (fun i=>(.own i.2.1 9 1 (i.2.2.map Wrow)) :: [.blk bl 39 (p.tasks[k]).row,.blk bx 31 p.row]) (fun i=>((p.tasks[k]).modes).length - i.1) (0,.slice none 0 0,[]) ⟨Nat.zero_le _,⟨rfl,rfl⟩⟩ ?_ ?_ ?_
      ·exact WG
      ·exact Ww
      rintro ⟨m,v,B⟩ hz
      dsimp only at hz ⊢
      obtain ⟨hm,⟨hB,hI⟩⟩:=hz
      have eLm:(((p.tasks[k]).modes).map MdRow).length=((p.tasks[k]).modes).length:=List.length_map _
      by_cases hltm:m < ((p.tasks[k]).modes).length
      ·have hltm2:(m:Int) < ((((p.tasks[k]).modes).map MdRow).length:Int):=by omega
       have hBl:=congrArg List.length hB
       simp only [List.length_map,List.length_take] at hBl
       refine Z6 ?_
       refine Zb (fun hlen=>?_)
       refine R_ (M_ O (F_ O (L_ 1 O ?_)))
       refine M_ O (ZI ?_)
       refine Yo ?_
       refine bq_ O O b_ O O b_ (o_ O (ow_append1 0 (((p.tasks[k]).modes[m]).1) O O O O O O O (fun _=>O) (by show (_+_) * 16≤_; first | omega | (simp only [List.length_append]; omega)) (by first | omega | (simp only [List.length_append]; omega)) (fun v1 hv1=>?_)))
       cases h4:hasB ((p.tasks[k]).inputs.map (·.1)) ((p.tasks[k]).modes[m]).2.1 with
       | false =>
        have hH:=rhas_c ((p.tasks[k]).inputs.map (·.1)) ((p.tasks[k]).modes[m]).2.1
        rw [h4] at hH
        have hno:namT p.res p.shared (p.tasks[k])=false:=by
         have:(p.tasks[k]).modes.all (fun m=>hasB ((p.tasks[k]).inputs.map (·.1)) m.2.1)=false:=all_no hltm h4
         unfold namT
         rw [this]; rfl
        have hres:namB p=false:=by rw [h0]; exact all_no hltk hno
        refine E_ O (T_ (R_ (M_ O (F_ O (L_ 1 O (M_ O (ZI ?_)))))))
        refine Yo ?_
        refine bm_ O (hH) (o_ O (cd_ O (T_ (aq_ O O (R_ (E_ O ?_))))))
        refine T_ (ar_ (az_ (aw_ (aw_ (az_ (aw_ (az_ (aw_ (aw_ (az_ (aw_ (jq_ret1 O O [] O (fun K h=>by rw [hres] at h; exact h)))))))))))))
       | true =>
        have hH:=rhas_c ((p.tasks[k]).inputs.map (·.1)) ((p.tasks[k]).modes[m]).2.1
        rw [h4] at hH
        refine E_ O (T_ (R_ (M_ O (F_ O (L_ 1 O (M_ O (ZI ?_)))))))
        refine Yo ?_
        refine bm_ O (hH) (o_ O (cd_ O (T_ (ap_ O O (as_ (ay_ ?_))))))
        refine al_ (an_ (YN ?_))
        refine jq_againS (i:=(m,v,B)) (m+1,v1,B ++ [((p.tasks[k]).modes[m]).1]) ⟨hltm,by dsimp only; rw [hB,List.take_succ_eq_append_getElem hltm,List.map_append]; simp only [List.map_cons,List.map_nil],all_snoc hltm hI h4⟩ (by dsimp only; omega) ?_ ?_
        ·exact WG
        ·exact Ww
      ·have hltm2:¬ (m:Int) < ((((p.tasks[k]).modes).map MdRow).length:Int):=by omega
       rw [List.take_of_length_le (by omega)] at hB hI
       subst hB
       refine Z6 ?_
       refine Zh (fun hlen=>?_)
       refine al_ (am_ (jc_freeze 10 0 O O (by rw [hc]; simp [hb]) ?_))
       have cT1:=rtwice_c ((p.tasks[k]).modes.map (·.1))
       cases h5:dupB ((p.tasks[k]).modes.map (·.1)) with
       | true =>
        rw [h5] at cT1
        have hno:namT p.res p.shared (p.tasks[k])=false:=by unfold namT; rw [hI,h5]; rfl
        have hres:namB p=false:=by rw [h0]; exact all_no hltk hno
        refine an_ (M_ O (o_ O (bm_ O (cT1) (M_ O (Zd ?_)))))
        refine Z5 ?_
        refine M_ O (Zd ?_)
        refine Zd ?_
        refine Wc ?_
        refine Zr ?_
        refine aw_ ?_
        refine jq_ret1 O O [] O (fun K h=>by rw [hres] at h; exact h)
       | false =>
        rw [h5] at cT1
        have eS:((scaL (p.tasks[k])).map Wrow).length=(scaL (p.tasks[k])).length:=List.length_map _
        have eA:((arrL p.shared (p.tasks[k])).map Wrow).length=(arrL p.shared (p.tasks[k])).length:=List.length_map _
        have zS:(scaL (p.tasks[k])).length≤2000:=by unfold scaL; rw [List.length_append,List.length_map]; omega
        have zA:(arrL p.shared (p.tasks[k])).length≤2000:=by unfold arrL; rw [List.length_append,List.length_map,List.length_map]; omega
        refine an_ (M_ O (o_ O (bm_ O (cT1) (M_ O (ah_ O O b_ (ow_buildSliceOwn (rows:=([]:List ByteArray).map Wrow) O O b_ O O b_ (fun v0 _ fv0=>Zs ?_)))))))
        refine ow_appendM 0 (f:=Wrow) (l1:=[]) (l2:=scaL (p.tasks[k])) O O O O O O O (fun x=>O) (by show (0+_) * 16≤_;omega) (by show 0+_≤_;omega) (fun v1 _=>ah_ O O b_ (bd_ O ?_))
        refine ah_ O O b_ (ow_appendM 0 (f:=Wrow) (l1:=scaL (p.tasks[k])) (l2:=arrL p.shared (p.tasks[k])) O O O O O O O (fun x=>O) (by show (_+_) * 16≤_;omega) g_ (fun v2 _=>jl_freeze 120 0 O O (by rw [hc]; simp [hb]) ?_))
        have cT2:=rtwice_c (scaL (p.tasks[k]) ++ arrL p.shared (p.tasks[k]))
        cases h6:dupB (scaL (p.tasks[k]) ++ arrL p.shared (p.tasks[k])) with
        | true =>
         rw [h6] at cT2
         have hno:namT p.res p.shared (p.tasks[k])=false:=by unfold namT; rw [hI,h5,h6]; rfl
         have hres:namB p=false:=by rw [h0]; exact all_no hltk hno
         refine ah_ O O b_ (bm_ O (cT2) (o_ O (bv_ O O O (M_ O (Zd ?_)))))
         refine Zd ?_
         refine Wc ?_
         refine R_ (E_ O ?_)
         refine T_ (ar_ (az_ (aw_ (aw_ (az_ (aw_ (jq_ret1 O O [] O (fun K h=>by rw [hres] at h; exact h))))))))
        | false =>
         rw [h6] at cT2
         have cD:=rdeclared_c (scaL (p.tasks[k])) (arrL p.shared (p.tasks[k])) p.res (p.tasks[k]).body (hp.ls _ (List.getElem_mem hltk))
         cases h7:Sm.nmss (scaL (p.tasks[k])) (arrL p.shared (p.tasks[k])) p.res (p.tasks[k]).body with
         | false =>
          rw [h7] at cD
          have hno:namT p.res p.shared (p.tasks[k])=false:=by unfold namT; rw [hI,h5,h6,h7]; rfl
          have hres:namB p=false:=by rw [h0]; exact all_no hltk hno
          refine ah_ O O b_ (bm_ O (cT2) (o_ O (bv_ O O O (M_ O (Ze ?_)))))
          refine bd_ O (Zs ?_)
          refine bf_ O O O b_ (ah_ O O b_ (bg_ 1 O O O O (ah_ O O b_ (bm_ O (cD) (ZQ ?_)))))
          refine T_ (aq_ O O (R_ (E_ O ?_)))
          refine T_ (ar_ (az_ (aw_ (aw_ (az_ (aw_ (jq_ret1 O O [] O (fun K h=>by rw [hres] at h; exact h))))))))
         | true =>
          rw [h7] at cD
          have hyes:namT p.res p.shared (p.tasks[k])=true:=by unfold namT; rw [hI,h5,h6,h7]; rfl
          refine ah_ O O b_ (bm_ O (cT2) (o_ O (bv_ O O O (M_ O (Ze ?_)))))
          refine bd_ O (Zs ?_)
          refine bf_ O O O b_ (ah_ O O b_ (bg_ 1 O O O O (ah_ O O b_ (bm_ O (cD) (ZQ ?_)))))
          refine T_ (ap_ O O (as_ (ay_ ?_)))
          refine al_ (an_ (YN ?_))
          refine jq_againS (i:=k) (k+1) ⟨hltk,all_snoc hltk hA hyes⟩ g_ ?_ ?_
          ·exact WE
          ·exact Ww
    ·have hltk2:¬ (k:Int) < (((p.tasks).map Tk.row).length:Int):=by omega
     rw [List.take_of_length_le (by omega)] at hA
     have hres:namB p=true:=by rw [h0]; exact hA
     refine ZB ?_
     refine Zh (fun hlen=>?_)
     refine al_ (R_ (E_ O ?_))
     refine T_ (ar_ (jq_ret1 O O [] O (fun K h=>by rw [hres] at h; exact h)))
theorem rwithin_c (p:Pg) (hp:PgOk p):Con Tryz.prog 115 [.row p.row] [] (fun K=>K (Bl (ranB p)) []):=by
 refine con_intro Tryz.func115 O O b_ (fun c hc=>ZD (fun bx=>?_))
 refine E_ O (T_ (au_ ?_))
 refine jc_loopS (ι:=Nat) [] (fun j=>j≤(p.shared).length∧((p.shared).take j).all (fun s=>sizeB s.2.1)=true) (fun j=>(3,In .i64 (j:Int)) :: [(1,.cell (.val (.pointer (some ⟨bx,0,none⟩))))]) (fun j=>[.blk bx 31 p.row]) (fun j=>(p.shared).length - j) 0 ⟨Nat.zero_le _,rfl⟩ ?_ ?_ ?_
 ·exact Wy
 ·exact Ww
 rintro j ⟨hj,hI⟩
 have eLj:((p.shared).map ShRow).length=(p.shared).length:=List.length_map _
 by_cases hltj:j < (p.shared).length
 ·have hltj2:(j:Int) < (((p.shared).map ShRow).length:Int):=by omega
  refine ZB ?_
  refine Zb (fun hlen=>?_)
  refine Y6 ?_
  refine ZI ?_
  refine cf_ O O O b_ O b_ (o_ O (Yo ?_))
  refine bm_ O (rsize_c _) (o_ O (cd_ O (T_ (jc_cond O (fun hn=>?_) (fun hy=>?_)))))
  ·have hp:(fun s=>sizeB s.2.1) (p.shared)[j]=false:=by
    simpa using hn
   have hno:(p.shared).all (fun s=>sizeB s.2.1)=false:=all_no hltj hp
   have hres:ranB p=false:=by
    unfold ranB
    rw [hno]; rfl
   refine Zr ?_
   refine aw_ (jq_ret1 O O [] O (fun K h=>by rw [hres] at h; exact h))
  ·have hp:(fun s=>sizeB s.2.1) (p.shared)[j]=true:=by
    simpa using hy
   refine as_ (Zk ?_)
   refine jq_againS (i:=j) (j+1) ⟨hltj,all_snoc hltj hI hp⟩ g_ ?_ ?_
   ·exact Wy
   ·exact Ww
 ·have hltj2:¬ (j:Int) < (((p.shared).map ShRow).length:Int):=by omega
  rw [List.take_of_length_le (by omega)] at hI
  have h0:ranB p=p.tasks.all ranT:=by unfold ranB; rw [hI]; rfl
  refine ZB ?_
  refine Zh (fun hlen=>?_)
  refine al_ (am_ (R_ ?_))
  refine E_ O (T_ (au_ ?_))
  clear hI hltj hltj2 hj
  refine jc_loopS (ι:=Nat) [] (fun k=>k≤(p.tasks).length∧(p.tasks.take k).all ranT=true) (fun k=>(4,In .i64 (k:Int)) :: [(1,.cell (.val (.pointer (some ⟨bx,0,none⟩))))]) (fun k=>[.blk bx 31 p.row]) (fun k=>(p.tasks).length - k) 0 ⟨Nat.zero_le _,rfl⟩ ?_ ?_ ?_
  ·exact Wy
  ·exact Ww
  rintro k ⟨hk,hA⟩
  have eLk:((p.tasks).map Tk.row).length=(p.tasks).length:=List.length_map _
  by_cases hltk:k < (p.tasks).length
  ·have hltk2:(k:Int) < (((p.tasks).map Tk.row).length:Int):=by omega
   have cR:=rranged_c (p.tasks[k]).body (hp.ls _ (List.getElem_mem hltk))
   refine ZB ?_
   refine Zb (fun hlen=>?_)
   refine Y6 ?_
   refine Zm (fun bl=>?_)
   refine am_ (Yh ?_)
   refine bw_ O O (M_ O (jl_or 3 3 O O O O (nb O) ?_))
   apply Exists.intro
   refine ⟨fun hb1=>?_,?_⟩
   refine Za ?_
   exact bz_ O O (ak_ (jq_seg 3 O O O (List.Perm.refl _)))
   refine M_ O (jl_or 3 8 O O O O (nb O) ?_)
   apply Exists.intro
   refine ⟨fun hb1=>?_,?_⟩
   refine Za ?_
   exact bw_ O O (ak_ (jq_seg 3 O O O (List.Perm.refl _)))
   refine M_ O (jl_or 5 13 O O O O (nb O) ?_)
   apply Exists.intro
   refine ⟨fun hb1=>?_,?_⟩
   refine Za ?_
   refine Ye ?_
   exact bz_ O O (ak_ (jq_seg 5 O O O (List.Perm.refl _)))
   refine M_ O (jl_or 3 20 O O O O (nb O) ?_)
   apply Exists.intro
   refine ⟨fun hb1=>?_,?_⟩
   refine Za ?_
   exact bw_ O O (ak_ (jq_seg 3 O O O (List.Perm.refl _)))
   refine M_ O (jl_or 3 25 O O O O (nb O) ?_)
   apply Exists.intro
   refine ⟨fun hb1=>?_,?_⟩
   refine Za ?_
   exact bz_ O O (ak_ (jq_seg 3 O O O (List.Perm.refl _)))
   refine M_ O (jl_or 3 30 O O O O (nb O) ?_)
   apply Exists.intro
   refine ⟨fun hb1=>?_,?_⟩
   refine Za ?_
   exact bw_ O O (ak_ (jq_seg 3 O O O (List.Perm.refl _)))
   refine M_ O (jl_or 5 35 O O O O (nb O) ?_)
   apply Exists.intro
   refine ⟨fun hb1=>?_,?_⟩
   refine Za ?_
   refine Ye ?_
   exact bz_ O O (ak_ (jq_seg 5 O O O (List.Perm.refl _)))
   refine M_ O (jl_or 4 42 O O O O (nb O) ?_)
   apply Exists.intro
   refine ⟨fun hb1=>?_,?_⟩
   refine Za ?_
   exact bm_ O (cR) (ah_ O h_ b_ (cd_ O (ak_ (jq_seg 4 O O O (List.Perm.refl _)))))
   refine T_ (jc_cond O (fun hn=>?_) (fun hy=>?_))
   ·have hno:ranT (p.tasks[k])=false:=by
     unfold ranT
     cases hw:Sm.wdss (p.tasks[k]).body with
     | false=>simp
     | true =>
      rw [hw] at hn
      simp only [Bool.or_eq_true,decide_eq_true_eq,Bool.not_true,Bool.false_eq_true,or_false] at hn
      simp only [Bool.and_eq_false_iff,decide_eq_false_iff_not]
      omega
    have hres:ranB p=false:=by rw [h0]; exact all_no hltk hno
    refine R_ (E_ O (T_ (ar_ (aw_ (az_ (aw_ (aw_ (az_ (aw_ (jq_ret1 O O [] O (fun K h=>by rw [hres] at h; exact h)))))))))))
   ·have h1:(decide (1≤(p.tasks[k]).period) && decide ((p.tasks[k]).period≤1048576) && decide (1≤(p.tasks[k]).deadline) && decide ((p.tasks[k]).deadline≤(p.tasks[k]).period) && decide (1≤(p.tasks[k]).priority) && decide ((p.tasks[k]).priority≤15) && decide (0≤(p.tasks[k]).jitter) && decide ((p.tasks[k]).jitter≤(p.tasks[k]).period) && Sm.wdss (p.tasks[k]).body)=true:=by
     simp only [Bool.or_eq_false_iff,decide_eq_false_iff_not,Bool.not_eq_false'] at hy
     obtain ⟨hy,hw⟩:=hy
     rw [hw,Bool.and_true]
     simp only [Bool.and_eq_true,decide_eq_true_eq]
     omega
    clear hy
    refine as_ (al_ (am_ (R_ (E_ O (T_ (au_ ?_))))))
    refine jc_loopS (ι:=Nat) [] (fun a=>a≤((p.tasks[k]).arrays).length∧(((p.tasks[k]).arrays).take a).all (fun a=>sizeB a.2)=true) (fun a=>(6,In .i64 (a:Int)) :: [(5,.cell (.val (.pointer (some ⟨bl,0,none⟩)))),(4,In .i64 (k:Int)),(1,.cell (.val (.pointer (some ⟨bx,0,none⟩))))]) (fun a=>[.blk bl 39 (p.tasks[k]).row,.blk bx 31 p.row]) (fun a=>((p.tasks[k]).arrays).length - a) 0 ⟨Nat.zero_le _,rfl⟩ ?_ ?_ ?_
    ·exact Wx
    ·exact Ww
    rintro a ⟨ha,hAr⟩
    have eLa:(((p.tasks[k]).arrays).map ArRow).length=((p.tasks[k]).arrays).length:=List.length_map _
    by_cases hlta:a < ((p.tasks[k]).arrays).length
    ·have hlta2:(a:Int) < ((((p.tasks[k]).arrays).map ArRow).length:Int):=by omega
     refine ZB ?_
     refine Zb (fun hlen=>?_)
     refine Y6 ?_
     refine ZI ?_
     refine Yo ?_
     refine bm_ O (rsize_c _) (o_ O (cd_ O (T_ (jc_cond O (fun hn=>?_) (fun hy=>?_)))))
     ·have hp:(fun a=>sizeB a.2) ((p.tasks[k]).arrays)[a]=false:=by
       simpa using hn
      have hno:((p.tasks[k]).arrays).all (fun a=>sizeB a.2)=false:=all_no hlta hp
      have hres:ranB p=false:=by
       rw [h0]
       exact all_no hltk (by unfold ranT; rw [hno,Bool.and_false]; rfl)
      refine Zr ?_
      refine aw_ (az_ (aw_ (aw_ (az_ (aw_ (jq_ret1 O O [] O (fun K h=>by rw [hres] at h; exact h)))))))
     ·have hp:(fun a=>sizeB a.2) ((p.tasks[k]).arrays)[a]=true:=by
       simpa using hy
      refine as_ (Zk ?_)
      refine jq_againS (i:=a) (a+1) ⟨hlta,all_snoc hlta hAr hp⟩ g_ ?_ ?_
      ·exact Wx
      ·exact Ww
    ·have hlta2:¬ (a:Int) < ((((p.tasks[k]).arrays).map ArRow).length:Int):=by omega
     rw [List.take_of_length_le (by omega)] at hAr
     refine ZB ?_
     refine Zh (fun hlen=>?_)
     refine al_ (am_ (R_ ?_))
     refine E_ O (T_ (au_ ?_))
     refine jc_loopS (ι:=Nat) [] (fun q=>q≤((p.tasks[k]).inputs).length∧(((p.tasks[k]).inputs).take q).all (fun x=>decide (x.2.1≤x.2.2))=true) (fun q=>(7,In .i64 (q:Int)) :: [(5,.cell (.val (.pointer (some ⟨bl,0,none⟩)))),(4,In .i64 (k:Int)),(1,.cell (.val (.pointer (some ⟨bx,0,none⟩))))]) (fun q=>[.blk bl 39 (p.tasks[k]).row,.blk bx 31 p.row]) (fun q=>((p.tasks[k]).inputs).length - q) 0 ⟨Nat.zero_le _,rfl⟩ ?_ ?_ ?_
     ·exact Wx
     ·exact Ww
     rintro q ⟨hq,hIn⟩
     have eLq:(((p.tasks[k]).inputs).map InRow).length=((p.tasks[k]).inputs).length:=List.length_map _
     by_cases hltq:q < ((p.tasks[k]).inputs).length
     ·have hltq2:(q:Int) < ((((p.tasks[k]).inputs).map InRow).length:Int):=by omega
      refine ZB ?_
      refine Zb (fun hlen=>?_)
      refine am_ (ao_ O O k_ k_ (yF_ O (yL_ 0 O ?_)))
      refine Zi ?_
      refine yF_ O (yL_ 0 O (Zi ?_))
      refine aa_ (fun c=>bz_ O O p_) (ae_ (al_ (jc_cond O (fun hn=>?_) (fun hy=>?_))))
      ·have hp:(fun x=>decide (x.2.1≤x.2.2)) ((p.tasks[k]).inputs)[q]=false:=by
        rw [decide_eq_false_iff_not]
        have:=of_decide_eq_true hn
        omega
       have hno:((p.tasks[k]).inputs).all (fun x=>decide (x.2.1≤x.2.2))=false:=all_no hltq hp
       have hres:ranB p=false:=by
        rw [h0]
        exact all_no hltk (by unfold ranT; rw [hno,Bool.and_false]; rfl)
       refine Zr ?_
       refine aw_ (az_ (aw_ (aw_ (az_ (aw_ (jq_ret1 O O [] O (fun K h=>by rw [hres] at h; exact h)))))))
      ·have hp:(fun x=>decide (x.2.1≤x.2.2)) ((p.tasks[k]).inputs)[q]=true:=by
        rw [decide_eq_true_eq]
        have:=of_decide_eq_false hy
        omega
       refine as_ (Zk ?_)
       refine jq_againS (i:=q) (q+1) ⟨hltq,all_snoc hltq hIn hp⟩ g_ ?_ ?_
       ·exact Wx
       ·exact Ww
     ·have hltq2:¬ (q:Int) < ((((p.tasks[k]).inputs).map InRow).length:Int):=by omega
      rw [List.take_of_length_le (by omega)] at hIn
      refine ZB ?_
      refine Zh (fun hlen=>?_)
      refine al_ (R_ (E_ O ?_))
      refine T_ (au_ ?_)
      refine jc_loopS (ι:=Nat) [] (fun m=>m≤((p.tasks[k]).modes).length∧((p.tasks[k]).modes.take m).all (ranM (p.tasks[k]).inputs)=true) (fun m=>(8,In .i64 (m:Int)) :: [(5,.cell (.val (.pointer (some ⟨bl,0,none⟩)))),(4,In .i64 (k:Int)),(1,.cell (.val (.pointer (some ⟨bx,0,none⟩))))]) (fun m=>[.blk bl 39 (p.tasks[k]).row,.blk bx 31 p.row]) (fun m=>((p.tasks[k]).modes).length - m) 0 ⟨Nat.zero_le _,rfl⟩ ?_ ?_ ?_
      ·exact Wx
      ·exact Ww
      rintro m ⟨hm,hM⟩
      have eLm:(((p.tasks[k]).modes).map MdRow).length=((p.tasks[k]).modes).length:=List.length_map _
      by_cases hltm:m < ((p.tasks[k]).modes).length
      ·have hltm2:(m:Int) < ((((p.tasks[k]).modes).map MdRow).length:Int):=by omega
       refine ZB ?_
       refine Zb (fun hlen=>?_)
       refine Y6 ?_
       refine Zm (fun bl=>?_)
       refine R_ (E_ O (T_ (au_ ?_)))
       rename_i bl0 x1 x2
       refine jc_loopS (ι:=Nat) [] (fun j=>j≤((p.tasks[k]).inputs).length∧((p.tasks[k]).inputs.take j).all (fun x=>!decide (x.1=((p.tasks[k]).modes[m]).2.1) || (decide (((p.tasks[k]).modes[m]).2.2.1≤((p.tasks[k]).modes[m]).2.2.2) && decide (x.2.1≤((p.tasks[k]).modes[m]).2.2.1) && decide (((p.tasks[k]).modes[m]).2.2.2≤x.2.2)))=true) (fun j=>(10,In .i64 (j:Int)) :: [(9,.cell (.val (.pointer (some ⟨bl,0,none⟩)))),(8,In .i64 (m:Int)),(5,.cell (.val (.pointer (some ⟨bl0,0,none⟩)))),(4,In .i64 (k:Int)),(1,.cell (.val (.pointer (some ⟨bx,0,none⟩))))]) (fun j=>[.blk bl 104 (MdRow ((p.tasks[k]).modes[m])),.blk bl0 39 (p.tasks[k]).row,.blk bx 31 p.row]) (fun j=>((p.tasks[k]).inputs).length - j) 0 ⟨Nat.zero_le _,rfl⟩ ?_ ?_ ?_
       ·exact WG
       ·exact Ww
       rintro j ⟨hj,hI2⟩
       have eLj:(((p.tasks[k]).inputs).map InRow).length=((p.tasks[k]).inputs).length:=List.length_map _
       by_cases hltj:j < ((p.tasks[k]).inputs).length
       ·have hltj2:(j:Int) < ((((p.tasks[k]).inputs).map InRow).length:Int):=by omega
        by_cases hnm:((p.tasks[k]).inputs[j]).1=((p.tasks[k]).modes[m]).2.1
        ·by_cases hbad:((p.tasks[k]).modes[m]).2.2.1 > ((p.tasks[k]).modes[m]).2.2.2 ∨ ((p.tasks[k]).modes[m]).2.2.1 < ((p.tasks[k]).inputs[j]).2.1 ∨ ((p.tasks[k]).modes[m]).2.2.2 > ((p.tasks[k]).inputs[j]).2.2
         ·have hres:ranB p=false:=by
           rw [h0]
           refine all_no hltk ?_
           have:(p.tasks[k]).modes.all (ranM (p.tasks[k]).inputs)=false:=all_no hltm (all_no hltj (by
            rw [decide_eq_true hnm]
            simp only [Bool.not_true,Bool.false_or,Bool.and_eq_false_iff,decide_eq_false_iff_not]
            omega))
           unfold ranT
           rw [this,Bool.and_false]
          by_cases b1:((p.tasks[k]).modes[m]).2.2.1 > ((p.tasks[k]).modes[m]).2.2.2
          ·refine Z6 ?_
           refine Zb (fun hlen=>?_)
           refine am_ (ao_ O O k_ k_ (yF_ O (yL_ 1 O ?_)))
           refine Zi ?_
           refine ZG ?_
           refine ab_ O u_ (fun c=>bd_ O p_) (ZL ?_)
           refine ac_ O u_ (ac_ O u_ (ac_ O u_ (ac_ O u_ (ab_ O u_ (fun c=>bp_ O u_ O p_) (ab_ O u_ (fun c=>bd_ O p_) (ac_ O O (ac_ O O (ac_ O O (ac_ O O ?_)))))))))
           refine ac_ O O (ac_ O O (ac_ O O (ac_ O O (ac_ O O (ab_ O u_ (fun c=>bp_ O O O p_) (aa_ (fun c=>bp_ O u_ O p_) (ae_ (al_ (aq_ O O (R_ (E_ O (T_ (ar_ (az_ (aw_ ?_)))))))))))))))
           refine aw_ (az_ (az_ (aw_ (aw_ (az_ (az_ (aw_ (aw_ (az_ (aw_ (jq_ret1 O O [] O (fun K h=>by rw [hres] at h; exact h))))))))))))
          by_cases b2:((p.tasks[k]).modes[m]).2.2.1 < ((p.tasks[k]).inputs[j]).2.1
          ·refine Z6 ?_
           refine Zb (fun hlen=>?_)
           refine am_ (ao_ O O k_ k_ (yF_ O (yL_ 1 O ?_)))
           refine Zi ?_
           refine ZG ?_
           refine Zo ?_
           refine ab_ O w_ (fun c=>bw_ O O p_) ?_
           refine ab_ O u_ (fun c=>bv_ O w_ O p_) (ab_ O u_ (fun c=>bd_ O p_) (ZL ?_))
           refine ac_ O u_ (ac_ O u_ (ac_ O u_ (ac_ O u_ (ab_ O u_ (fun c=>bp_ O u_ O p_) (aa_ (fun c=>bp_ O u_ O p_) (ae_ (al_ (aq_ O O ?_))))))))
           refine Zr ?_
           refine az_ (aw_ (aw_ (az_ (az_ (aw_ (aw_ (az_ ?_)))))))
           refine aw_ (jq_ret1 O O [] O (fun K h=>by rw [hres] at h; exact h))
          have b3:((p.tasks[k]).modes[m]).2.2.2 > ((p.tasks[k]).inputs[j]).2.2:=by omega
          refine Z6 ?_
          refine Zb (fun hlen=>?_)
          refine am_ (ao_ O O k_ k_ (yF_ O (yL_ 1 O ?_)))
          refine Zi ?_
          refine ZG ?_
          refine Zo ?_
          refine ab_ O w_ (fun c=>bw_ O O p_) ?_
          refine ab_ O u_ (fun c=>bv_ O w_ O p_) (Zo ?_)
          refine ab_ O w_ (fun c=>bz_ O O p_) (ab_ O u_ (fun c=>bv_ O w_ O p_) (aa_ (fun c=>bp_ O u_ O p_) (ae_ (al_ (aq_ O u_ (Zr ?_))))))
          refine az_ (aw_ ?_)
          refine aw_ (az_ (az_ (aw_ (aw_ (az_ (aw_ (jq_ret1 O O [] O (fun K h=>by rw [hres] at h; exact h))))))))
         ·have b1:¬ ((p.tasks[k]).modes[m]).2.2.1 > ((p.tasks[k]).modes[m]).2.2.2:=by omega
          have b2:¬ ((p.tasks[k]).modes[m]).2.2.1 < ((p.tasks[k]).inputs[j]).2.1:=by omega
          have b3:¬ ((p.tasks[k]).modes[m]).2.2.2 > ((p.tasks[k]).inputs[j]).2.2:=by omega
          refine Z6 ?_
          refine Zb (fun hlen=>?_)
          refine am_ (ao_ O O k_ k_ (yF_ O (yL_ 1 O ?_)))
          refine Zi ?_
          refine ZG ?_
          refine Zo ?_
          refine ab_ O w_ (fun c=>bw_ O O p_) ?_
          refine ab_ O u_ (fun c=>bv_ O w_ O p_) (Zo ?_)
          refine ab_ O w_ (fun c=>bz_ O O p_) (ab_ O u_ (fun c=>bv_ O w_ O p_) (aa_ (fun c=>bp_ O u_ O p_) (ae_ (al_ (ap_ O w_ (as_ (Zk ?_)))))))
          refine jq_againS (i:=j) (j+1) ⟨hltj,all_snoc hltj hI2 (by
           rw [decide_eq_true hnm]
           simp only [Bool.not_true,Bool.false_or,Bool.and_eq_true,decide_eq_true_eq]
           omega)⟩ (by omega) ?_ ?_
          ·exact WG
          ·exact Ww
        ·refine Z6 ?_
         refine Zb (fun hlen=>?_)
         refine am_ (ao_ O O k_ k_ (yF_ O (yL_ 1 O ?_)))
         refine Zi ?_
         refine yF_ O (yL_ 0 O (aa_ (fun c=>cs_ O O p_) (yM_ O (ac_ O w_ (ac_ O w_ (ac_ O w_ (ac_ O w_ (ac_ O w_ (ac_ O w_ (ad_ O (ad_ O ?_)))))))))))
         refine ad_ O (ad_ O (ad_ O (ad_ O (ad_ O (ad_ O (ad_ O (ac_ O w_ (ac_ O w_ (ad_ O (ad_ O (ad_ O (ad_ O (ad_ O (ad_ O (ad_ O ?_)))))))))))))))
         refine ad_ O (ad_ O (ac_ O w_ (aa_ (fun c=>bv_ O w_ O p_) (ae_ (al_ (ap_ O O (as_ (Zk ?_))))))))
         refine jq_againS (i:=j) (j+1) ⟨hltj,all_snoc hltj hI2 (by rw [decide_eq_false hnm]; rfl)⟩ g_ ?_ ?_
         ·exact WG
         ·exact Ww
       ·have hltj2:¬ (j:Int) < ((((p.tasks[k]).inputs).map InRow).length:Int):=by omega
        rw [List.take_of_length_le (by omega)] at hI2
        refine Z6 ?_
        refine Zh (fun hlen=>?_)
        refine ay_ (al_ (an_ ?_))
        refine YN ?_
        refine jq_againS (i:=m) (m+1) ⟨hltm,all_snoc hltm hM (by unfold ranM; exact hI2)⟩ g_ ?_ ?_
        ·exact bc_ 1 O (bc_ 1 O sub_end)
        ·exact Ww
      ·have hltm2:¬ (m:Int) < ((((p.tasks[k]).modes).map MdRow).length:Int):=by omega
       rw [List.take_of_length_le (by omega)] at hM
       have hyes:ranT (p.tasks[k])=true:=by unfold ranT; rw [h1,hAr,hIn,hM]; rfl
       refine ZB ?_
       refine Zh (fun hlen=>?_)
       refine ay_ (al_ (an_ ?_))
       refine YN ?_
       refine jq_againS (i:=k) (k+1) ⟨hltk,all_snoc hltk hA hyes⟩ g_ ?_ ?_
       ·exact WE
       ·exact Ww
  ·have hltk2:¬ (k:Int) < (((p.tasks).map Tk.row).length:Int):=by omega
   rw [List.take_of_length_le (by omega)] at hA
   have hres:ranB p=true:=by rw [h0]; exact hA
   refine ZB ?_
   refine Zh (fun hlen=>?_)
   refine al_ (R_ (E_ O ?_))
   refine T_ (ar_ (jq_ret1 O O [] O (fun K h=>by rw [hres] at h; exact h)))
end Go.Proofs.YtalkkcfojplmdaaGreatDoor
end
section
namespace Go.Proofs.YtalkkcfojplmdaaGreatDoor
open Go.Vc
set_option maxHeartbeats 8000000
attribute [local irreducible] JL JC JQ OpWp Con ConN
attribute [local irreducible] StG BlG Mz
abbrev NilC:C:=.val (.slice none 0 0)
abbrev Zt:List C:=[.val (.string ⟨#[]⟩),.val (.int .i64 0),.val (.int .i64 0),.val (.int .i64 0),.val (.int .i64 0),NilC,NilC,NilC,NilC,NilC,NilC]
abbrev Rw (nm:ByteArray) (per dln pri jit:Int) (a b c d e f:C):List C:=[.val (.string nm),.val (.int .i64 per),.val (.int .i64 dln),.val (.int .i64 pri),.val (.int .i64 jit),a,b,c,d,e,f]
abbrev M0 (bd:Nat) (v:Value) (Sh:List Shd) (N:Int):List C:=[.val (.pointer (some ⟨bd,0,none⟩)),.val v,NilC,NilC,.list (Sh.map ShRow),.val (.string ⟨#[]⟩),.val (.int .i64 0),.val (.int .i64 N),.val (.int .i64 0)]
theorem pow_bd (i:Int) (h:i.toNat≤30):(0:Int)≤1 * 2 ^ i.toNat∧(1:Int) * 2 ^ i.toNat≤1073741824:=by
 have h6:(2:Nat) ^ i.toNat≤2 ^ 30:=Nat.pow_le_pow_right (by omega) h
 have h7:((2 ^ i.toNat:Nat):Int)=(2:Int) ^ i.toNat:=by simp
 have h8:(0:Int)≤(2:Int) ^ i.toNat:=h7 ▸ Int.natCast_nonneg _
 omega
abbrev XY:List ByteArray:=[⟨#[120]⟩,⟨#[121]⟩]
abbrev VS:List ByteArray:=[⟨#[105]⟩,⟨#[107]⟩,⟨#[110]⟩]
def InG (k:Nat) (l:List Inp):Prop:=l.map (·.1)=XY.take k∧∀ x ∈ l,(-2≤x.2.1∧x.2.1≤3)∧x.2.1≤x.2.2∧x.2.2≤x.2.1+11
def ArG (l:List Arr):Prop:=l=[] ∨ ∃ k:Nat,k≤3∧l=[(⟨#[97]⟩,2 ^ k)]
def MdG (I:List Inp) (l:List Md):Prop:=l=[] ∨ ∃ x lo hi,I[0]?=some x∧(x.2.1≤lo∧lo≤hi∧hi≤x.2.2)∧l=[(⟨#[102,101,119]⟩,x.1,lo,hi)]
def ClG (ifs:List Int) (l:List Clm):Prop:=l=[] ∨ ∃ (a b:Nat) (ha:a < ifs.length) (hb:b < ifs.length),a≠b∧l=[(ifs[a],ifs[b])]
structure TaskG (Sh:List Shd) (nm:ByteArray) (W:Int) (t:Tk):Prop where
 name:t.name=nm
 period:2000≤t.period∧t.period≤6000
 deadline:t.period - 400≤t.deadline∧t.deadline≤t.period
 priority:1≤t.priority∧t.priority≤5
 jitter:0≤t.jitter∧t.jitter≤30
 inputs:t.inputs.length≤2∧InG t.inputs.length t.inputs
 vars:t.vars=VS
 arrays:ArG t.arrays
 modes:MdG t.inputs t.modes
 claims:ClG (ifsOf t.body) t.claims
 body:∃ lab l n,BlG (StG (t.inputs.map (·.1) ++ VS) (t.arrays.map (·.1)) Sh 3 0 E0) 5 0 lab l∧t.body=l.take n
 weight:wAll 20 t.body 0≤W
 size:Mz t.body 14
theorem InG.len {k:Nat} {l:List Inp} (h:InG k l) (hk:k≤2):l.length=k:=by
 have:=congrArg List.length h.1
 simpa [Nat.min_eq_left hk] using this
theorem InG.snoc {k:Nat} {l:List Inp} (h:InG k l) {s:ByteArray} {lo hi:Int} (hs:XY[k]?=some s) (hb:(-2≤lo∧lo≤3)∧lo≤hi∧hi≤lo+11):InG (k+1) (l ++ [(s,lo,hi)]):=by
 refine ⟨?_,fun x hx=>?_⟩
 ·obtain ⟨hlt,rfl⟩:=List.getElem?_eq_some_iff.1 hs
  rw [List.map_append,h.1,List.take_succ_eq_append_getElem hlt]
  rfl
 ·rcases List.mem_append.1 hx with hx | hx
  ·exact h.2 x hx
  ·rw [List.mem_singleton.1 hx]; exact hb
abbrev Et3 (bd:Nat) (W:Int) (br bt:Nat):Env:=[(0,Ptr bd),(3,In .i64 W),(10,Ptr br),(11,Ptr bt)]
abbrev Et (bd:Nat) (W:Int) (br bt bx:Nat):Env:=[(0,Ptr bd),(3,In .i64 W),(10,Ptr br),(11,Ptr bt),(12,Ptr bx)]
section
variable {L:List Int} {bd:Nat} {Sh:List Shd}
theorem task_c (hL:InR L) (hLn:L.length≤400) (hSh:Sh.length≤100) (nm:ByteArray) (W N:Int) (hW:0≤W∧W≤1000000) (hN:0≤N∧N≤14) :
 Con Tryz.prog 78 [Ptr bd,Str nm,.cell (.list (Sh.map ShRow)),In .i64 W,In .i64 N] [Dk bd L] (fun K=>∀ t:Tk,TaskG Sh nm W t→K (.row t.row) [Dk bd L]):=by
 refine con_intro Tryz.func78 O O b_ (fun c hc=>R_ (o_ O (bl_ O O (fun br=>T_ (R_ (M_ O (M_ O (o_ O (bt_ [1] O O (Nx_c _ hL hLn g_) (fun k1 hk1=>o_ O (cz_ O O g_ (Wr ?_))))))))))))
 refine o_ O (bt_ [0] O O (Nx_c _ hL hLn g_) (fun k2 hk2=>Wr ?_))
 refine o_ O (bt_ [0] O O (Nx_c _ hL hLn g_) (fun k3 hk3=>?_))
 refine o_ O (cz_ O O g_ (o_ O (bu_ O O O O O (o_ O (bl_ O O (fun bt=>S_ 0 O (T_ (am_ (jc_anyB 6 none O k_ k_ (yF_ O (yL_ 0 O (yM_ O (aa_ (fun c=>ow_callA [1] O O (gNext_c L _ _ hL hLn g_)) (aa_ (fun c=>ow_exarg 35 O (fun i=>cz_ O O (by have:=i.2; omega) ⟨rfl,.refl _⟩)) (aa_ (fun c=>ow_exarg 36 O (fun i=>cg_ O O (by have:=i.2; omega) ⟨rfl,.refl _⟩)) ?_)))))))))))))))
 refine ae_ (afin_none (jl_slot 37 O (fun dl=>F_ O (W_ 0 O (T_ (R_ (M_ O (M_ O (M_ O (o_ O (bu_ O O O O O (o_ O (ci_ O (fun bx=>E_ O (T_ (am_ (R_ (E_ O ?_))))))))))))))))))
 refine T_ (jc_ownNil 9 1 g_ (jc_ownNil 92 3 g_ ?_))
 have hdl:=dl.2
 generalize hper:2000+k1 * 500=per
 generalize hdln:per - dl.1 * 100=dln
 generalize hpri:1+k2=pri
 generalize hjit:k3 * 10=jit
 have hper2:2000≤per∧per≤6000:=by omega
 have hdln2:per - 400≤dln∧dln≤per:=by omega
 have hpri2:1≤pri∧pri≤5:=by omega
 have hjit2:0≤jit∧jit≤30:=by omega
 clear hper hdln hpri hjit hdl hk1 hk2 hk3
 refine jc_cut (ι:=(Value × List Inp) × (Value × List ByteArray)) [] (fun i=>(c.Fresh i.1.1∧c.Fresh i.2.1)∧∃ n,n≤2∧InG n i.1.2∧i.2.2=XY.take n) (fun _=>Et bd W br bt bx)
  (fun i=>[.blk bt 39 (Rw nm per dln pri jit (.val i.1.1) NilC NilC NilC NilC NilC),.blk bx 165 (M0 bd i.2.1 Sh N),.own i.1.1 92 3 (i.1.2.map InRow),.own i.2.1 9 1 (i.2.2.map Wrow),Dk bd L,.blk br 39 Zt]) ?_ ?_
 ·refine au_ ?_
  refine jc_loopS (ι:=Nat × (Value × List Inp) × (Value × List ByteArray)) [] (fun i=>i.1≤2∧(c.Fresh i.2.1.1∧c.Fresh i.2.2.1)∧InG i.1 i.2.1.2∧i.2.2.2=XY.take i.1) (fun i=>(13,In .i64 (i.1:Int)) :: Et bd W br bt bx)
   (fun i=>[.blk bt 39 (Rw nm per dln pri jit (.val i.2.1.1) NilC NilC NilC NilC NilC),.blk bx 165 (M0 bd i.2.2.1 Sh N),.own i.2.1.1 92 3 (i.2.1.2.map InRow),.own i.2.2.1 9 1 (i.2.2.2.map Wrow),Dk bd L,.blk br 39 Zt]) (fun i=>3 - i.1) (0,(.slice none 0 0,[]),(.slice none 0 0,[])) ⟨by omega,⟨fresh_nil,fresh_nil⟩,⟨by simp,by simp⟩,by simp⟩ ?_ ?_ ?_
  ·refine bc_ 3 O (bc_ 2 O (Y8 ?_))
   exact Wy
  ·exact Ww
  ·rintro ⟨k,⟨vI,lI⟩,vV,lV⟩ ⟨hk,⟨hfI,hfV⟩,hokI,hlV⟩
   dsimp only at hk hfI hfV hokI hlV ⊢
   have hlI:=hokI.len hk
   have hlV2:lV.length≤2:=by rw [hlV]; simp; omega
   refine Yu ?_
   refine o_ O (bt_ [4] O O (Nx_c _ hL hLn g_) (fun k4 hk4=>o_ O (bw_ O O (T_ (jc_condd O (fun hlt=>?_) (fun hge=>?_))))))
   ·refine as_ (al_ (B_ (am_ (jc_cut (ι:=ByteArray) [] (fun s=>k≤1→XY[k]?=some s) (fun s=>(14,Str s) :: ((13,In .i64 (k:Int)) :: Et bd W br bt bx)) (fun _=>[.blk bt 39 (Rw nm per dln pri jit (.val vI) NilC NilC NilC NilC NilC),.blk bx 165 (M0 bd vV Sh N),.own vI 92 3 (lI.map InRow),.own vV 9 1 (lV.map Wrow),Dk bd L,.blk br 39 Zt]) ?_ ?_))))
    ·have hk3:k=0 ∨ k=1 ∨ k=2:=by omega
     rcases hk3 with rfl | rfl | rfl
     ·refine Y7 ?_
      refine jq_cutS (⟨#[120]⟩:ByteArray) (fun _=>O) ?_ ?_
      ·refine Yz ?_
       exact Wx
      ·exact Ww
     ·refine Y7 ?_
      refine jq_cutS (⟨#[121]⟩:ByteArray) (fun _=>O) ?_ ?_
      ·refine Yz ?_
       exact Wx
      ·exact Ww
     ·refine Y7 ?_
      refine jq_cutS (⟨#[120]⟩:ByteArray) (fun h=>by omega) ?_ ?_
      ·refine Yz ?_
       exact Wx
      ·exact Ww
    intro s hsXY
    refine Wp ?_
    refine T_ (jc_condd O (fun h1=>?_) (fun h1=>?_))
    ·refine av_ (ax_ (bb_ O (ax_ (ax_ (ba_ (jq_cutS ((vI,lI),(vV,lV)) ⟨⟨hfI,hfV⟩,k,hk,hokI,hlV⟩ ?_ ?_))))))
     ·refine Zp ?_
      exact Wx
     ·exact Ww
    ·refine as_ (al_ (R_ (M_ O (o_ O (bt_ [4] O O (Nx_c _ hL hLn g_) (fun k5 hk5=>o_ O (cg_ O O g_ (E_ O (T_ (am_ (jc_anyB 10 none O k_ k_ (yF_ O (yL_ 1 O (yM_ O (yM_ O (yM_ O (yM_ O ?_)))))))))))))))))
     refine aa_ (fun c=>ow_callA [0] O O (gNext_c L _ _ hL hLn g_)) (aa_ (fun c=>ow_exarg 66 O (fun i=>bj_ O O (by have:=i.2; omega) ⟨rfl,.refl _⟩)) (aa_ (fun c=>ow_exarg 67 O (fun i=>bu_ O O O O O ⟨rfl,.refl _⟩)) (aa_ (fun c=>ow_exarg 68 O (fun i=>bq_ O O b_ O O b_ ⟨rfl,.refl _⟩)) (ae_ (afin_none (jl_slot 69 O (fun n=>?_)))))))
     (first | refine jl_op (ow_append1F 3 ((s,k5 - 2,k5 - 2+n.1)) rfl rfl rfl rfl rfl rfl rfl (fun _=>rfl) (by show (_+_) * 32≤_; first | omega | (simp only [List.length_append]; omega)) (by first | omega | (simp only [List.length_append]; omega)) (fun vI1 hvI1 fvI1=>?_)) (nb rfl) | refine jl_op (ow_append1F 2 ((s,k5 - 2,k5 - 2+n.1)) rfl rfl rfl rfl rfl rfl rfl (fun _=>rfl) (by show (_+_) * 32≤_; first | omega | (simp only [List.length_append]; omega)) (by first | omega | (simp only [List.length_append]; omega)) (fun vI1 hvI1 fvI1=>?_)) (nb rfl) | refine jl_op (ow_append1F 4 ((s,k5 - 2,k5 - 2+n.1)) rfl rfl rfl rfl rfl rfl rfl (fun _=>rfl) (by show (_+_) * 32≤_; first | omega | (simp only [List.length_append]; omega)) (by first | omega | (simp only [List.length_append]; omega)) (fun vI1 hvI1 fvI1=>?_)) (nb rfl))
     refine F_ O (W_ 2 O (T_ (an_ (M_ O (M_ O (N_ O (F_ O (L_ 3 O (M_ O (o_ O (bq_ O O b_ O O b_ ?_)))))))))))
     (first | refine jl_op (ow_append1F 3 (s) rfl rfl rfl rfl rfl rfl rfl (fun _=>rfl) (by show (_+_) * 16≤_; first | omega | (simp only [List.length_append]; omega)) (by first | omega | (simp only [List.length_append]; omega)) (fun vV1 hvV1 fvV1=>?_)) (nb rfl) | refine jl_op (ow_append1F 2 (s) rfl rfl rfl rfl rfl rfl rfl (fun _=>rfl) (by show (_+_) * 16≤_; first | omega | (simp only [List.length_append]; omega)) (by first | omega | (simp only [List.length_append]; omega)) (fun vV1 hvV1 fvV1=>?_)) (nb rfl) | refine jl_op (ow_append1F 4 (s) rfl rfl rfl rfl rfl rfl rfl (fun _=>rfl) (by show (_+_) * 16≤_; first | omega | (simp only [List.length_append]; omega)) (by first | omega | (simp only [List.length_append]; omega)) (fun vV1 hvV1 fvV1=>?_)) (nb rfl))
     refine N_ O (F_ O (W_ 4 O (ak_ (Zk ?_))))
     have hk1:k≤1:=by omega
     refine jq_againS (i:=(k,(vI,lI),(vV,lV))) (k+1,(vI1,lI ++ [(s,k5 - 2,k5 - 2+n.1)]),(vV1,lV ++ [s])) ⟨by dsimp only; omega,⟨fvI1 hfI,fvV1 hfV⟩,hokI.snoc (hsXY hk1) (by have:=n.2; omega),by
      obtain ⟨hlt,rfl⟩:=List.getElem?_eq_some_iff.1 (hsXY hk1)
      dsimp only
      rw [hlV,List.take_succ_eq_append_getElem hlt]⟩ (by dsimp only; omega) ?_ ?_
     ·exact bc_ 2 O (bc_ 0 O (bc_ 1 O (bc_ 0 O (bc_ 0 O (bc_ 0 O sub_end)))))
     ·exact Ww
   ·refine av_ (ax_ (ax_ (ba_ (jq_cutS ((vI,lI),(vV,lV)) ⟨⟨hfI,hfV⟩,k,hk,hokI,hlV⟩ ?_ ?_))))
    ·refine Yz ?_
     exact Wx
    ·exact Ww
 rintro ⟨⟨vI,lI⟩,vV,lV⟩ ⟨⟨hfI,hfV⟩,nI,hnI,hokI,hlV⟩
 dsimp only at hfI hfV hokI hlV ⊢
 have hlI:=hokI.len hnI
 have hlV2:lV.length≤2:=by rw [hlV]; simp; omega
 have hlVI:lV=lI.map (·.1):=by rw [hlV,hokI.1]
 clear hlV
 refine jc_freezeB 2 0 5 O O hfI (R_ (o_ O (bq_ O O b_ O O b_ (F_ O (W_ 0 O (T_ (am_ (jc_anyF 7 none [0] O k_ k_ k_ O (yM_ O (Wg ?_))))))))))
 refine yF_ O (yL_ 0 O (ae_ ?_))
 refine afin_none ?_
 (first | refine jl_op (ow_appendMF (f:=Wrow) (l1:=lV) (l2:=[⟨#[105]⟩,⟨#[107]⟩,⟨#[110]⟩]) 2 rfl rfl rfl rfl rfl rfl rfl (fun _=>rfl) (by show (_+3) * 16≤_; omega) (by simp; omega) (fun vV1 hvV1 fvV1=>?_)) (nb rfl) | refine jl_op (ow_appendMF (f:=Wrow) (l1:=lV) (l2:=[⟨#[105]⟩,⟨#[107]⟩,⟨#[110]⟩]) 3 rfl rfl rfl rfl rfl rfl rfl (fun _=>rfl) (by show (_+3) * 16≤_; omega) (by simp; omega) (fun vV1 hvV1 fvV1=>?_)) (nb rfl))
 refine jl_freezeF 91 0 O O (fvV1 hfV) ?_
 generalize hVe:lV ++ VS=V
 have hV0:0 < V.length:=by rw [← hVe]; simp
 have hV:V.length≤100:=by rw [← hVe]; simp; omega
 refine N_ O (F_ O (W_ 1 O (ak_ (jq_np (al_ (am_ ?_))))))
 have hMk:RowLe [.val (.pointer (some ⟨bd,0,none⟩)),.list (V.map Wrow),NilC,NilC,.list (Sh.map ShRow),.val (.string ⟨#[]⟩),.val (.int .i64 0),.val (.int .i64 N),.val (.int .i64 0)] (MkRow bd V (.slice none 0 0) [] Sh ⟨#[]⟩ 0 N 0) :=
  .cons (.refl _) (.cons (.refl _) (.cons (.refl _) (.cons .nil (.refl _))))
 (first | refine jc_row 0 _ rfl hMk ?_ | refine jc_row 1 _ rfl hMk ?_ | refine jc_row 2 _ rfl hMk ?_)
 refine jc_cut (ι:=List Arr) [] ArG (fun _=>Et bd W br bt bx) (fun ar=>[.blk bt 39 (Rw nm per dln pri jit (.list (lI.map InRow)) (.list (VS.map Wrow)) (.list (ar.map ArRow)) NilC NilC NilC),Mk bx bd V (.slice none 0 0) (ar.map (·.1)) Sh ⟨#[]⟩ 0 N 0,Dk bd L,.blk br 39 Zt]) ?_ ?_
 ·refine R_ (M_ O (o_ O (bt_ [2] O O (Nx_c _ hL hLn g_) (fun k6 hk6=>o_ O (bn_ O O (T_ (jc_condd O (fun h1=>?_) (fun h1=>?_))))))))
  ·refine R_ (M_ O (o_ O (bt_ [0] O O (Nx_c _ hL hLn g_) (fun k7 hk7=>?_))))
   have h5:=pow_bd k7 (by omega)
   refine o_ O (ow_convU64 O O O g_ (o_ O (ow_shl64 O O g_ g_ (o_ O (bu_ O O O O O (o_ O (bq_ O O b_ O O b_ (F_ O (W_ 2 O (T_ (an_ (M_ O (o_ O (bq_ O O b_ O O b_ (N_ O (F_ O (W_ 2 O (ak_ ?_))))))))))))))))))
   (first | refine jq_row 0 (MkRow bd V (.slice none 0 0) [⟨#[97]⟩] Sh ⟨#[]⟩ 0 N 0) rfl (.refl _) ?_ | refine jq_row 1 (MkRow bd V (.slice none 0 0) [⟨#[97]⟩] Sh ⟨#[]⟩ 0 N 0) rfl (.refl _) ?_ | refine jq_row 2 (MkRow bd V (.slice none 0 0) [⟨#[97]⟩] Sh ⟨#[]⟩ 0 N 0) rfl (.refl _) ?_ | refine jq_row 3 (MkRow bd V (.slice none 0 0) [⟨#[97]⟩] Sh ⟨#[]⟩ 0 N 0) rfl (.refl _) ?_)
   refine jq_cutS ([(⟨#[97]⟩,1 * 2 ^ k7.toNat)]:List Arr) (.inr ⟨k7.toNat,by omega,by rw [Int.one_mul]⟩) ?_ ?_
   ·exact bc_ 1 O (bc_ 0 O (bc_ 0 O (bc_ 0 O sub_end)))
   ·exact Ww
  ·refine as_ ?_
   (first | refine jq_row 0 (Rw nm per dln pri jit (.list (lI.map InRow)) (.list (VS.map Wrow)) (.list (([]:List Arr).map ArRow)) NilC NilC NilC) rfl (.cons (.refl _) (.cons (.refl _) (.cons (.refl _) (.cons (.refl _) (.cons (.refl _) (.cons (.refl _) (.cons (.refl _) (.cons .nil (.refl _))))))))) ?_ | refine jq_row 1 (Rw nm per dln pri jit (.list (lI.map InRow)) (.list (VS.map Wrow)) (.list (([]:List Arr).map ArRow)) NilC NilC NilC) rfl (.cons (.refl _) (.cons (.refl _) (.cons (.refl _) (.cons (.refl _) (.cons (.refl _) (.cons (.refl _) (.cons (.refl _) (.cons .nil (.refl _))))))))) ?_ | refine jq_row 2 (Rw nm per dln pri jit (.list (lI.map InRow)) (.list (VS.map Wrow)) (.list (([]:List Arr).map ArRow)) NilC NilC NilC) rfl (.cons (.refl _) (.cons (.refl _) (.cons (.refl _) (.cons (.refl _) (.cons (.refl _) (.cons (.refl _) (.cons (.refl _) (.cons .nil (.refl _))))))))) ?_ | refine jq_row 3 (Rw nm per dln pri jit (.list (lI.map InRow)) (.list (VS.map Wrow)) (.list (([]:List Arr).map ArRow)) NilC NilC NilC) rfl (.cons (.refl _) (.cons (.refl _) (.cons (.refl _) (.cons (.refl _) (.cons (.refl _) (.cons (.refl _) (.cons (.refl _) (.cons .nil (.refl _))))))))) ?_)
   refine jq_cutS ([]:List Arr) (.inl O) ?_ ?_
   ·exact bc_ 0 O (bc_ 1 O (bc_ 0 O (bc_ 0 O sub_end)))
   ·exact Ww
 intro ar har
 refine am_ (jc_cut (ι:=List Md) [] (MdG lI) (fun _=>Et bd W br bt bx) (fun md=>[.blk bt 39 (Rw nm per dln pri jit (.list (lI.map InRow)) (.list (VS.map Wrow)) (.list (ar.map ArRow)) (.list (md.map MdRow)) NilC NilC),Mk bx bd V (.slice none 0 0) (ar.map (·.1)) Sh ⟨#[]⟩ 0 N 0,Dk bd L,.blk br 39 Zt]) ?_ ?_)
 ·refine am_ (jc_cut (ι:=Bool) [] (fun b=>b=true→0 < lI.length) (fun b=>(116,Bl b) :: Et bd W br bt bx) (fun _=>[.blk bt 39 (Rw nm per dln pri jit (.list (lI.map InRow)) (.list (VS.map Wrow)) (.list (ar.map ArRow)) NilC NilC NilC),Mk bx bd V (.slice none 0 0) (ar.map (·.1)) Sh ⟨#[]⟩ 0 N 0,Dk bd L,.blk br 39 Zt]) ?_ ?_)
  ·by_cases hl:(0:Int) < ((lI.map InRow).length:Int)
   ·refine an_ (F_ O (L_ 0 O (o_ O (br_ O (fun hlen=>o_ O (bz_ O O (M_ O (ZS ?_))))))))
    refine bt_ [2] O O (Nx_c _ hL hLn g_) (fun k8 hk8=>?_)
    refine ah_ O u_ b_ (bn_ O O (o_ O (bp_ O u_ O (ak_ (jq_cutS (decide (k8=1)) (fun _=>by simp at hl; omega) ?_ ?_)))))
    ·exact bc_ 1 O (bc_ 1 O (bc_ 0 O (bc_ 0 O sub_end)))
    ·exact Ww
   ·refine an_ (F_ O (L_ 0 O (o_ O (br_ O (fun hlen=>o_ O (bz_ O O (M_ O (ai_ O w_ b_ (ai_ O w_ b_ (YA ?_))))))))))
    refine ak_ (jq_cutS false (by simp) ?_ ?_)
    ·refine Y8 ?_
     exact Wy
    ·exact Ww
  intro b hb
  refine jc_cond O (fun hbt=>?_) (fun hbt=>?_)
  ·have hl0:=hb hbt
   have hx:=hokI.2 lI[0] (List.getElem_mem _)
   refine Yh ?_
   refine cc_ (k:=0) O O hl0 O O b_ (o_ O (cr_ O O O (Yt (fun bl=>?_))))
   refine am_ (ao_ O O k_ k_ (yF_ O (yL_ 0 O (yM_ O (yF_ O (yL_ 0 O (yF_ O ?_)))))))
   refine yL_ 0 O (aa_ (fun c=>cg_ O O g_ p_) (aa_ (fun c=>bj_ O O g_ p_) (aa_ (fun c=>ow_callA [3] O O (gNext_c L _ (lI[0].2.2 - lI[0].2.1+1) hL hLn g_)) (aa_ (fun c=>ow_exarg 130 O (fun i=>bj_ O O (by have:=i.2; omega) ⟨rfl,.refl _⟩)) (aa_ (fun c=>ow_exarg 131 O (fun i=>be_ O ⟨rfl,.refl _⟩)) (ae_ (jq_slot 17 O (fun lo=>?_))))))))
   have hlo:=lo.2
   refine al_ (jc_anyB 14 none O k_ k_ (yF_ O (yL_ 0 O (yM_ O (yM_ O (yM_ O (yF_ O (yL_ 0 O (yM_ O (aa_ (fun c=>cg_ O O g_ p_) (aa_ (fun c=>bj_ O O g_ p_) (aa_ (fun c=>ow_callA [3] O O (gNext_c L _ (lI[0].2.2 - (lI[0].2.1+lo.1)+1) hL hLn g_)) (aa_ (fun c=>ow_exarg 142 O (fun i=>bj_ O O (by have:=i.2; omega) ⟨rfl,.refl _⟩)) ?_)))))))))))))
   refine aa_ (fun c=>ow_exarg 143 O (fun i=>bu_ O O O O O ⟨rfl,.refl _⟩)) (aa_ (fun c=>ow_exarg 144 O (fun i=>bq_ O O b_ O O b_ ⟨rfl,.refl _⟩)) (ae_ (afin_none (jl_slot 145 O (fun n=>F_ O (W_ 1 O (ak_ (jq_cutS ([(⟨#[102,101,119]⟩,lI[0].1,lI[0].2.1+lo.1,lI[0].2.1+lo.1+n.1)]:List Md) (.inr ⟨lI[0],_,_,by simp,by have:=n.2; omega,rfl⟩) ?_ ?_))))))))
   ·exact bc_ 0 O (bc_ 1 O (bc_ 1 O (bc_ 1 O sub_end)))
   ·exact Ww
  ·refine as_ ?_
   (first | refine jq_row 0 (Rw nm per dln pri jit (.list (lI.map InRow)) (.list (VS.map Wrow)) (.list (ar.map ArRow)) (.list (([]:List Md).map MdRow)) NilC NilC) rfl (.cons (.refl _) (.cons (.refl _) (.cons (.refl _) (.cons (.refl _) (.cons (.refl _) (.cons (.refl _) (.cons (.refl _) (.cons (.refl _) (.cons .nil (.refl _)))))))))) ?_ | refine jq_row 1 (Rw nm per dln pri jit (.list (lI.map InRow)) (.list (VS.map Wrow)) (.list (ar.map ArRow)) (.list (([]:List Md).map MdRow)) NilC NilC) rfl (.cons (.refl _) (.cons (.refl _) (.cons (.refl _) (.cons (.refl _) (.cons (.refl _) (.cons (.refl _) (.cons (.refl _) (.cons (.refl _) (.cons .nil (.refl _)))))))))) ?_ | refine jq_row 2 (Rw nm per dln pri jit (.list (lI.map InRow)) (.list (VS.map Wrow)) (.list (ar.map ArRow)) (.list (([]:List Md).map MdRow)) NilC NilC) rfl (.cons (.refl _) (.cons (.refl _) (.cons (.refl _) (.cons (.refl _) (.cons (.refl _) (.cons (.refl _) (.cons (.refl _) (.cons (.refl _) (.cons .nil (.refl _)))))))))) ?_ | refine jq_row 3 (Rw nm per dln pri jit (.list (lI.map InRow)) (.list (VS.map Wrow)) (.list (ar.map ArRow)) (.list (([]:List Md).map MdRow)) NilC NilC) rfl (.cons (.refl _) (.cons (.refl _) (.cons (.refl _) (.cons (.refl _) (.cons (.refl _) (.cons (.refl _) (.cons (.refl _) (.cons (.refl _) (.cons .nil (.refl _)))))))))) ?_)
   refine jq_cutS ([]:List Md) (.inl O) ?_ ?_
   ·refine Y8 ?_
    exact Wy
   ·exact Ww
 intro md hmd
 have harl:ar.length≤1:=by rcases har with rfl | ⟨k,_,rfl⟩ <;> simp
 have gv:Gv L V (ar.map (·.1)) Sh:=⟨hL,hLn,hV0,hV,by rw [List.length_map]; omega,hSh⟩
 have hblk:=(maker_c (bm:=bx) (bd:=bd) gv 3 (by omega)).2.1
 refine jc_ownNil 9 1 g_ (R_ (M_ O ?_))
 have con:=hblk ⟨.slice none 0 0,0,N⟩ ⟨#[]⟩ 0 [] 3 5 ⟨⟨by dsimp only; omega,by dsimp only; omega⟩,hN.1,hN.2⟩ (by omega) (by omega) (by simp) rfl (by omega) (by omega)
 dsimp only at con
 refine o_ O (ow_callNP [2,2,0] O O (con) (fun r n hn hr=>?_))
 obtain ⟨⟨lv2,lab2,st2⟩,v2,l2⟩:=r
 obtain ⟨hok2,hf2,hl2,hsh2,hcz2⟩:=hr
 dsimp only at hl2 hsh2 hf2 ⊢
 refine jl_freezeF 148 0 O O (hf2.mono hn) ?_
 have hsz:=body_szs hsh2
 have hcz3:Mz l2 14:=by have h0:=hok2.2.1; dsimp only at hcz2 h0; exact hcz2.le (by omega)
 clear hcz2
 have hifs:=ifs_le l2
 refine F_ O (W_ 3 O (T_ (Yh ?_)))
 refine bm_ O (Ifs_c _ g_) (E_ O (T_ (am_ ?_)))
 refine jc_cut (ι:=List Clm) [] (ClG (ifsOf l2)) (fun _=>((18,.cell (.list ((ifsOf l2).map Irow))) :: Et3 bd W br bt)) (fun cl=>[.blk bt 39 (Rw nm per dln pri jit (.list (lI.map InRow)) (.list (VS.map Wrow)) (.list (ar.map ArRow)) (.list (md.map MdRow)) (.list (cl.map ClRow)) (.list (l2.map Sm.row))),Dk bd L,.blk br 39 Zt]) ?_ ?_
 ·refine am_ (jc_cut (ι:=Bool) [] (fun b=>b=true→1 < (ifsOf l2).length) (fun b=>(160,Bl b) :: ((18,.cell (.list ((ifsOf l2).map Irow))) :: Et3 bd W br bt)) (fun _=>[.blk bt 39 (Rw nm per dln pri jit (.list (lI.map InRow)) (.list (VS.map Wrow)) (.list (ar.map ArRow)) (.list (md.map MdRow)) NilC (.list (l2.map Sm.row))),Dk bd L,.blk br 39 Zt]) ?_ ?_)
  ·by_cases hl:(1:Int) < (((ifsOf l2).map Irow).length:Int)
   ·refine an_ (M_ O (o_ O (br_ O (fun hlen=>o_ O (bz_ O O (M_ O (ZS ?_)))))))
    refine bt_ [2] O O (Nx_c _ hL hLn g_) (fun k9 hk9=>?_)
    refine ah_ O u_ b_ (bn_ O O (o_ O (bp_ O u_ O (ak_ (jq_cutS (decide (k9=1)) (fun _=>by simp at hl; omega) ?_ ?_)))))
    ·exact bc_ 1 O (bc_ 0 O (bc_ 2 O sub_end))
    ·exact Ww
   ·refine an_ (M_ O (o_ O (br_ O (fun hlen=>o_ O (bz_ O O (M_ O (ai_ O w_ b_ (ai_ O w_ b_ (YA ?_)))))))))
    refine ak_ (jq_cutS false (by simp) ?_ ?_)
    ·exact bc_ 0 O (bc_ 1 O (bc_ 2 O sub_end))
    ·exact Ww
  intro b hb
  refine jc_cond O (fun hbt=>?_) (fun hbt=>?_)
  ·have hl1:=hb hbt
   have eI:((ifsOf l2).map Irow).length=(ifsOf l2).length:=List.length_map _
   refine R_ (M_ O (M_ O (o_ O (br_ O (fun hlen=>o_ O (bt_ [1] O O (Nx_c _ hL hLn g_) (fun k10 hk10=>E_ O (T_ (jc_anyB 20 none O k_ k_ (yM_ O (yM_ O (aa_ (fun c=>cv_ O O g_ g_ O O b_ p_) (aa_ (fun c=>cb_ O O p_) (yM_ O (yM_ O (aa_ (fun c=>bj_ O O g_ p_) (yM_ O ?_)))))))))))))))))
   refine yM_ O (aa_ (fun c=>br_ O (fun hlen=>p_)) (aa_ (fun c=>cg_ O O g_ p_) (aa_ (fun c=>ow_callA [0] O O (gNext_c L _ _ hL hLn g_)) (aa_ (fun c=>ow_exarg 176 O (fun i=>bj_ O O (by have:=i.2; omega) ⟨rfl,.refl _⟩)) (yM_ O (aa_ (fun c=>br_ O (fun hlen=>p_)) (aa_ (fun c=>ow_exarg 177 O (fun i=>ow_rem64 O O (by have:=i.2; omega) g_ ⟨rfl,.refl _⟩)) ?_)))))))
   have hrem:∀ i:{i:Int // 0≤i∧(i < (((ifsOf l2).map Irow).length:Int) - 1 ∨ i=0)},0≤(k10+1+i.1) % (((ifsOf l2).map Irow).length:Int)∧((k10+1+i.1) % (((ifsOf l2).map Irow).length:Int)).toNat < (ifsOf l2).length:=by
    intro i
    have h1:=Int.emod_nonneg (k10+1+i.1) (show (((ifsOf l2).map Irow).length:Int)≠0 by omega)
    have h2:=Int.emod_lt_of_pos (k10+1+i.1) (show (0:Int) < (((ifsOf l2).map Irow).length:Int) by omega)
    omega
   have hne:∀ i:{i:Int // 0≤i∧(i < (((ifsOf l2).map Irow).length:Int) - 1 ∨ i=0)},k10.toNat≠((k10+1+i.1) % (((ifsOf l2).map Irow).length:Int)).toNat:=by
    intro i h
    have hi:=i.2
    have h1:=hrem i
    have h2:(k10+1+i.1) % (((ifsOf l2).map Irow).length:Int)=k10:=by omega
    have h3:=Int.emod_emod_of_dvd (k10+1+i.1) (Int.dvd_refl (((ifsOf l2).map Irow).length:Int))
    have h4:(1+i.1) % (((ifsOf l2).map Irow).length:Int)=0:=by
     have h5:=Int.sub_emod (k10+1+i.1) k10 (((ifsOf l2).map Irow).length:Int)
     rw [h2,show k10 % (((ifsOf l2).map Irow).length:Int)=k10 from Int.emod_eq_of_lt (by omega) (by omega),Int.sub_self,Int.zero_emod,show k10+1+i.1 - k10=1+i.1 by omega] at h5
     exact h5
    rw [Int.emod_eq_of_lt (by omega) (by omega)] at h4
    omega
   refine aa_ (fun c=>ow_exarg 180 O (fun i=>cv_ O O (hrem i).1 (hrem i).2 O O b_ ⟨rfl,.refl _⟩)) (aa_ (fun c=>ow_exarg 181 O (fun i=>cb_ O O ⟨rfl,.refl _⟩)) (aa_ (fun c=>ow_exarg 182 O (fun i=>bu_ O O O O O ⟨rfl,.refl _⟩)) (aa_ (fun c=>ow_exarg 183 O (fun i=>bq_ O O b_ O O b_ ⟨rfl,.refl _⟩)) (ae_ (afin_none (jl_slot 184 O (fun i=>F_ O (W_ 1 O (ak_ ?_)))))))))
   refine jq_cutS ([((ifsOf l2)[k10.toNat]'g_,(ifsOf l2)[((k10+1+i.1) % (((ifsOf l2).map Irow).length:Int)).toNat]'(hrem i).2)]:List Clm) (.inr ⟨_,_,by omega,(hrem i).2,hne i,rfl⟩) ?_ ?_
   ·exact WG
   ·exact Ww
  ·refine as_ ?_
   (first | refine jq_row 0 (Rw nm per dln pri jit (.list (lI.map InRow)) (.list (VS.map Wrow)) (.list (ar.map ArRow)) (.list (md.map MdRow)) (.list (([]:List Clm).map ClRow)) (.list (l2.map Sm.row))) rfl (.cons (.refl _) (.cons (.refl _) (.cons (.refl _) (.cons (.refl _) (.cons (.refl _) (.cons (.refl _) (.cons (.refl _) (.cons (.refl _) (.cons (.refl _) (.cons .nil (.refl _))))))))))) ?_ | refine jq_row 1 (Rw nm per dln pri jit (.list (lI.map InRow)) (.list (VS.map Wrow)) (.list (ar.map ArRow)) (.list (md.map MdRow)) (.list (([]:List Clm).map ClRow)) (.list (l2.map Sm.row))) rfl (.cons (.refl _) (.cons (.refl _) (.cons (.refl _) (.cons (.refl _) (.cons (.refl _) (.cons (.refl _) (.cons (.refl _) (.cons (.refl _) (.cons (.refl _) (.cons .nil (.refl _))))))))))) ?_ | refine jq_row 2 (Rw nm per dln pri jit (.list (lI.map InRow)) (.list (VS.map Wrow)) (.list (ar.map ArRow)) (.list (md.map MdRow)) (.list (([]:List Clm).map ClRow)) (.list (l2.map Sm.row))) rfl (.cons (.refl _) (.cons (.refl _) (.cons (.refl _) (.cons (.refl _) (.cons (.refl _) (.cons (.refl _) (.cons (.refl _) (.cons (.refl _) (.cons (.refl _) (.cons .nil (.refl _))))))))))) ?_ | refine jq_row 3 (Rw nm per dln pri jit (.list (lI.map InRow)) (.list (VS.map Wrow)) (.list (ar.map ArRow)) (.list (md.map MdRow)) (.list (([]:List Clm).map ClRow)) (.list (l2.map Sm.row))) rfl (.cons (.refl _) (.cons (.refl _) (.cons (.refl _) (.cons (.refl _) (.cons (.refl _) (.cons (.refl _) (.cons (.refl _) (.cons (.refl _) (.cons (.refl _) (.cons .nil (.refl _))))))))))) ?_)
   refine jq_cutS ([]:List Clm) (.inl O) ?_ ?_
   ·exact WG
   ·exact Ww
 intro cl hcl
 refine am_ (jc_cut (ι:=List Sm × List Clm) [] (fun i=>(∃ n,i.1=l2.take n)∧ClG (ifsOf i.1) i.2∧wAll 20 i.1 0≤W) (fun _=>((18,.cell (.list ((ifsOf l2).map Irow))) :: Et3 bd W br bt)) (fun i=>[.blk bt 39 (Rw nm per dln pri jit (.list (lI.map InRow)) (.list (VS.map Wrow)) (.list (ar.map ArRow)) (.list (md.map MdRow)) (.list (i.2.map ClRow)) (.list (i.1.map Sm.row))),Dk bd L,.blk br 39 Zt]) ?_ ?_)
 ·refine au_ ?_
  refine jc_loopS (ι:=List Sm × List Clm) [] (fun i=>(∃ n,i.1=l2.take n)∧ClG (ifsOf i.1) i.2) (fun _=>((18,.cell (.list ((ifsOf l2).map Irow))) :: Et3 bd W br bt)) (fun i=>[.blk bt 39 (Rw nm per dln pri jit (.list (lI.map InRow)) (.list (VS.map Wrow)) (.list (ar.map ArRow)) (.list (md.map MdRow)) (.list (i.2.map ClRow)) (.list (i.1.map Sm.row))),Dk bd L,.blk br 39 Zt]) (fun i=>i.1.length) (l2,cl) ⟨⟨l2.length,by simp⟩,hcl⟩ ?_ ?_ ?_
  ·exact WG
  ·exact Ww
  ·rintro ⟨l,cl⟩ ⟨⟨nT,hl10⟩,hsh⟩
   dsimp only at hl10 hsh ⊢
   have hll:l.length≤l2.length:=by rw [hl10,List.length_take]; omega
   have eL:(l.map Sm.row).length=l.length:=List.length_map _
   by_cases hl:(0:Int) < ((l.map Sm.row).length:Int)
   ·refine am_ (Yh ?_)
    refine br_ O (fun hlen=>o_ O (bz_ O O (M_ O (ZW ?_))))
    refine bm_ O (rWeight_c _) (Yq ?_)
    refine bz_ O O (o_ O (bp_ O u_ O (T_ (jc_condd O (fun hw=>?_) (fun hw=>?_)))))
    ·refine as_ (al_ (au_ (an_ (F_ O (L_ 0 O (F_ O (L_ 0 O (o_ O (br_ O (fun hlen=>o_ O (cg_ O O g_ (o_ O (ow_prefix O O g_ g_ (F_ O (W_ 0 O (F_ O (W_ 0 O (ak_ ?_))))))))))))))))))
     refine ay_ ?_
     rw [show List.take ((((l.map Sm.row).length:Nat):Int) - 1).toNat (l.map Sm.row)=(l.take (l.length - 1)).map Sm.row by
      rw [List.map_take,eL]; congr 1; omega]
     skip
     (first | refine jq_row 0 (Rw nm per dln pri jit (.list (lI.map InRow)) (.list (VS.map Wrow)) (.list (ar.map ArRow)) (.list (md.map MdRow)) (.list (([]:List Clm).map ClRow)) (.list ((l.take (l.length - 1)).map Sm.row))) rfl (.cons (.refl _) (.cons (.refl _) (.cons (.refl _) (.cons (.refl _) (.cons (.refl _) (.cons (.refl _) (.cons (.refl _) (.cons (.refl _) (.cons (.refl _) (.cons .nil (.refl _))))))))))) ?_ | refine jq_row 1 (Rw nm per dln pri jit (.list (lI.map InRow)) (.list (VS.map Wrow)) (.list (ar.map ArRow)) (.list (md.map MdRow)) (.list (([]:List Clm).map ClRow)) (.list ((l.take (l.length - 1)).map Sm.row))) rfl (.cons (.refl _) (.cons (.refl _) (.cons (.refl _) (.cons (.refl _) (.cons (.refl _) (.cons (.refl _) (.cons (.refl _) (.cons (.refl _) (.cons (.refl _) (.cons .nil (.refl _))))))))))) ?_ | refine jq_row 2 (Rw nm per dln pri jit (.list (lI.map InRow)) (.list (VS.map Wrow)) (.list (ar.map ArRow)) (.list (md.map MdRow)) (.list (([]:List Clm).map ClRow)) (.list ((l.take (l.length - 1)).map Sm.row))) rfl (.cons (.refl _) (.cons (.refl _) (.cons (.refl _) (.cons (.refl _) (.cons (.refl _) (.cons (.refl _) (.cons (.refl _) (.cons (.refl _) (.cons (.refl _) (.cons .nil (.refl _))))))))))) ?_ | refine jq_row 3 (Rw nm per dln pri jit (.list (lI.map InRow)) (.list (VS.map Wrow)) (.list (ar.map ArRow)) (.list (md.map MdRow)) (.list (([]:List Clm).map ClRow)) (.list ((l.take (l.length - 1)).map Sm.row))) rfl (.cons (.refl _) (.cons (.refl _) (.cons (.refl _) (.cons (.refl _) (.cons (.refl _) (.cons (.refl _) (.cons (.refl _) (.cons (.refl _) (.cons (.refl _) (.cons .nil (.refl _))))))))))) ?_)
     refine jq_againS (i:=(l,cl)) (l.take (l.length - 1),[]) ⟨⟨min (l.length - 1) nT,by dsimp only; rw [hl10,List.take_take]⟩,.inl rfl⟩ (by simp; omega) ?_ ?_
     ·exact WG
     ·exact Ww
    ·refine av_ (ax_ (ax_ (ba_ (jq_cutS (l,cl) ⟨⟨nT,hl10⟩,hsh,by dsimp only; omega⟩ ?_ ?_))))
     ·exact WG
     ·exact Ww
   ·have hl0:l=[]:=List.eq_nil_of_length_eq_zero (by omega)
    subst hl0
    refine am_ (Yh ?_)
    refine br_ O (fun hlen=>o_ O (bz_ O O (M_ O (Zd ?_))))
    refine ai_ O O b_ (o_ O (bv_ O O O (T_ (jc_cond rfl (fun h=>by cases h) (fun _=>av_ ?_)))))
    refine ax_ (ax_ (ba_ (jq_cutS ([],cl) ⟨⟨nT,hl10⟩,hsh,by simp only [wAll]; omega⟩ ?_ ?_)))
    ·exact WG
    ·exact Ww
 rintro ⟨l,cl⟩ ⟨⟨nT,hl10⟩,hsh,hwt⟩
 dsimp only at hl10 hsh hwt ⊢
 have hsz2:Sm.szs l≤635:=by rw [hl10]; exact Nat.le_trans (Sm.szs_take _ _) hsz
 have hifs2:=ifs_le l
 refine am_ (jc_cut (ι:=List Clm) [] (ClG (ifsOf l)) (fun _=>Et3 bd W br bt) (fun cl=>[.blk bt 39 (Rw nm per dln pri jit (.list (lI.map InRow)) (.list (VS.map Wrow)) (.list (ar.map ArRow)) (.list (md.map MdRow)) (.list (cl.map ClRow)) (.list (l.map Sm.row))),Dk bd L,.blk br 39 Zt]) ?_ ?_)
 ·by_cases hl:(0:Int) < ((cl.map ClRow).length:Int)
  ·refine Yh ?_
   refine br_ O (fun hlen=>o_ O (bz_ O O (M_ O (ZW ?_))))
   refine bm_ O (Ifs_c _ g_) (ah_ O u_ b_ (br_ O (fun hlen=>Yq ?_)))
   refine br_ O (fun hlen=>ah_ O u_ b_ (bx_ O O (o_ O (bp_ O u_ O (T_ (jc_cond O (fun _=>?_) (fun _=>?_)))))))
   ·refine an_ (F_ O (W_ 0 O (ak_ ?_)))
    (first | refine jq_row 0 (Rw nm per dln pri jit (.list (lI.map InRow)) (.list (VS.map Wrow)) (.list (ar.map ArRow)) (.list (md.map MdRow)) (.list (([]:List Clm).map ClRow)) (.list (l.map Sm.row))) rfl (.cons (.refl _) (.cons (.refl _) (.cons (.refl _) (.cons (.refl _) (.cons (.refl _) (.cons (.refl _) (.cons (.refl _) (.cons (.refl _) (.cons (.refl _) (.cons .nil (.refl _))))))))))) ?_ | refine jq_row 1 (Rw nm per dln pri jit (.list (lI.map InRow)) (.list (VS.map Wrow)) (.list (ar.map ArRow)) (.list (md.map MdRow)) (.list (([]:List Clm).map ClRow)) (.list (l.map Sm.row))) rfl (.cons (.refl _) (.cons (.refl _) (.cons (.refl _) (.cons (.refl _) (.cons (.refl _) (.cons (.refl _) (.cons (.refl _) (.cons (.refl _) (.cons (.refl _) (.cons .nil (.refl _))))))))))) ?_ | refine jq_row 2 (Rw nm per dln pri jit (.list (lI.map InRow)) (.list (VS.map Wrow)) (.list (ar.map ArRow)) (.list (md.map MdRow)) (.list (([]:List Clm).map ClRow)) (.list (l.map Sm.row))) rfl (.cons (.refl _) (.cons (.refl _) (.cons (.refl _) (.cons (.refl _) (.cons (.refl _) (.cons (.refl _) (.cons (.refl _) (.cons (.refl _) (.cons (.refl _) (.cons .nil (.refl _))))))))))) ?_ | refine jq_row 3 (Rw nm per dln pri jit (.list (lI.map InRow)) (.list (VS.map Wrow)) (.list (ar.map ArRow)) (.list (md.map MdRow)) (.list (([]:List Clm).map ClRow)) (.list (l.map Sm.row))) rfl (.cons (.refl _) (.cons (.refl _) (.cons (.refl _) (.cons (.refl _) (.cons (.refl _) (.cons (.refl _) (.cons (.refl _) (.cons (.refl _) (.cons (.refl _) (.cons .nil (.refl _))))))))))) ?_)
    refine jq_cutS ([]:List Clm) (.inl O) ?_ ?_
    ·exact WG
    ·exact Ww
   ·refine as_ (jq_cutS cl hsh ?_ ?_)
    ·exact WG
    ·exact Ww
  ·refine Yh ?_
   refine br_ O (fun hlen=>o_ O (bz_ O O (M_ O (Zg ?_))))
   refine ai_ O w_ b_ (ai_ O w_ b_ (YA ?_))
   refine T_ (jc_cond rfl (fun h=>by cases h) (fun _=>?_))
   refine as_ (jq_cutS cl hsh ?_ ?_)
   ·exact WG
   ·exact Ww
 clear hsh
 intro cl hcl2
 refine R_ (A_ 0 O (S_ 2 O (T_ (ar_ ?_))))
 have fin:TaskG Sh nm W ⟨nm,per,dln,pri,jit,lI,VS,ar,md,cl,l⟩:=⟨rfl,hper2,hdln2,hpri2,hjit2,⟨by dsimp only; omega,by dsimp only; rw [hlI]; exact hokI⟩,rfl,har,hmd,hcl2,⟨lab2,l2,nT,by dsimp only; rw [← hlVI,hVe]; exact hsh2,hl10⟩,hwt,by dsimp only; rw [hl10]; exact hcz3.take _⟩
 (first | refine jq_retRowS rfl rfl rfl rfl 0 rfl (fun K h=>h _ fin) ?_ | refine jq_retRowS rfl rfl rfl rfl 1 rfl (fun K h=>h _ fin) ?_ | refine jq_retRowS rfl rfl rfl rfl 2 rfl (fun K h=>h _ fin) ?_)
 exact bc_ 2 O sub_end
end
end Go.Proofs.YtalkkcfojplmdaaGreatDoor
end
section
namespace Go.Proofs.YtalkkcfojplmdaaGreatDoor
open Go.Vc
set_option maxHeartbeats 8000000
attribute [local irreducible] JL JC JQ OpWp Con ConN
abbrev Nr:ByteArray:=⟨#[114]⟩
abbrev Ns:ByteArray:=⟨#[115]⟩
def RSl:Nat→List ByteArray
 | 0=>[]
 | 1=>[Ns]
 | _=>[Nr,Ns]
def ShG (R:List ByteArray) (l:List Shd):Prop:=l=[] ∨ ∃ (r:ByteArray) (k:Nat),R[0]?=some r∧k≤3∧l=[(⟨#[98,117,102]⟩,2 ^ k,r)]
def nmT (i:Nat):ByteArray:=⟨#[116]⟩ ++ bytesOf [97+(i:Int)]
structure PgG (T:Nat) (W:Int) (p:Pg):Prop where
 res:∃ n,n≤2∧p.res=RSl n
 shared:ShG p.res p.shared
 len:p.tasks.length=T
 tasks:∀ (i:Nat) (h:i < p.tasks.length),TaskG p.shared (nmT i) W p.tasks[i]
section
variable {L:List Int} {bd:Nat}
theorem programs_c (hL:InR L) (hLn:L.length≤400) (T W N:Int) (hT:0≤T∧T≤6) (hW:0≤W∧W≤1000000) (hN:0≤N∧N≤14) :
 Con Tryz.prog 44 [Ptr bd,In .i64 T,In .i64 W,In .i64 N] [Dk bd L] (fun K=>∀ p:Pg,PgG T.toNat W p→K (.row p.row) [Dk bd L]):=by
 refine con_intro Tryz.func44 O O b_ (fun c hc=>R_ (o_ O (bl_ O O (fun b8=>T_ (R_ (o_ O (bl_ O O (fun b9=>T_ (am_ (R_ (M_ O (o_ O (bt_ [2] O O (Nx_c _ hL hLn g_) (fun k1 hk1=>E_ O (T_ (jc_ownNil 9 1 g_ ?_))))))))))))))))
 obtain ⟨n1,hn1⟩:∃ n:Nat,k1=(n:Int):=⟨k1.toNat,by omega⟩
 subst hn1
 have hn12:n1≤2:=by omega
 refine jc_cut (ι:=Value × List ByteArray) [] (fun i=>c.Fresh i.1∧i.2=RSl n1) (fun _=>[(0,Ptr bd),(1,In .i64 T),(2,In .i64 W),(3,In .i64 N),(8,Ptr b8),(9,Ptr b9)])
  (fun i=>[.blk b9 31 [.val i.1,NilC,NilC],.own i.1 9 1 (i.2.map Wrow),Dk bd L,.blk b8 31 [NilC,NilC,NilC]]) ?_ ?_
 ·refine au_ ?_
  refine jc_loopS (ι:=Nat × Value × List ByteArray) [] (fun i=>i.1≤n1∧c.Fresh i.2.1∧i.2.2=(RSl n1).take (n1 - i.1)) (fun i=>(10,In .i64 (i.1:Int)) :: [(0,Ptr bd),(1,In .i64 T),(2,In .i64 W),(3,In .i64 N),(8,Ptr b8),(9,Ptr b9)])
   (fun i=>[.blk b9 31 [.val i.2.1,NilC,NilC],.own i.2.1 9 1 (i.2.2.map Wrow),Dk bd L,.blk b8 31 [NilC,NilC,NilC]]) (fun i=>i.1) (n1,.slice none 0 0,[]) ⟨Nat.le_refl _,fresh_nil,by simp⟩ ?_ ?_ ?_
  ·exact bc_ 2 O (bc_ 0 O (bc_ 0 O (bc_ 0 O sub_end)))
  ·exact Ww
  ·rintro ⟨k,vR,lR⟩ ⟨hk,hfR,hlR⟩
   dsimp only at hk hfR hlR ⊢
   by_cases hk0:k=0
   ·subst hk0
    refine am_ (R_ (M_ O (o_ O (bz_ O O (T_ (jc_cond rfl (fun h=>by cases h) (fun _=>av_ (ax_ (ax_ (ba_ (jq_cutS (vR,lR) ⟨hfR,by dsimp only; rw [hlR,List.take_of_length_le]; rcases n1 with _ | _ | _ | n <;> simp [RSl]⟩ ?_ ?_)))))))))))
    ·refine Y8 ?_
     exact Wy
    ·exact Ww
   have hlR2:lR.length≤2:=by rw [hlR,List.length_take]; omega
   have hcase:(n1=1∧k=1) ∨ (n1=2∧k=1) ∨ (n1=2∧k=2):=by omega
   rcases hcase with ⟨rfl,rfl⟩ | ⟨rfl,rfl⟩ | ⟨rfl,rfl⟩
   ·refine Wp ?_
    refine T_ (jc_condd O (fun _=>as_ (al_ (B_ (jc_anyB 8 none O k_ k_ (yF_ O (yL_ 0 O (aa_ (fun c=>bq_ O O b_ O O b_ p_) (yM_ O (aa_ (fun c=>ow_rem64 O O g_ g_ p_) (aa_ (fun c=>ow_indexAddr O O g_ O O b_ p_) ?_)))))))))) (fun h=>by omega))
    refine aa_ (fun c=>cb_ O O p_) (Z7 ?_)
    (first | refine jl_op (ow_append1F 1 (⟨#[115]⟩) rfl rfl rfl rfl rfl rfl rfl (fun _=>rfl) (by show (_+_) * 16≤_; first | omega | (simp only [List.length_append]; omega)) (by first | omega | (simp only [List.length_append]; omega)) (fun vR1 hvR1 fvR1=>?_)) (nb rfl) | refine jl_op (ow_append1F 2 (⟨#[115]⟩) rfl rfl rfl rfl rfl rfl rfl (fun _=>rfl) (by show (_+_) * 16≤_; first | omega | (simp only [List.length_append]; omega)) (by first | omega | (simp only [List.length_append]; omega)) (fun vR1 hvR1 fvR1=>?_)) (nb rfl) | refine jl_op (ow_append1F 0 (⟨#[115]⟩) rfl rfl rfl rfl rfl rfl rfl (fun _=>rfl) (by show (_+_) * 16≤_; first | omega | (simp only [List.length_append]; omega)) (by first | omega | (simp only [List.length_append]; omega)) (fun vR1 hvR1 fvR1=>?_)) (nb rfl))
    refine F_ O (W_ 1 O (ak_ (ay_ (al_ (an_ (M_ O (o_ O (cg_ O O g_ (E_ O (ak_ (jq_againS (i:=(1,vR,lR)) (0,vR1,lR ++ [⟨#[115]⟩]) ⟨by dsimp only; omega,fvR1 hfR,by dsimp only; rw [hlR]; rfl⟩ (by dsimp only; omega) ?_ ?_)))))))))))
    ·refine Y8 ?_
     exact Wy
    ·exact Ww
   ·refine Wp ?_
    refine T_ (jc_condd O (fun _=>as_ (al_ (B_ (jc_anyB 8 none O k_ k_ (yF_ O (yL_ 0 O (aa_ (fun c=>bq_ O O b_ O O b_ p_) (yM_ O (aa_ (fun c=>ow_rem64 O O g_ g_ p_) (aa_ (fun c=>ow_indexAddr O O g_ O O b_ p_) ?_)))))))))) (fun h=>by omega))
    refine aa_ (fun c=>cb_ O O p_) (Z7 ?_)
    (first | refine jl_op (ow_append1F 1 (⟨#[115]⟩) rfl rfl rfl rfl rfl rfl rfl (fun _=>rfl) (by show (_+_) * 16≤_; first | omega | (simp only [List.length_append]; omega)) (by first | omega | (simp only [List.length_append]; omega)) (fun vR1 hvR1 fvR1=>?_)) (nb rfl) | refine jl_op (ow_append1F 2 (⟨#[115]⟩) rfl rfl rfl rfl rfl rfl rfl (fun _=>rfl) (by show (_+_) * 16≤_; first | omega | (simp only [List.length_append]; omega)) (by first | omega | (simp only [List.length_append]; omega)) (fun vR1 hvR1 fvR1=>?_)) (nb rfl) | refine jl_op (ow_append1F 0 (⟨#[115]⟩) rfl rfl rfl rfl rfl rfl rfl (fun _=>rfl) (by show (_+_) * 16≤_; first | omega | (simp only [List.length_append]; omega)) (by first | omega | (simp only [List.length_append]; omega)) (fun vR1 hvR1 fvR1=>?_)) (nb rfl))
    refine F_ O (W_ 1 O (ak_ (ay_ (al_ (an_ (M_ O (o_ O (cg_ O O g_ (E_ O (ak_ (jq_againS (i:=(1,vR,lR)) (0,vR1,lR ++ [⟨#[115]⟩]) ⟨by dsimp only; omega,fvR1 hfR,by dsimp only; rw [hlR]; rfl⟩ (by dsimp only; omega) ?_ ?_)))))))))))
    ·refine Y8 ?_
     exact Wy
    ·exact Ww
   ·refine Wp ?_
    refine T_ (jc_condd O (fun _=>as_ (al_ (B_ (jc_anyB 8 none O k_ k_ (yF_ O (yL_ 0 O (aa_ (fun c=>bq_ O O b_ O O b_ p_) (yM_ O (aa_ (fun c=>ow_rem64 O O g_ g_ p_) (aa_ (fun c=>ow_indexAddr O O g_ O O b_ p_) ?_)))))))))) (fun h=>by omega))
    refine aa_ (fun c=>cb_ O O p_) (Z7 ?_)
    (first | refine jl_op (ow_append1F 1 (⟨#[114]⟩) rfl rfl rfl rfl rfl rfl rfl (fun _=>rfl) (by show (_+_) * 16≤_; first | omega | (simp only [List.length_append]; omega)) (by first | omega | (simp only [List.length_append]; omega)) (fun vR1 hvR1 fvR1=>?_)) (nb rfl) | refine jl_op (ow_append1F 2 (⟨#[114]⟩) rfl rfl rfl rfl rfl rfl rfl (fun _=>rfl) (by show (_+_) * 16≤_; first | omega | (simp only [List.length_append]; omega)) (by first | omega | (simp only [List.length_append]; omega)) (fun vR1 hvR1 fvR1=>?_)) (nb rfl) | refine jl_op (ow_append1F 0 (⟨#[114]⟩) rfl rfl rfl rfl rfl rfl rfl (fun _=>rfl) (by show (_+_) * 16≤_; first | omega | (simp only [List.length_append]; omega)) (by first | omega | (simp only [List.length_append]; omega)) (fun vR1 hvR1 fvR1=>?_)) (nb rfl))
    refine F_ O (W_ 1 O (ak_ (ay_ (al_ (an_ (M_ O (o_ O (cg_ O O g_ (E_ O (ak_ (jq_againS (i:=(2,vR,lR)) (1,vR1,lR ++ [⟨#[114]⟩]) ⟨by dsimp only; omega,fvR1 hfR,by dsimp only; rw [hlR]; rfl⟩ (by dsimp only; omega) ?_ ?_)))))))))))
    ·refine Y8 ?_
     exact Wy
    ·exact Ww
 rintro ⟨vR,lR⟩ ⟨hfR,hlR⟩
 dsimp only at hfR hlR ⊢
 have hlR2:lR.length≤2:=by rw [hlR]; rcases n1 with _ | _ | _ | n <;> simp [RSl]
 refine jc_freezeB 1 0 0 O O hfR (am_ (jc_cut (ι:=List Shd) [] (ShG lR) (fun _=>[(0,Ptr bd),(1,In .i64 T),(2,In .i64 W),(3,In .i64 N),(8,Ptr b8),(9,Ptr b9)]) (fun Sh=>[.blk b9 31 [.list (lR.map Wrow),.list (Sh.map ShRow),NilC],Dk bd L,.blk b8 31 [NilC,NilC,NilC]]) ?_ ?_))
 ·refine am_ (jc_cut (ι:=Bool) [] (fun b=>b=true→0 < lR.length) (fun b=>(36,Bl b) :: [(0,Ptr bd),(1,In .i64 T),(2,In .i64 W),(3,In .i64 N),(8,Ptr b8),(9,Ptr b9)]) (fun _=>[.blk b9 31 [.list (lR.map Wrow),NilC,NilC],Dk bd L,.blk b8 31 [NilC,NilC,NilC]]) ?_ ?_)
  ·by_cases hl:(0:Int) < ((lR.map Wrow).length:Int)
   ·refine an_ (F_ O (L_ 0 O (o_ O (br_ O (fun hlen=>o_ O (bz_ O O (M_ O (ZS ?_))))))))
    refine bt_ [1] O O (Nx_c _ hL hLn g_) (fun k9 hk9=>?_)
    refine ah_ O u_ b_ (bn_ O O (o_ O (bp_ O u_ O (ak_ (jq_cutS (decide (k9=1)) (fun _=>by simp at hl; omega) ?_ ?_)))))
    ·exact bc_ 1 O (bc_ 0 O (bc_ 0 O sub_end))
    ·exact Ww
   ·refine an_ (F_ O (L_ 0 O (o_ O (br_ O (fun hlen=>o_ O (bz_ O O (M_ O (ai_ O w_ b_ (ai_ O w_ b_ (YA ?_))))))))))
    refine ak_ (jq_cutS false (by simp) ?_ ?_)
    ·exact WG
    ·exact Ww
  intro b hb
  refine jc_cond O (fun hbt=>?_) (fun hbt=>?_)
  ·have hl0:=hb hbt
   refine jc_ownNil 86 3 g_ ?_
   skip
   refine jc_anyB 13 none O k_ k_ (yF_ O (yL_ 1 O (yM_ O (aa_ (fun c=>ow_callA [2] O O (gNext_c L _ _ hL hLn g_)) (aa_ (fun c=>ow_exarg 40 O (fun i=>ow_convU64 O O O (by have:=i.2; omega) ⟨rfl,.refl _⟩)) ?_)))))
   refine aa_ (fun c=>ow_exarg 41 O (fun i:{i:Int // 0≤i∧(i < 4 ∨ i=0)}=>ow_shl64 (n:=i.1) O O (by have:=i.2; omega) (by have:=i.2; have:=pow_bd i.1 g_; omega) ⟨rfl,.refl _⟩)) (aa_ (fun c=>ow_exarg 42 O (fun i=>bu_ O O O O O ⟨rfl,.refl _⟩)) (yF_ O (yL_ 1 O (aa_ (fun c=>cc_ (k:=0) O O hl0 O O b_ ⟨rfl,.refl _⟩) (aa_ (fun c=>cb_ O O p_) ?_)))))
   refine aa_ (fun c=>ow_exarg 43 O (fun i=>bu_ O O O O O ⟨rfl,.refl _⟩)) (aa_ (fun c=>ow_exarg 48 O (fun i=>bq_ O O b_ O O b_ ⟨rfl,.refl _⟩)) (ae_ (afin_none (jl_slot 49 O (fun n=>o_ O (ow_append1F (f:=ShRow) (l1:=[]) 0 (⟨#[98,117,102]⟩,1 * 2 ^ n.1.toNat,lR[0]) O O O O O O O (fun _=>O) (by show (0+1) * 40≤_; omega) (by simp) (fun vS hvS fvS=>?_)))))))
   refine jl_freezeF 50 0 O O (fvS fresh_nil) (F_ O (W_ 0 O (ak_ ?_)))
   (first | refine jq_row 0 [.list (lR.map Wrow),.list ([((⟨#[98,117,102]⟩:ByteArray),(1:Int) * 2 ^ n.1.toNat,lR[0])].map ShRow),NilC] rfl (.cons (.refl _) (.refl _)) ?_ | refine jq_row 1 [.list (lR.map Wrow),.list ([((⟨#[98,117,102]⟩:ByteArray),(1:Int) * 2 ^ n.1.toNat,lR[0])].map ShRow),NilC] rfl (.cons (.refl _) (.refl _)) ?_)
   refine jq_cutS [((⟨#[98,117,102]⟩:ByteArray),(1:Int) * 2 ^ n.1.toNat,lR[0])] (.inr ⟨lR[0],n.1.toNat,by simp,by have:=n.2; omega,by rw [Int.one_mul]⟩) ?_ ?_
   ·exact WG
   ·exact Ww
  ·refine as_ ?_
   (first | refine jq_row 0 [.list (lR.map Wrow),.list (([]:List Shd).map ShRow),NilC] rfl (.cons (.refl _) (.cons .nil (.refl _))) ?_ | refine jq_row 1 [.list (lR.map Wrow),.list (([]:List Shd).map ShRow),NilC] rfl (.cons (.refl _) (.cons .nil (.refl _))) ?_)
   refine jq_cutS ([]:List Shd) (.inl O) ?_ ?_
   ·exact WG
   ·exact Ww
 intro Sh hSh
 have hShl:Sh.length≤1:=by rcases hSh with rfl | ⟨r,k,_,_,rfl⟩ <;> simp
 have tk:=fun nm=>con_toEx (task_c (Sh:=Sh) (bd:=bd) hL hLn (by omega) nm W N hW hN)
 refine jc_ownNil 39 11 g_ (am_ (R_ (E_ O (T_ ?_))))
 refine jc_cut (ι:=Value × List Tk) [] (fun i=>c.Fresh i.1∧i.2.length=T.toNat∧∀ (j:Nat) (h:j < i.2.length),TaskG Sh (nmT j) W i.2[j]) (fun _=>[(0,Ptr bd),(1,In .i64 T),(2,In .i64 W),(3,In .i64 N),(8,Ptr b8),(9,Ptr b9)])
  (fun i=>[.blk b9 31 [.list (lR.map Wrow),.list (Sh.map ShRow),.val i.1],.own i.1 39 11 (i.2.map Tk.row),Dk bd L,.blk b8 31 [NilC,NilC,NilC]]) ?_ ?_
 ·refine au_ ?_
  refine jc_loopS (ι:=Nat × Value × List Tk) [] (fun i=>i.1≤T.toNat∧c.Fresh i.2.1∧i.2.2.length=i.1∧∀ (j:Nat) (h:j < i.2.2.length),TaskG Sh (nmT j) W i.2.2[j]) (fun i=>(11,In .i64 (i.1:Int)) :: [(0,Ptr bd),(1,In .i64 T),(2,In .i64 W),(3,In .i64 N),(8,Ptr b8),(9,Ptr b9)])
   (fun i=>[.blk b9 31 [.list (lR.map Wrow),.list (Sh.map ShRow),.val i.2.1],.own i.2.1 39 11 (i.2.2.map Tk.row),Dk bd L,.blk b8 31 [NilC,NilC,NilC]]) (fun i=>T.toNat - i.1) (0,.slice none 0 0,[]) ⟨Nat.zero_le _,fresh_nil,rfl,by simp⟩ ?_ ?_ ?_
  ·exact bc_ 1 O (bc_ 0 O (bc_ 0 O (bc_ 0 O sub_end)))
  ·exact Ww
  ·rintro ⟨k,vT,ls⟩ ⟨hk,hfT,hls,hg⟩
   dsimp only at hk hfT hls hg ⊢
   refine Yu ?_
   refine o_ O (bw_ O O (T_ (jc_condd O (fun hlt=>?_) (fun hge=>?_))))
   ·refine as_ (al_ (B_ (jc_anyB 15 none O k_ k_ (yF_ O (yL_ 0 O (yM_ O (yM_ O (aa_ (fun c=>bj_ O O g_ p_) (aa_ (fun c=>ow_convU8 O O O g_ p_) (aa_ (fun c=>bq_ O O b_ O O b_ p_) (aa_ (fun c=>ow_bytesToString (l:=[_]) O O O p_) (aa_ (fun c=>ow_strcat rfl O (by show 1+1≤9223372036854775807; omega) ⟨rfl,.refl _⟩) (yF_ O (yL_ 0 O (yM_ O ?_)))))))))))))))
    refine yM_ O (aa_ (fun c=>ow_callA [2] O O (tk _)) (aa_ (fun c=>ow_exarg 70 O (fun i=>bq_ O O b_ O O b_ ⟨rfl,.refl _⟩)) (ae_ (afin_none (jl_slot 71 O (fun l=>?_))))))
    (first | refine jl_op (ow_append1F 1 (l.1) rfl rfl rfl rfl rfl rfl rfl (fun _=>rfl) (by show (_+_) * 192≤_; first | omega | (simp only [List.length_append]; omega)) (by first | omega | (simp only [List.length_append]; omega)) (fun vT1 hvT1 fvT1=>?_)) (nb rfl) | refine jl_op (ow_append1F 2 (l.1) rfl rfl rfl rfl rfl rfl rfl (fun _=>rfl) (by show (_+_) * 192≤_; first | omega | (simp only [List.length_append]; omega)) (by first | omega | (simp only [List.length_append]; omega)) (fun vT1 hvT1 fvT1=>?_)) (nb rfl))
    refine F_ O (W_ 1 O (ak_ (Zk ?_)))
    refine jq_againS (i:=(k,vT,ls)) (k+1,vT1,ls ++ [l.1]) ⟨by dsimp only; omega,fvT1 hfT,by simp [hls],?_⟩ (by dsimp only; omega) ?_ ?_
    ·intro j hj
     simp only [List.length_append,List.length_cons,List.length_nil] at hj
     dsimp only
     by_cases hjl:j < ls.length
     ·rw [List.getElem_append_left hjl]
      exact hg j hjl
     ·have hjk:j=k:=by omega
      subst hjk
      rw [List.getElem_append_right (by omega)]
      simp only [List.getElem_singleton]
      exact l.2
    ·refine Y8 ?_
     exact Wy
    ·exact Ww
   ·refine av_ (ax_ (ax_ (ba_ (jq_cutS (vT,ls) ⟨hfT,by dsimp only; omega,hg⟩ ?_ ?_))))
    ·refine Y8 ?_
     exact Wy
    ·exact Ww
 rintro ⟨vT,ls⟩ ⟨hfT,hls,hg⟩
 dsimp only at hfT hls hg ⊢
 refine jc_freezeB 1 0 2 O O hfT (R_ (A_ 0 O (S_ 2 O (T_ (ar_ ?_)))))
 (first | refine jq_retRowS rfl rfl rfl rfl 0 rfl (fun K h=>h ⟨lR,Sh,ls⟩ ⟨⟨n1,hn12,hlR⟩,hSh,hls,hg⟩) ?_ | refine jq_retRowS rfl rfl rfl rfl 1 rfl (fun K h=>h ⟨lR,Sh,ls⟩ ⟨⟨n1,hn12,hlR⟩,hSh,hls,hg⟩) ?_ | refine jq_retRowS rfl rfl rfl rfl 2 rfl (fun K h=>h ⟨lR,Sh,ls⟩ ⟨⟨n1,hn12,hlR⟩,hSh,hls,hg⟩) ?_)
 exact bc_ 2 O sub_end
theorem gProgram_c (hL:InR L) (hLn:L.length≤400) (T:Int) :
 Con Tryz.prog 15 [Ptr bd,In .i64 T] [Dk bd L] (fun K=>∀ p:Pg,PgG (max 1 (min T 6)).toNat 300 p→K (.row p.row) [Dk bd L]):=by
 refine con_intro Tryz.func15 O O b_ (fun c hc=>R_ (o_ O (bl_ O O (fun b4=>T_ (R_ (M_ O (M_ O (o_ O (cl_ O O (o_ O (ck_ O O (o_ O (bt_ [1] O O (programs_c hL hLn _ _ _ g_ g_ g_) (fun p hp=>S_ 1 O (T_ (ar_ ?_))))))))))))))))
 (first | refine jq_retRowS rfl rfl rfl rfl 0 rfl (fun K h=>h p hp) ?_ | refine jq_retRowS rfl rfl rfl rfl 1 rfl (fun K h=>h p hp) ?_)
 exact WE
end
end Go.Proofs.YtalkkcfojplmdaaGreatDoor
end
section
namespace Go.Proofs.YtalkkcfojplmdaaGreatDoor
open Go.Vc
theorem nmOk_lit {s:ByteArray} (h:(isName s && !hasW s)=true):nmOk s:=by
 simp only [Bool.and_eq_true,Bool.not_eq_true'] at h
 exact h
theorem ExG.fine {V U:List ByteArray} (hV:∀ s ∈ V,nmOk s) (hU:∀ s ∈ U,nmOk s):∀ {d:Nat} {t:T},ExG V U d t→t.ok∧t.dep≤d+1:=by
 intro d t h
 induction h with
 | nu d n h=>exact ⟨h,by simp [T.dep]⟩
 | nm d s h=>exact ⟨hV s h,by simp [T.dep]⟩
 | ix d s t h _ ih=>exact ⟨⟨hU s h,ih.1⟩,by simp only [T.dep]; omega⟩
 | bn d o a b ho _ _ iha ihb=>exact ⟨⟨ho,iha.1,ihb.1⟩,by simp only [T.dep]; omega⟩
theorem pc_all {St:Int→Int→List Sm→Prop} {P:Sm→Prop} (h:∀ a b l,St a b l→0≤a→a≤b∧∀ s ∈ l,P s) {k:Nat} {a b:Int} {l:List Sm} (hp:PcG St k a b l) (h0:0≤a):a≤b∧∀ s ∈ l,P s:=by
 induction hp with
 | nil=>exact ⟨Int.le_refl _,by simp⟩
 | snoc k _ _ _ l l2 _ h2 ih =>
  obtain ⟨i1,i2⟩:=ih h0
  obtain ⟨j1,j2⟩:=h _ _ _ h2 (by omega)
  refine ⟨by omega,fun s hs=>?_⟩
  rcases List.mem_append.1 hs with hs | hs
  ·exact i2 s hs
  ·exact j2 s hs
theorem bl_all {St:Int→Int→List Sm→Prop} {P:Sm→Prop} (h:∀ a b l,St a b l→0≤a→a≤b∧∀ s ∈ l,P s) {m:Int} {a b:Int} {l:List Sm} (hp:BlG St m a b l) (h0:0≤a):a≤b∧∀ s ∈ l,P s:=by
 obtain ⟨k,_,hp⟩:=hp
 exact pc_all h hp h0
def Fm (x:T):Prop:=x.ok∧x.dep≤3
theorem Fm.fx {x:T} (h:Fm x):Fx x:=⟨h.1,Nat.le_trans h.2 (by decide)⟩
def mdS:Nat→Sm→Prop
 | 0,_=>False
 | n+1,s =>
  (∃ v x,nmOk v∧Fm x∧s=.mk 1 v [] [x] 0 0 [] []) ∨
  (∃ v y x,nmOk v∧Fm y∧Fm x∧s=.mk 2 v [y] [x] 0 0 [] []) ∨
  (∃ x lab t e,Fm x∧Pl lab∧(∀ u ∈ t,mdS n u)∧(∀ u ∈ e,mdS n u)∧s=.mk 3 E0 [] [x] 0 lab t e) ∨
  (∃ x mx lab t,Fm x∧Pl mx∧Pl lab∧(∀ u ∈ t,mdS n u)∧s=.mk 4 E0 [] [x] mx lab t []) ∨
  (∃ v t,nmOk v∧(∀ u ∈ t,mdS n u)∧s=.mk 5 v [] [] 0 0 t [])
theorem mdS.fine:∀ {n:Nat} {s:Sm},mdS n s→fineS n s
 | 0,_,h=>h.elim
 | n+1,s,h=>by
  unfold mdS at h
  unfold fineS
  rcases h with ⟨v,x,hv,hx,rfl⟩ | ⟨v,y,x,hv,hy,hx,rfl⟩ | ⟨x,lab,t,e,hx,hl,ht,he,rfl⟩ | ⟨x,mx,lab,t,hx,hm,hl,ht,rfl⟩ | ⟨v,t,hv,ht,rfl⟩
  ·exact .inl ⟨rfl,hv,x,rfl,hx.fx⟩
  ·exact .inr (.inl ⟨rfl,hv,y,x,rfl,rfl,hy.fx,hx.fx⟩)
  ·exact .inr (.inr (.inl ⟨rfl,⟨x,rfl,hx.fx⟩,hl,fun u hu=>(ht u hu).fine,fun u hu=>(he u hu).fine⟩))
  ·exact .inr (.inr (.inr (.inl ⟨rfl,⟨x,rfl,hx.fx⟩,hm,hl,fun u hu=>(ht u hu).fine,rfl⟩)))
  ·exact .inr (.inr (.inr (.inr ⟨rfl,hv,fun u hu=>(ht u hu).fine,rfl⟩)))
theorem md_set {n:Nat} {v:ByteArray} {x:T} (hv:nmOk v) (hx:Fm x):mdS (n+1) (.mk 1 v [] [x] 0 0 [] []):=.inl ⟨v,x,hv,hx,rfl⟩
theorem StG.md {V A:List ByteArray} {Sh:List Shd} (hV:∀ s ∈ V,nmOk s) (hU:∀ hs,∀ s ∈ usableF A Sh hs,nmOk s) (hR:∀ x ∈ Sh,nmOk x.2.2):∀ (d:Nat) (il:Int) (hs:ByteArray) (a b:Int) (l:List Sm),StG V A Sh d il hs a b l→0≤a→a≤b∧∀ s ∈ l,mdS (d+1) s:=by
 have ex:∀ {hs:ByteArray} {d:Nat} {t:T},ExG V (usableF A Sh hs) d t→d≤2→Fm t:=fun h hd=>⟨(h.fine hV (hU _)).1,by have:=(h.fine hV (hU _)).2; omega⟩
 have leaf:∀ {n:Nat} {hs:ByteArray} {a b:Int} {l:List Sm},LeafG V (usableF A Sh hs) a b l→a≤b∧∀ s ∈ l,mdS (n+1) s:=by
  rintro n hs a b l ⟨rfl,⟨s,e,h1,h2,rfl⟩ | ⟨s,e1,e2,h1,h2,h3,rfl⟩⟩
  ·refine ⟨Int.le_refl _,fun t ht=>?_⟩
   rw [List.mem_singleton.1 ht]
   exact md_set (hV s h1) (ex h2 (by omega))
  ·refine ⟨Int.le_refl _,fun t ht=>?_⟩
   rw [List.mem_singleton.1 ht]
   exact .inr (.inl ⟨s,e1,e2,hU _ s h1,ex h2 (by omega),ex h3 (by omega),rfl⟩)
 intro d
 induction d with
 | zero=>intro il hs a b l h _; exact leaf h
 | succ d ih =>
  intro il hs a b l h h0
  rcases h with h | ⟨hl,c,l1,l2,lab1,hc,hb1,hb2,rfl⟩ | ⟨_,hl,⟨c,mx,l1,hc,hm,hb,rfl⟩ | ⟨v,n,op,top,mx,l1,st,hv,hn,ho,ht,hm,hst,hb,rfl⟩⟩ | ⟨_,sh,hsh,l1,hb,rfl⟩
  ·exact leaf h
  ·obtain ⟨g1,g2⟩:=bl_all (ih il hs) hb1 (by omega)
   have g3:lab1≤b∧∀ s ∈ l2,mdS (d+1) s:=by
    rcases hb2 with ⟨rfl,rfl⟩ | hb2
    ·exact ⟨Int.le_refl _,by simp⟩
    ·exact bl_all (ih il hs) hb2 (by omega)
   refine ⟨by omega,fun t ht=>?_⟩
   rw [List.mem_singleton.1 ht]
   exact .inr (.inr (.inl ⟨c,a+1,l1,l2,ex hc (by omega),⟨by omega,by omega⟩,g2,g3.2,rfl⟩))
  ·obtain ⟨g1,g2⟩:=bl_all (ih (il+1) hs) hb (by omega)
   refine ⟨by omega,fun t ht=>?_⟩
   rw [List.mem_singleton.1 ht]
   exact .inr (.inr (.inr (.inl ⟨c,mx,a+1,l1,ex hc (by omega),⟨by omega,by omega⟩,⟨by omega,by omega⟩,g2,rfl⟩)))
  ·obtain ⟨g1,g2⟩:=bl_all (ih (il+1) hs) hb (by omega)
   have hv2:=hV v hv
   have htop:top.ok∧top.dep≤1:=by
    rcases ht with ⟨t,ht,rfl⟩ | ⟨s,hs,rfl⟩
    ·exact ⟨by show _∧_; omega,by simp [T.dep]⟩
    ·exact ⟨hV s hs,by simp [T.dep]⟩
   have hfn:Fm (.nu n):=⟨by show _∧_; omega,by simp [T.dep]⟩
   have hfc:Fm (.bn (11+op) (.nm v) top):=⟨⟨by omega,hv2,htop.1⟩,by simp only [T.dep]; omega⟩
   have hfs:Fm (.bn 1 (.nm v) (.nu st)):=⟨⟨by omega,hv2,by show _∧_; omega⟩,by simp [T.dep]⟩
   refine ⟨by omega,fun t ht=>?_⟩
   rcases List.mem_cons.1 ht with rfl | ht
   ·exact md_set hv2 hfn
   ·rw [List.mem_singleton.1 ht]
    refine .inr (.inr (.inr (.inl ⟨_,mx,a+1,_,hfc,⟨by omega,by omega⟩,⟨by omega,by omega⟩,fun s hs=>?_,rfl⟩)))
    rcases List.mem_append.1 hs with hs | hs
    ·exact g2 s hs
    ·rw [List.mem_singleton.1 hs]
     exact md_set hv2 hfs
  ·obtain ⟨g1,g2⟩:=bl_all (ih il sh.2.2) hb h0
   refine ⟨g1,fun t ht=>?_⟩
   rw [List.mem_singleton.1 ht]
   exact .inr (.inr (.inr (.inr ⟨sh.2.2,l1,hR sh hsh,g2,rfl⟩)))
structure NmsG (Sh:List Shd) (t:Tk):Prop where
 vars:∀ s ∈ t.inputs.map (·.1) ++ VS,nmOk s
 usable:∀ hs,∀ s ∈ usableF (t.arrays.map (·.1)) Sh hs,nmOk s
 locks:∀ x ∈ Sh,nmOk x.2.2
theorem RS_ok {n:Nat}:∀ s ∈ RSl n,nmOk s:=by
 rcases n with _ | _ | n
 ·simp [RSl]
 ·intro s hs
  simp only [RSl,List.mem_singleton] at hs
  subst hs
  exact nmOk_lit (by decide +kernel)
 ·intro s hs
  simp only [RSl,List.mem_cons,List.not_mem_nil,or_false] at hs
  rcases hs with rfl | rfl <;> exact nmOk_lit (by decide +kernel)
theorem nms_of {R:List ByteArray} {n:Nat} {Sh:List Shd} {nm:ByteArray} {W:Int} {t:Tk} (hR:R=RSl n) (hSh:ShG R Sh) (h:TaskG Sh nm W t):NmsG Sh t:=by
 have hshN:∀ x ∈ Sh,nmOk x.1∧nmOk x.2.2:=by
  rcases hSh with rfl | ⟨r,k,hr,_,rfl⟩
  ·simp
  ·intro x hx
   rw [List.mem_singleton.1 hx]
   exact ⟨nmOk_lit (s:=⟨#[98,117,102]⟩) (by decide +kernel),RS_ok (n:=n) r (by rw [← hR]; exact List.mem_of_getElem? hr)⟩
 refine ⟨?_,?_,fun x hx=>(hshN x hx).2⟩
 ·intro s hs
  rcases List.mem_append.1 hs with hs | hs
  ·rw [h.inputs.2.1] at hs
   have:=List.mem_of_mem_take hs
   simp only [List.mem_cons,List.not_mem_nil,or_false] at this
   rcases this with rfl | rfl <;> exact nmOk_lit (by decide +kernel)
  ·simp only [List.mem_cons,List.not_mem_nil,or_false] at hs
   rcases hs with rfl | rfl | rfl <;> exact nmOk_lit (by decide +kernel)
 ·intro hs s hm
  unfold usableF at hm
  rcases List.mem_append.1 hm with hm | hm
  ·rcases h.arrays with e | ⟨k,_,e⟩
   ·rw [e] at hm; simp at hm
   ·rw [e] at hm
    simp only [List.map_cons,List.map_nil,List.mem_singleton] at hm
    subst hm
    exact nmOk_lit (by decide +kernel)
  ·obtain ⟨x,hx,he⟩:=List.mem_filterMap.1 hm
   split at he
   ·rw [← Option.some.inj he]
    exact (hshN x hx).1
   ·cases he
theorem TaskG.md {Sh:List Shd} {nm:ByteArray} {W:Int} {t:Tk} (hN:NmsG Sh t) (h:TaskG Sh nm W t):∀ s ∈ t.body,mdS 4 s:=by
 obtain ⟨lab,l,n,hl,hb⟩:=h.body
 obtain ⟨_,g⟩:=bl_all (StG.md hN.vars hN.usable hN.locks 3 0 E0) hl (Int.le_refl _)
 intro s hs
 rw [hb] at hs
 exact g s (List.mem_of_mem_take hs)
theorem PgG.md {T:Nat} {W:Int} {p:Pg} (h:PgG T W p):∀ t ∈ p.tasks,∀ s ∈ t.body,mdS 4 s:=by
 intro t ht
 obtain ⟨i,hi,rfl⟩:=List.mem_iff_getElem.1 ht
 obtain ⟨n,_,hR⟩:=h.res
 exact (h.tasks i hi).md (nms_of hR h.shared (h.tasks i hi))
end Go.Proofs.YtalkkcfojplmdaaGreatDoor
end
section
namespace Go.Proofs.YtalkkcfojplmdaaGreatDoor
open Go.Vc
theorem con_conseq {P:Program} [Gl P] {f:FuncId} {ss:List S} {Hin:List Ch} {post post':(S→List Ch→Prop)→Prop} (hp:∀ K,post' K→post K) (h:Con P f ss Hin post):Con P f ss Hin post':=by
 intro vs w A h1 h2 h3 h4 h5 h6
 refine (h vs w A h1 h2 h3 h4 h5 h6).mono ?_
 rintro e w' ⟨v,s,Ho,he,hK,hs,hrest⟩
 exact ⟨v,s,Ho,he,fun K h=>hK K (hp K h),hs,hrest⟩
attribute [local irreducible] JL JC JQ OpWp Con ConN
theorem gNewT_c (L:List Int):Con Tryz.prog 14 [.cell (.list (L.map Irow))] [] (fun K=>∀ b:Nat,True→K (Ptr b) [Dk b L]):=con_conseq (fun _ h b=>h b trivial) (gNew_c L)
end Go.Proofs.YtalkkcfojplmdaaGreatDoor
end
section
namespace Go.Proofs.YtalkkcfojplmdaaGreatDoor
open Go.Vc
attribute [local irreducible] JL JC JQ OpWp Con ConN
attribute [local irreducible] progT StG BlG
attribute [local irreducible] progF
theorem TaskG.sz {Sh:List Shd} {nm:ByteArray} {W:Int} {t:Tk} (h:TaskG Sh nm W t):TkSz t:=by
 obtain ⟨lab,l,n,hl,hb⟩:=h.body
 have h1:=body_szs hl
 have h2:=Sm.szs_take l n
 refine ⟨by have:=h.inputs.1; omega,by rw [h.vars]; decide,?_,?_,?_,by rw [hb]; omega⟩
 ·rcases h.arrays with e | ⟨k,_,e⟩ <;> rw [e] <;> simp
 ·rcases h.modes with e | ⟨x,lo,hi,_,_,e⟩ <;> rw [e] <;> simp
 ·rcases h.claims with e | ⟨a,b,_,_,_,e⟩ <;> rw [e] <;> simp
theorem PgG.sz {T:Nat} {W:Int} {p:Pg} (hT:T≤1000) (h:PgG T W p):PgSz p:=by
 refine ⟨?_,?_,by rw [h.len]; exact hT,?_⟩
 ·obtain ⟨n,hn,e⟩:=h.res
  rw [e]
  rcases n with _ | _ | n <;> simp [RSl]
 ·rcases h.shared with e | ⟨r,k,_,_,e⟩ <;> rw [e] <;> simp
 ·intro t ht
  obtain ⟨i,hi,rfl⟩:=List.mem_iff_getElem.1 ht
  exact (h.tasks i hi).sz
end Go.Proofs.YtalkkcfojplmdaaGreatDoor
end
section
namespace Go.Proofs.YtalkkcfojplmdaaGreatDoor
open Go.Vc
set_option maxHeartbeats 1000000
theorem numS_dig {n:Int} {k:Nat} (h0:0≤n) (hk:1≤k) (h:n < (10 ^ k:Nat)):(numS n).size≤k:=by
 rw [numS_nonneg n h0,decS_size]
 exact nDigits_le k n.toNat hk (by omega)
theorem numS_11 {n:Int} (h0:-2147483647≤n) (h1:n≤2147483647):(numS n).size≤11:=by
 by_cases hn:n < 0
 ·rw [numS_neg n hn,ByteArray.size_append,one_size]
  have:=decS_le (-n).toNat (by omega)
  omega
 ·rw [numS_nonneg n (by omega)]
  have:=decS_le n.toNat (by omega)
  omega
theorem ExG.tz {V U:List ByteArray} (hV:∀ s ∈ V,s.size≤3) (hU:∀ s ∈ U,s.size≤3):∀ {d:Nat} {t:T},ExG V U d t→((textT t).size:Int)≤czT t:=by
 intro d t h
 induction h with
 | nu d n h =>
  have h11:=numS_11 h.1 h.2
  unfold textT czT
  by_cases h9:0≤n∧n≤9
  ·have:=numS_dig (k:=1) h9.1 (by omega) (by show n < 10; omega)
   rw [if_pos h9,if_neg (by omega)]
   omega
  ·rw [if_neg h9]
   split
   ·rw [ByteArray.size_append,ByteArray.size_append,one_size,one_size]; omega
   ·omega
 | nm d s h=>have:=hV s h; unfold textT czT; omega
 | ix d s t h _ ih =>
  have:=hU s h
  unfold textT czT
  rw [ByteArray.size_append,ByteArray.size_append,ByteArray.size_append,one_size,one_size]
  omega
 | bn d o a b ho _ _ ia ib =>
  have:=sign_size ho
  unfold textT czT
  simp only [ByteArray.size_append,one_size]
  omega
def Tz (d:Nat) (s:Sm):Prop:=∀ sp:ByteArray,sp.size+2 * d≤8→((stT sp s).size:Int)≤s.cz
theorem sts_tz {d:Nat} {sp:ByteArray} (hsp:sp.size+2 * d≤8):∀ {l:List Sm},(∀ s ∈ l,Tz d s)→((stsT sp l).size:Int)≤Sm.czs l
 | [],_=>by rw [stsT,Sm.czs]; exact Int.le_refl _
 | s :: l,h=>by
  have h1:=h s (by simp) sp hsp
  have h2:=sts_tz hsp (l:=l) (fun t ht=>h t (by simp [ht]))
  rw [stsT,Sm.czs,ByteArray.size_append]
  omega
theorem hdT_3 (v i x m lb t e):hdT (.mk 3 v i x m lb t e)=(((Kif2 ++ tx1 x) ++ Klab) ++ numS lb) ++ Kopen:=by simp [hdT,Sm.kind,Sm.value,Sm.label]
theorem hdT_4 (v i x m lb t e):hdT (.mk 4 v i x m lb t e)=(((((Kwh ++ tx1 x) ++ Kmx) ++ numS m) ++ Klab) ++ numS lb) ++ Kopen:=by simp [hdT,Sm.kind,Sm.value,Sm.label,Sm.max]
theorem hdT_5 (v i x m lb t e):hdT (.mk 5 v i x m lb t e)=(Klk ++ v) ++ Kopen:=by simp [hdT,Sm.kind,Sm.name]
theorem node_sz {sp:ByteArray} {s:Sm} (h:¬ (s.kind=1 ∨ s.kind=2)):(stT sp s).size≤sp.size+(hdT s).size+(stsT (sp ++ Ksp) s.thn).size+(sp.size+9+(stsT (sp ++ Ksp) s.els).size)+(sp.size+2)∧(s.els=[]→(stT sp s).size=sp.size+(hdT s).size+(stsT (sp ++ Ksp) s.thn).size+(sp.size+2)):=by
 rw [stT_node sp h]
 split
 ·simp only [ByteArray.size_append,show Kclose.size=2 from rfl,show (⟨#[]⟩:ByteArray).size=0 from rfl]
  exact ⟨by omega,fun _=>by omega⟩
 ·simp only [ByteArray.size_append,show Kclose.size=2 from rfl,show Kelse2.size=9 from rfl]
  exact ⟨by omega,fun h=>absurd h (by assumption)⟩
theorem tz_set {d:Nat} {v:ByteArray} {x:T} (hv:v.size≤3) (hx:((textT x).size:Int)≤czT x):Tz d (.mk 1 v [] [x] 0 0 [] []):=by
 intro sp hsp
 rw [stT_leaf sp (.inl rfl),cz_1]
 simp only [hdT,Sm.kind,Sm.name,Sm.value,tx1,if_true,ByteArray.size_append,show Kst.size=3 from rfl,show Knl.size=1 from rfl,czTs,Sm.czs]
 omega
theorem tz_store {d:Nat} {v:ByteArray} {y x:T} (hv:v.size≤3) (hy:((textT y).size:Int)≤czT y) (hx:((textT x).size:Int)≤czT x):Tz d (.mk 2 v [y] [x] 0 0 [] []):=by
 intro sp hsp
 rw [stT_leaf sp (.inr rfl),cz_2]
 simp only [hdT,Sm.kind,Sm.name,Sm.value,Sm.index,tx1]
 rw [if_neg (by decide),if_pos trivial]
 simp only [ByteArray.size_append,show Kx1.size=1 from rfl,show Kx2.size=4 from rfl,show Knl.size=1 from rfl,czTs,Sm.czs]
 omega
theorem tz_if {d:Nat} {x:T} {lb:Int} {t e:List Sm} (hx:((textT x).size:Int)≤czT x) (hl:0≤lb∧lb≤12) (ht:∀ s ∈ t,Tz d s) (he:∀ s ∈ e,Tz d s):Tz (d+1) (.mk 3 E0 [] [x] 0 lb t e):=by
 intro sp hsp
 have hs2:(sp ++ Ksp).size+2 * d≤8:=by rw [ByteArray.size_append,show Ksp.size=2 from rfl]; omega
 have h1:=sts_tz hs2 ht
 have h2:=sts_tz hs2 he
 have h3:=numS_dig (k:=2) hl.1 (by omega) (by show lb < 100; omega)
 have h4:=Sm.czs_nn e
 have h5:=(node_sz (sp:=sp) (s:=.mk 3 E0 [] [x] 0 lb t e) (by show ¬ ((3:Int)=1 ∨ (3:Int)=2); decide)).1
 rw [cz_3]
 simp only [hdT_3,Sm.thn,Sm.els,tx1,ByteArray.size_append,show Kif2.size=3 from rfl,show Klab.size=7 from rfl,show Kopen.size=3 from rfl] at h5
 simp only [czTs]
 omega
theorem tz_while {d:Nat} {x:T} {mx lb:Int} {t:List Sm} (hx:((textT x).size:Int)≤czT x) (hm:0≤mx∧mx≤5) (hl:0≤lb∧lb≤12) (ht:∀ s ∈ t,Tz d s):Tz (d+1) (.mk 4 E0 [] [x] mx lb t []):=by
 intro sp hsp
 have hs2:(sp ++ Ksp).size+2 * d≤8:=by rw [ByteArray.size_append,show Ksp.size=2 from rfl]; omega
 have h1:=sts_tz hs2 ht
 have h3:=numS_dig (k:=2) hl.1 (by omega) (by show lb < 100; omega)
 have h4:=numS_dig (k:=1) hm.1 (by omega) (by show mx < 10; omega)
 have h5:=(node_sz (sp:=sp) (s:=.mk 4 E0 [] [x] mx lb t []) (by show ¬ ((4:Int)=1 ∨ (4:Int)=2); decide)).2 rfl
 rw [cz_4]
 simp only [hdT_4,Sm.thn,tx1,ByteArray.size_append,show Kwh.size=6 from rfl,show Kmx.size=5 from rfl,show Klab.size=7 from rfl,show Kopen.size=3 from rfl] at h5
 simp only [czTs,Sm.czs]
 omega
theorem tz_lock {d:Nat} {v:ByteArray} {t:List Sm} (hv:v.size≤3) (ht:∀ s ∈ t,Tz d s):Tz (d+1) (.mk 5 v [] [] 0 0 t []):=by
 intro sp hsp
 have hs2:(sp ++ Ksp).size+2 * d≤8:=by rw [ByteArray.size_append,show Ksp.size=2 from rfl]; omega
 have h1:=sts_tz hs2 ht
 have h5:=(node_sz (sp:=sp) (s:=.mk 5 v [] [] 0 0 t []) (by show ¬ ((5:Int)=1 ∨ (5:Int)=2); decide)).2 rfl
 rw [cz_5]
 simp only [hdT_5,Sm.thn,ByteArray.size_append,show Klk.size=5 from rfl,show Kopen.size=3 from rfl] at h5
 simp only [czTs,Sm.czs]
 omega
theorem StG.tz {V A:List ByteArray} {Sh:List Shd} (hV:∀ s ∈ V,s.size≤3) (hU:∀ hs,∀ s ∈ usableF A Sh hs,s.size≤3) (hR:∀ x ∈ Sh,x.2.2.size≤3):∀ (d:Nat) (il:Int) (hs:ByteArray) (a b:Int) (l:List Sm),StG V A Sh d il hs a b l→0≤a→a≤b∧∀ s ∈ l,Tz d s:=by
 have ex:∀ {hs:ByteArray} {d:Nat} {t:T},ExG V (usableF A Sh hs) d t→((textT t).size:Int)≤czT t:=fun h=>h.tz hV (hU _)
 have leaf:∀ {n:Nat} {hs:ByteArray} {a b:Int} {l:List Sm},LeafG V (usableF A Sh hs) a b l→a≤b∧∀ s ∈ l,Tz n s:=by
  rintro n hs a b l ⟨rfl,⟨s,e,h1,h2,rfl⟩ | ⟨s,e1,e2,h1,h2,h3,rfl⟩⟩
  ·refine ⟨Int.le_refl _,fun t ht=>?_⟩
   rw [List.mem_singleton.1 ht]
   exact tz_set (hV s h1) (ex h2)
  ·refine ⟨Int.le_refl _,fun t ht=>?_⟩
   rw [List.mem_singleton.1 ht]
   exact tz_store (hU _ s h1) (ex h2) (ex h3)
 intro d
 induction d with
 | zero=>intro il hs a b l h _; exact leaf h
 | succ d ih =>
  intro il hs a b l h h0
  rcases h with h | ⟨hl,c,l1,l2,lab1,hc,hb1,hb2,rfl⟩ | ⟨_,hl,⟨c,mx,l1,hc,hm,hb,rfl⟩ | ⟨v,n,op,top,mx,l1,st,hv,hn,ho,ht,hm,hst,hb,rfl⟩⟩ | ⟨_,sh,hsh,l1,hb,rfl⟩
  ·exact leaf h
  ·obtain ⟨g1,g2⟩:=bl_all (ih il hs) hb1 (by omega)
   have g3:lab1≤b∧∀ s ∈ l2,Tz d s:=by
    rcases hb2 with ⟨rfl,rfl⟩ | hb2
    ·exact ⟨Int.le_refl _,by simp⟩
    ·exact bl_all (ih il hs) hb2 (by omega)
   refine ⟨by omega,fun t ht=>?_⟩
   rw [List.mem_singleton.1 ht]
   exact tz_if (ex hc) (by omega) g2 g3.2
  ·obtain ⟨g1,g2⟩:=bl_all (ih (il+1) hs) hb (by omega)
   refine ⟨by omega,fun t ht=>?_⟩
   rw [List.mem_singleton.1 ht]
   exact tz_while (ex hc) hm (by omega) g2
  ·obtain ⟨g1,g2⟩:=bl_all (ih (il+1) hs) hb (by omega)
   have hv2:=hV v hv
   have e9:∀ n:Int,0≤n∧n≤9→((textT (.nu n)).size:Int)≤czT (.nu n):=fun n hn=>ExG.tz (V:=[]) (U:=[]) (by simp) (by simp) (.nu 0 n (by omega))
   have hnm:∀ s:ByteArray,s.size≤3→((textT (.nm s)).size:Int)≤czT (.nm s):=fun s hs=>by unfold textT czT; omega
   have bin:∀ (o:Int) (a b:T),1≤o∧o≤14→((textT a).size:Int)≤czT a→((textT b).size:Int)≤czT b→((textT (.bn o a b)).size:Int)≤czT (.bn o a b):=fun o a b ho ha hb=>by
    have:=sign_size ho
    rw [textT,czT]
    simp only [ByteArray.size_append,one_size]
    omega
   have htop:((textT top).size:Int)≤czT top:=by
    rcases ht with ⟨t,ht,rfl⟩ | ⟨s,hs,rfl⟩
    ·exact e9 t (by omega)
    ·exact hnm s (hV s hs)
   refine ⟨by omega,fun t ht=>?_⟩
   rcases List.mem_cons.1 ht with rfl | ht
   ·exact tz_set hv2 (e9 n (by omega))
   ·rw [List.mem_singleton.1 ht]
    refine tz_while (bin _ _ _ (by omega) (hnm v hv2) htop) hm (by omega) (fun s hs=>?_)
    rcases List.mem_append.1 hs with hs | hs
    ·exact g2 s hs
    ·rw [List.mem_singleton.1 hs]
     exact tz_set hv2 (bin _ _ _ (by omega) (hnm v hv2) (e9 st (by omega)))
  ·obtain ⟨g1,g2⟩:=bl_all (ih il sh.2.2) hb h0
   refine ⟨g1,fun t ht=>?_⟩
   rw [List.mem_singleton.1 ht]
   exact tz_lock (hR sh hsh) g2
structure NszG (Sh:List Shd) (t:Tk):Prop where
 vars:∀ s ∈ t.inputs.map (·.1) ++ VS,s.size≤3
 usable:∀ hs,∀ s ∈ usableF (t.arrays.map (·.1)) Sh hs,s.size≤3
 locks:∀ x ∈ Sh,x.2.2.size≤3
theorem RS_sz {n:Nat}:∀ s ∈ RSl n,s.size≤1:=by
 rcases n with _ | _ | n
 ·simp [RSl]
 ·intro s hs
  simp only [RSl,List.mem_singleton] at hs
  subst hs
  decide
 ·intro s hs
  simp only [RSl,List.mem_cons,List.not_mem_nil,or_false] at hs
  rcases hs with rfl | rfl <;> decide
theorem shd_sz {R:List ByteArray} {n:Nat} {Sh:List Shd} (hR:R=RSl n) (hSh:ShG R Sh):Sh.length≤1∧∀ x ∈ Sh,x.1.size≤3∧(0≤x.2.1∧x.2.1≤8)∧x.2.2.size≤1∧nmOk x.1∧nmOk x.2.2:=by
 rcases hSh with rfl | ⟨r,k,hr,hk,rfl⟩
 ·simp
 ·refine ⟨by simp,fun x hx=>?_⟩
  have hm:r ∈ RSl n:=by rw [← hR]; exact List.mem_of_getElem? hr
  rw [List.mem_singleton.1 hx]
  refine ⟨show (⟨#[98,117,102]⟩:ByteArray).size≤3 by decide,?_,RS_sz r hm,nmOk_lit (s:=⟨#[98,117,102]⟩) (by decide +kernel),RS_ok r hm⟩
  show 0≤(2:Int) ^ k∧(2:Int) ^ k≤8
  have:k=0 ∨ k=1 ∨ k=2 ∨ k=3:=by omega
  rcases this with rfl | rfl | rfl | rfl <;> decide
theorem nsz_of {R:List ByteArray} {n:Nat} {Sh:List Shd} {nm:ByteArray} {W:Int} {t:Tk} (hR:R=RSl n) (hSh:ShG R Sh) (h:TaskG Sh nm W t):NszG Sh t:=by
 have hs:=(shd_sz hR hSh).2
 refine ⟨?_,?_,fun x hx=>by have:=(hs x hx).2.2.1; omega⟩
 ·intro s hs
  rcases List.mem_append.1 hs with hs | hs
  ·rw [h.inputs.2.1] at hs
   have:=List.mem_of_mem_take hs
   simp only [List.mem_cons,List.not_mem_nil,or_false] at this
   rcases this with rfl | rfl <;> decide
  ·simp only [List.mem_cons,List.not_mem_nil,or_false] at hs
   rcases hs with rfl | rfl | rfl <;> decide
 ·intro hs2 s hm
  unfold usableF at hm
  rcases List.mem_append.1 hm with hm | hm
  ·rcases h.arrays with e | ⟨k,_,e⟩
   ·rw [e] at hm; simp at hm
   ·rw [e] at hm
    simp only [List.map_cons,List.map_nil,List.mem_singleton] at hm
    subst hm
    decide
  ·obtain ⟨x,hx,he⟩:=List.mem_filterMap.1 hm
   split at he
   ·rw [← Option.some.inj he]
    exact (hs x hx).1
   ·cases he
theorem body_tz {Sh:List Shd} {nm:ByteArray} {W:Int} {t:Tk} (hN:NszG Sh t) (h:TaskG Sh nm W t):(stsT Ksp t.body).size≤1680:=by
 obtain ⟨lab,l,n,hl,hb⟩:=h.body
 obtain ⟨_,g⟩:=bl_all (StG.tz hN.vars hN.usable hN.locks 3 0 E0) hl (Int.le_refl _)
 have:=sts_tz (d:=3) (sp:=Ksp) (by decide) (l:=t.body) (fun s hs=>g s (by rw [hb] at hs; exact List.mem_of_mem_take hs))
 have:=h.size.1
 omega
theorem Fm.one {x:T} (h:Fm x):oneB [x]=true:=(shpF_ok 20 x (by have:=h.2; omega)).2 h.1
theorem Pl.b {n:Int} (h:Pl n):plainB n=true:=plainB_ok.2 h
theorem md_okS:∀ (n F:Nat) (l:List Sm),n≤F→(∀ s ∈ l,mdS n s)→okSs F l=true
 | 0,0,l,_,_=>rfl
 | 0,F+1,l,_,h=>by
  cases l with
  | nil=>rfl
  | cons s l=>exact (h s (by simp)).elim
 | n+1,0,l,hF,_=>by omega
 | n+1,F+1,l,hF,h=>by
  rw [okSs,List.all_eq_true]
  intro s hs
  have h1:=h s hs
  unfold mdS at h1
  have ih:=fun l hl=>md_okS n F l (by omega) hl
  rcases h1 with ⟨v,x,hv,hx,rfl⟩ | ⟨v,y,x,hv,hy,hx,rfl⟩ | ⟨x,lab,t,e,hx,hl,ht,he,rfl⟩ | ⟨x,mx,lab,t,hx,hm,hl,ht,rfl⟩ | ⟨v,t,hv,ht,rfl⟩
  ·simp [okOne,Sm.kind,Sm.name,Sm.index,Sm.value,Sm.max,Sm.label,Sm.thn,Sm.els,nameB_ok.2 hv,hx.one]
  ·simp [okOne,Sm.kind,Sm.name,Sm.index,Sm.value,Sm.max,Sm.label,Sm.thn,Sm.els,nameB_ok.2 hv,hx.one,hy.one]
  ·simp [okOne,Sm.kind,Sm.name,Sm.index,Sm.value,Sm.max,Sm.label,Sm.thn,Sm.els,hx.one,hl.b,ih t ht,ih e he]
  ·simp [okOne,Sm.kind,Sm.name,Sm.index,Sm.value,Sm.max,Sm.label,Sm.thn,Sm.els,hx.one,hm.b,hl.b,ih t ht]
  ·simp [okOne,Sm.kind,Sm.name,Sm.index,Sm.value,Sm.max,Sm.label,Sm.thn,Sm.els,nameB_ok.2 hv,ih t ht]
theorem md_deep:∀ (n F:Nat) (l:List Sm),n≤F→(∀ s ∈ l,mdS n s)→dpF F l=false
 | 0,F,l,_,h=>by
  cases l with
  | nil=>cases F <;> rfl
  | cons s l=>exact (h s (by simp)).elim
 | n+1,0,l,hF,_=>by omega
 | n+1,F+1,l,hF,h=>by
  rw [dpF,List.any_eq_false]
  intro s hs
  have h1:=h s hs
  unfold mdS at h1
  have ih:=fun l hl=>md_deep n F l (by omega) hl
  have dx:∀ x:T,Fm x→dpx x=false:=fun x hx=>decide_eq_false (by have:=hx.2; omega)
  rcases h1 with ⟨v,x,hv,hx,rfl⟩ | ⟨v,y,x,hv,hy,hx,rfl⟩ | ⟨x,lab,t,e,hx,hl,ht,he,rfl⟩ | ⟨x,mx,lab,t,hx,hm,hl,ht,rfl⟩ | ⟨v,t,hv,ht,rfl⟩
  ·simp [dpS,Sm.index,Sm.value,Sm.thn,Sm.els,dx x hx,ih [] (by simp)]
  ·simp [dpS,Sm.index,Sm.value,Sm.thn,Sm.els,dx x hx,dx y hy,ih [] (by simp)]
  ·simp [dpS,Sm.index,Sm.value,Sm.thn,Sm.els,dx x hx,ih t ht,ih e he]
  ·simp [dpS,Sm.index,Sm.value,Sm.thn,Sm.els,dx x hx,ih t ht,ih [] (by simp)]
  ·simp [dpS,Sm.index,Sm.value,Sm.thn,Sm.els,ih t ht,ih [] (by simp)]
theorem ifs_pl:∀ (f n:Nat) (s:Sm),mdS n s→∀ k ∈ rlOne f s,Pl k
 | 0,_,_,_,k,hk=>by simp [rlOne] at hk
 | f+1,0,_,h,_,_=>h.elim
 | f+1,n+1,s,h,k,hk=>by
  unfold mdS at h
  rw [rlOne,List.mem_append,List.mem_append] at hk
  have ih:∀ (l:List Sm),(∀ s ∈ l,mdS n s)→k ∈ l.flatMap (rlOne f)→Pl k:=fun l hl hk=>by
   obtain ⟨s,hs,hk⟩:=List.mem_flatMap.1 hk
   exact ifs_pl f n s (hl s hs) k hk
  rcases h with ⟨v,x,hv,hx,rfl⟩ | ⟨v,y,x,hv,hy,hx,rfl⟩ | ⟨x,lab,t,e,hx,hl,ht,he,rfl⟩ | ⟨x,mx,lab,t,hx,hm,hl,ht,rfl⟩ | ⟨v,t,hv,ht,rfl⟩
  ·simp [rlSelf,Sm.kind,Sm.thn,Sm.els] at hk
  ·simp [rlSelf,Sm.kind,Sm.thn,Sm.els] at hk
  ·rcases hk with (hk | hk) | hk
   ·simp only [rlSelf,Sm.kind,if_true,Sm.label,List.mem_singleton] at hk
    rw [hk]; exact hl
   ·exact ih t ht hk
   ·exact ih e he hk
  ·rcases hk with (hk | hk) | hk
   ·simp [rlSelf,Sm.kind] at hk
   ·exact ih t ht hk
   ·simp [Sm.els] at hk
  ·rcases hk with (hk | hk) | hk
   ·simp [rlSelf,Sm.kind] at hk
   ·exact ih t ht hk
   ·simp [Sm.els] at hk
theorem nmT_ok {i:Nat} (h:i < 6):nmOk (nmT i)∧(nmT i).size=2:=by
 have:i=0 ∨ i=1 ∨ i=2 ∨ i=3 ∨ i=4 ∨ i=5:=by omega
 rcases this with rfl | rfl | rfl | rfl | rfl | rfl <;> exact ⟨nmOk_lit (by decide +kernel),by decide +kernel⟩
theorem task_okN {R:List ByteArray} {n:Nat} {nm:ByteArray} {Sh:List Shd} {W:Int} {t:Tk} (hR:R=RSl n) (hSh:ShG R Sh) (hnm:nmOk nm∧nm.size=2) (h:TaskG Sh nm W t):okTk t=true∧(tkT t).size≤1960:=by
 have hmd:=h.md (nms_of hR hSh h)
 have hbz:=body_tz (nsz_of hR hSh h) h
 have hin:∀ x ∈ t.inputs,(nmOk x.1∧x.1.size=1)∧(-2≤x.2.1∧x.2.1≤3)∧(-2≤x.2.2∧x.2.2≤14):=fun x hx=>by
  have hm:x.1 ∈ t.inputs.map (·.1):=List.mem_map_of_mem hx
  rw [h.inputs.2.1] at hm
  have hm:=List.mem_of_mem_take hm
  have hb:=h.inputs.2.2 x hx
  refine ⟨?_,by omega,by omega⟩
  simp only [List.mem_cons,List.not_mem_nil,or_false] at hm
  rcases hm with e | e <;> rw [e] <;> exact ⟨nmOk_lit (by decide +kernel),by decide⟩
 have hva:∀ x ∈ t.vars,nmOk x∧x.size=1:=fun x hx=>by
  rw [h.vars] at hx
  simp only [List.mem_cons,List.not_mem_nil,or_false] at hx
  rcases hx with rfl | rfl | rfl <;> exact ⟨nmOk_lit (by decide +kernel),by decide⟩
 have har:t.arrays.length≤1∧∀ x ∈ t.arrays,nmOk x.1∧x.1.size=1∧(0≤x.2∧x.2≤8):=by
  rcases h.arrays with e | ⟨k,hk,e⟩
  ·rw [e]; simp
  ·rw [e]
   refine ⟨by simp,fun x hx=>?_⟩
   rw [List.mem_singleton.1 hx]
   refine ⟨nmOk_lit (s:=⟨#[97]⟩) (by decide +kernel),show (⟨#[97]⟩:ByteArray).size=1 by decide,?_⟩
   show 0≤(2:Int) ^ k∧(2:Int) ^ k≤8
   have:k=0 ∨ k=1 ∨ k=2 ∨ k=3:=by omega
   rcases this with rfl | rfl | rfl | rfl <;> decide
 have hmo:t.modes.length≤1∧∀ x ∈ t.modes,(nmOk x.1∧x.1.size=3)∧(nmOk x.2.1∧x.2.1.size=1)∧(-2≤x.2.2.1∧x.2.2.1≤14)∧(-2≤x.2.2.2∧x.2.2.2≤14):=by
  rcases h.modes with e | ⟨y,lo,hi,hy,hb,e⟩
  ·rw [e]; simp
  ·rw [e]
   refine ⟨by simp,fun x hx=>?_⟩
   have hy2:=hin y (List.mem_of_getElem? hy)
   rw [List.mem_singleton.1 hx]
   exact ⟨⟨nmOk_lit (s:=⟨#[102,101,119]⟩) (by decide +kernel),show (⟨#[102,101,119]⟩:ByteArray).size=3 by decide⟩,hy2.1,by dsimp only; omega,by dsimp only; omega⟩
 have hcl:t.claims.length≤1∧∀ x ∈ t.claims,Pl x.1∧Pl x.2:=by
  have hif:∀ k ∈ ifsOf t.body,Pl k:=fun k hk=>by
   obtain ⟨s,hs,hk⟩:=List.mem_flatMap.1 hk
   exact ifs_pl 20 4 s (hmd s hs) k hk
  rcases h.claims with e | ⟨a,b,ha,hb,_,e⟩
  ·rw [e]; simp
  ·rw [e]
   refine ⟨by simp,fun x hx=>?_⟩
   rw [List.mem_singleton.1 hx]
   exact ⟨hif _ (List.getElem_mem ha),hif _ (List.getElem_mem hb)⟩
 have hpe:=h.period
 have hde:=h.deadline
 have hpr:=h.priority
 have hji:=h.jitter
 refine ⟨?_,?_⟩
 ·unfold okTk hdB
  simp only [Bool.and_eq_true,List.all_eq_true]
  refine ⟨⟨⟨⟨⟨⟨⟨⟨⟨⟨?_,?_⟩,?_⟩,?_⟩,?_⟩,?_⟩,?_⟩,?_⟩,?_⟩,?_⟩,?_⟩
  ·rw [h.name]; exact nameB_ok.2 hnm.1
  ·exact plainB_ok.2 ⟨by omega,by omega⟩
  ·exact plainB_ok.2 ⟨by omega,by omega⟩
  ·exact plainB_ok.2 ⟨by omega,by omega⟩
  ·exact plainB_ok.2 ⟨by omega,by omega⟩
  ·exact md_okS 4 20 t.body (by omega) hmd
  ·intro x hx
   have:=hin x hx
   simp only [inB,Bool.and_eq_true]
   exact ⟨⟨nameB_ok.2 this.1.1,smallB_ok.2 (by omega)⟩,smallB_ok.2 (by omega)⟩
  ·exact fun x hx=>nameB_ok.2 (hva x hx).1
  ·intro x hx
   have:=har.2 x hx
   simp only [arB,Bool.and_eq_true]
   exact ⟨nameB_ok.2 this.1,plainB_ok.2 ⟨by omega,by omega⟩⟩
  ·intro x hx
   have:=hmo.2 x hx
   simp only [mdB,Bool.and_eq_true]
   exact ⟨⟨⟨nameB_ok.2 this.1.1,nameB_ok.2 this.2.1.1⟩,smallB_ok.2 (by omega)⟩,smallB_ok.2 (by omega)⟩
  ·intro x hx
   have:=hcl.2 x hx
   simp only [clB,Bool.and_eq_true]
   exact ⟨plainB_ok.2 this.1,plainB_ok.2 this.2⟩
 ·have z0:(tkHd t).size≤97:=by
   have a1:=numS_11 (n:=t.period) (by omega) (by omega)
   have a2:=numS_11 (n:=t.deadline) (by omega) (by omega)
   have a3:=numS_11 (n:=t.priority) (by omega) (by omega)
   have a4:=numS_11 (n:=t.jitter) (by omega) (by omega)
   have a5:t.name.size=2:=by rw [h.name]; exact hnm.2
   simp only [tkHd,ByteArray.size_append,ba_lit,List.length_cons,List.length_nil]
   omega
  have z1:(catL inT t.inputs).size≤t.inputs.length * 32:=catL_size (fun x hx=>by
   have:=hin x hx
   have a1:=numS_11 (n:=x.2.1) (by omega) (by omega)
   have a2:=numS_11 (n:=x.2.2) (by omega) (by omega)
   simp only [inT,ByteArray.size_append,ba_lit,List.length_cons,List.length_nil]
   omega)
  have z2:(catL vaT t.vars).size≤t.vars.length * 6:=catL_size (fun x hx=>by
   have:=hva x hx
   simp only [vaT,ByteArray.size_append,ba_lit,List.length_cons,List.length_nil]
   omega)
  have z3:(catL arT t.arrays).size≤t.arrays.length * 20:=catL_size (fun x hx=>by
   have:=har.2 x hx
   have a1:=numS_11 (n:=x.2) (by omega) (by omega)
   simp only [arT,ByteArray.size_append,ba_lit,List.length_cons,List.length_nil]
   omega)
  have z4:(catL mdT t.modes).size≤t.modes.length * 36:=catL_size (fun x hx=>by
   have:=hmo.2 x hx
   have a1:=numS_11 (n:=x.2.2.1) (by omega) (by omega)
   have a2:=numS_11 (n:=x.2.2.2) (by omega) (by omega)
   simp only [mdT,ByteArray.size_append,ba_lit,List.length_cons,List.length_nil]
   omega)
  have z5:(catL clT t.claims).size≤t.claims.length * 30:=catL_size (fun x hx=>by
   have:=hcl.2 x hx
   have a1:=numS_11 (n:=x.1) (by have:=this.1.1; omega) this.1.2
   have a2:=numS_11 (n:=x.2) (by have:=this.2.1; omega) this.2.2
   simp only [clT,ByteArray.size_append,ba_lit,List.length_cons,List.length_nil]
   omega)
  have l1:=h.inputs.1
  have l2:t.vars.length=3:=by rw [h.vars]; rfl
  have l3:=har.1
  have l4:=hmo.1
  have l5:=hcl.1
  simp only [tkT,ByteArray.size_append,ba_lit,List.length_cons,List.length_nil]
  omega
theorem task_okT {R:List ByteArray} {n i:Nat} {Sh:List Shd} {W:Int} {t:Tk} (hR:R=RSl n) (hSh:ShG R Sh) (hi:i < 6) (h:TaskG Sh (nmT i) W t):okTk t=true∧(tkT t).size≤1960:=task_okN hR hSh (nmT_ok hi) h
theorem prog_szT {T:Nat} {W:Int} {p:Pg} (hT:T≤4) (h:PgG T W p):okPg p=true∧p.tasks.any (fun t=>dpF 8 t.body)=false∧(progT p).size≤T * 1960+52:=by
 obtain ⟨n,hn,hR⟩:=h.res
 have hsh:=shd_sz hR h.shared
 have hres:∀ x ∈ p.res,nmOk x∧x.size≤1:=fun x hx=>by rw [hR] at hx; exact ⟨RS_ok x hx,RS_sz x hx⟩
 have hresl:p.res.length≤2:=by rw [hR]; rcases n with _ | _ | n <;> simp [RSl]
 have hlen:=h.len
 have htk:∀ t ∈ p.tasks,okTk t=true∧(tkT t).size≤1960:=fun t ht=>by
  obtain ⟨i,hi,rfl⟩:=List.mem_iff_getElem.1 ht
  exact task_okT hR h.shared (by omega) (h.tasks i hi)
 refine ⟨?_,?_,?_⟩
 ·unfold okPg
  simp only [Bool.and_eq_true,List.all_eq_true]
  refine ⟨⟨fun x hx=>nameB_ok.2 (hres x hx).1,fun x hx=>?_⟩,fun t ht=>(htk t ht).1⟩
  have:=hsh.2 x hx
  simp only [shB,Bool.and_eq_true]
  exact ⟨⟨nameB_ok.2 this.2.2.2.1,plainB_ok.2 ⟨by omega,by omega⟩⟩,nameB_ok.2 this.2.2.2.2⟩
 ·rw [List.any_eq_false]
  intro t ht
  rw [md_deep 4 8 t.body (by omega) (h.md t ht)]
  decide
 ·have z1:(catL resT p.res).size≤p.res.length * 11:=catL_size (fun x hx=>by
   have:=hres x hx
   simp only [resT,ByteArray.size_append,ba_lit,List.length_cons,List.length_nil]
   omega)
  have z2:(catL shT p.shared).size≤p.shared.length * 30:=catL_size (fun x hx=>by
   have:=hsh.2 x hx
   have a1:=numS_11 (n:=x.2.1) (by omega) (by omega)
   simp only [shT,ByteArray.size_append,ba_lit,List.length_cons,List.length_nil]
   omega)
  have z3:(catL tkT p.tasks).size≤p.tasks.length * 1960:=catL_size (fun t ht=>(htk t ht).2)
  have l1:=hsh.1
  unfold progT
  simp only [ByteArray.size_append]
  rw [hlen] at z3
  omega
theorem prog_okT {T:Nat} {W:Int} {p:Pg} (hT:T≤4) (h:PgG T W p):okPg p=true∧p.tasks.any (fun t=>dpF 8 t.body)=false∧(progT p).size≤8192:=by
 obtain ⟨h1,h2,h3⟩:=prog_szT hT h
 exact ⟨h1,h2,by omega⟩
end Go.Proofs.YtalkkcfojplmdaaGreatDoor
end
section
namespace Go.Proofs.YtalkkcfojplmdaaGreatDoor
open Go.Vc
set_option maxHeartbeats 1000000
def seqI (a:Int) (n:Nat):List Int:=(List.range n).map fun i:Nat=>a+1+(i:Int)
theorem seqI_app (a:Int) (n m:Nat):seqI a n ++ seqI (a+n) m=seqI a (n+m):=by
 unfold seqI
 rw [List.range_add,List.map_append,List.map_map]
 congr 1
 refine List.map_congr_left (fun i _=>?_)
 simp only [Function.comp]
 omega
theorem seqI_one (a:Int):seqI a 1=[a+1]:=by simp [seqI]
theorem seqI_mem {a x:Int} {n:Nat} (h:x ∈ seqI a n):a+1≤x∧x≤a+n:=by
 unfold seqI at h
 obtain ⟨i,hi,rfl⟩:=List.mem_map.1 h
 have:=List.mem_range.1 hi
 omega
theorem seqI_nodup (a:Int) (n:Nat):(seqI a n).Nodup:=by
 unfold seqI
 unfold List.Nodup
 rw [List.pairwise_map]
 refine List.Pairwise.imp ?_ (List.nodup_range (n:=n))
 intro i j h e
 exact h (by omega)
theorem Sm.lbss_flat (w:Int→Bool):∀ l:List Sm,Sm.lbss w l=l.flatMap (Sm.lbs w)
 | []=>rfl
 | s :: l=>by rw [Sm.lbss,Sm.lbss_flat w l,List.flatMap_cons]
theorem Sm.lbss_app (w:Int→Bool) (l m:List Sm):Sm.lbss w (l ++ m)=Sm.lbss w l ++ Sm.lbss w m:=by rw [Sm.lbss_flat,Sm.lbss_flat,Sm.lbss_flat,List.flatMap_append]
theorem Sm.lbss_take (w:Int→Bool) (l:List Sm) (n:Nat):(Sm.lbss w (l.take n)).Sublist (Sm.lbss w l):=by
 have:=Sm.lbss_app w (l.take n) (l.drop n)
 rw [List.take_append_drop] at this
 rw [this]
 exact List.sublist_append_left _ _
def Lb (a b:Int) (l:List Sm):Prop:=a≤b∧b≤12∧Sm.lbss isIW l=seqI a (b - a).toNat
theorem Lb.nil {a:Int} (h:a≤12):Lb a a []:=⟨Int.le_refl _,h,by rw [Int.sub_self]; rfl⟩
theorem Lb.app {a b c:Int} {l m:List Sm} (h:Lb a b l) (k:Lb b c m):Lb a c (l ++ m):=by
 obtain ⟨h1,h2,h3⟩:=h
 obtain ⟨k1,k2,k3⟩:=k
 refine ⟨by omega,k2,?_⟩
 have e:=seqI_app a (b - a).toNat (c - b).toNat
 rw [show a+((b - a).toNat:Int)=b by omega] at e
 rw [Sm.lbss_app,h3,k3,e]
 congr 1
 omega
theorem pc_lab {St:Int→Int→List Sm→Prop} (h:∀ a b l,St a b l→0≤a→a≤12→Lb a b l) {k:Nat} {a b:Int} {l:List Sm} (hp:PcG St k a b l) (h0:0≤a) (h1:a≤12):Lb a b l:=by
 induction hp with
 | nil=>exact .nil h1
 | snoc k _ _ _ l l2 _ h2 ih =>
  have h3:=ih h0 h1
  exact h3.app (h _ _ _ h2 (by have:=h3.1; omega) h3.2.1)
theorem bl_lab {St:Int→Int→List Sm→Prop} (h:∀ a b l,St a b l→0≤a→a≤12→Lb a b l) {m:Int} {a b:Int} {l:List Sm} (hp:BlG St m a b l) (h0:0≤a) (h1:a≤12):Lb a b l:=by
 obtain ⟨k,_,hp⟩:=hp
 exact pc_lab h hp h0 h1
theorem StG.lab {V A:List ByteArray} {Sh:List Shd}:∀ (d:Nat) (il:Int) (hs:ByteArray) (a b:Int) (l:List Sm),StG V A Sh d il hs a b l→0≤a→a≤12→Lb a b l:=by
 have leaf:∀ {U:List ByteArray} {a b:Int} {l:List Sm},LeafG V U a b l→a≤12→Lb a b l:=by
  rintro U a b l ⟨rfl,⟨s,e,h1,h2,rfl⟩ | ⟨s,e1,e2,h1,h2,h3,rfl⟩⟩ h12
  ·exact ⟨Int.le_refl _,h12,by rw [Int.sub_self]; simp [Sm.lbss,Sm.lbs,isIW]; rfl⟩
  ·exact ⟨Int.le_refl _,h12,by rw [Int.sub_self]; simp [Sm.lbss,Sm.lbs,isIW]; rfl⟩
 have node:∀ {a b:Int} {k:Int} {nm:ByteArray} {i v:List T} {m:Int} {t e:List Sm},isIW k=true→Lb (a+1) b (t ++ e)→Lb a b [.mk k nm i v m (a+1) t e]:=by
  intro a b k nm i v m t e hk h
  obtain ⟨h1,h2,h3⟩:=h
  refine ⟨by omega,h2,?_⟩
  have e1:=seqI_app a 1 (b - (a+1)).toNat
  rw [show a+((1:Nat):Int)=a+1 by omega,seqI_one] at e1
  rw [Sm.lbss_app] at h3
  simp only [Sm.lbss,Sm.lbs,hk,if_true,List.append_nil]
  rw [List.append_assoc,h3,e1]
  congr 1
  omega
 intro d
 induction d with
 | zero=>intro il hs a b l h _ h12; exact leaf h h12
 | succ d ih =>
  intro il hs a b l h h0 h12
  rcases h with h | ⟨hl,c,l1,l2,lab1,hc,hb1,hb2,rfl⟩ | ⟨_,hl,⟨c,mx,l1,hc,hm,hb,rfl⟩ | ⟨v,n,op,top,mx,l1,st,hv,hn,ho,ht,hm,hst,hb,rfl⟩⟩ | ⟨_,sh,hsh,l1,hb,rfl⟩
  ·exact leaf h h12
  ·have g1:=bl_lab (ih il hs) hb1 (by omega) (by omega)
   have g3:Lb lab1 b l2:=by
    rcases hb2 with ⟨rfl,rfl⟩ | hb2
    ·exact .nil g1.2.1
    ·exact bl_lab (ih il hs) hb2 (by have:=g1.1; omega) g1.2.1
   exact node O (g1.app g3)
  ·have g1:=bl_lab (ih (il+1) hs) hb (by omega) (by omega)
   exact node O (by rw [List.append_nil]; exact g1)
  ·have g1:=bl_lab (ih (il+1) hs) hb (by omega) (by omega)
   have g2:Lb b b [Sm.mk 1 v [] [.bn 1 (.nm v) (.nu st)] 0 0 [] []]:=⟨Int.le_refl _,g1.2.1,by rw [Int.sub_self]; simp [Sm.lbss,Sm.lbs,isIW]; rfl⟩
   have g3:Lb a a [Sm.mk 1 v [] [.nu n] 0 0 [] []]:=⟨Int.le_refl _,h12,by rw [Int.sub_self]; simp [Sm.lbss,Sm.lbs,isIW]; rfl⟩
   exact g3.app (node O (by rw [List.append_nil]; exact g1.app g2))
  ·have g1:=bl_lab (ih il sh.2.2) hb h0 h12
   obtain ⟨k1,k2,k3⟩:=g1
   exact ⟨k1,k2,by rw [← k3]; simp [Sm.lbss,Sm.lbs,isIW]⟩
mutual
theorem Sm.lbs_sub:∀ s:Sm,(s.lbs isIf).Sublist (s.lbs isIW)
 | .mk k _ _ _ _ lb t e=>by
  simp only [Sm.lbs]
  refine ((List.Sublist.append ?_ (Sm.lbss_sub t)).append (Sm.lbss_sub e))
  unfold isIf isIW
  by_cases h:k=3
  ·simp [h]
  ·simp [h]
theorem Sm.lbss_sub:∀ l:List Sm,(Sm.lbss isIf l).Sublist (Sm.lbss isIW l)
 | []=>List.Sublist.refl _
 | s :: l=>by
  simp only [Sm.lbss]
  exact (Sm.lbs_sub s).append (Sm.lbss_sub l)
end
theorem rl_lbs:∀ (n f:Nat) (s:Sm),mdS n s→n≤f→rlOne f s=s.lbs isIf
 | 0,_,_,h,_=>h.elim
 | n+1,0,_,_,hf=>by omega
 | n+1,f+1,s,h,hf=>by
  have ih:∀ l:List Sm,(∀ s ∈ l,mdS n s)→l.flatMap (rlOne f)=Sm.lbss isIf l:=fun l hl=>by
   rw [Sm.lbss_flat]
   induction l with
   | nil=>rfl
   | cons u l ihl =>
    rw [List.flatMap_cons,List.flatMap_cons,rl_lbs n f u (hl u (by simp)) (by omega),ihl (fun t ht=>hl t (by simp [ht]))]
  unfold mdS at h
  rcases h with ⟨v,x,hv,hx,rfl⟩ | ⟨v,y,x,hv,hy,hx,rfl⟩ | ⟨x,lab,t,e,hx,hl,ht,he,rfl⟩ | ⟨x,mx,lab,t,hx,hm,hl,ht,rfl⟩ | ⟨v,t,hv,ht,rfl⟩
  ·simp [rlOne,rlSelf,Sm.kind,Sm.thn,Sm.els,Sm.lbs,Sm.lbss,isIf]
  ·simp [rlOne,rlSelf,Sm.kind,Sm.thn,Sm.els,Sm.lbs,Sm.lbss,isIf]
  ·simp [rlOne,rlSelf,Sm.kind,Sm.thn,Sm.els,Sm.label,Sm.lbs,isIf,ih t ht,ih e he]
  ·simp [rlOne,rlSelf,Sm.kind,Sm.thn,Sm.els,Sm.lbs,Sm.lbss,isIf,ih t ht]
  ·simp [rlOne,rlSelf,Sm.kind,Sm.thn,Sm.els,Sm.lbs,Sm.lbss,isIf,ih t ht]
theorem ifs_lbs {l:List Sm} (h:∀ s ∈ l,mdS 4 s):ifsOf l=Sm.lbss isIf l:=by
 unfold ifsOf
 rw [Sm.lbss_flat]
 induction l with
 | nil=>rfl
 | cons u l ih=>rw [List.flatMap_cons,List.flatMap_cons,rl_lbs 4 20 u (h u (by simp)) (by omega),ih (fun t ht=>h t (by simp [ht]))]
theorem ExG.use {V U vs ar:List ByteArray} (hV:∀ s ∈ V,s ∈ vs) (hU:∀ s ∈ U,s ∈ ar):∀ {d:Nat} {t:T},ExG V U d t→useB vs ar t=true:=by
 intro d t h
 induction h with
 | nu d n h=>rfl
 | nm d s h=>exact hasB_iff.2 (hV s h)
 | ix d s t h _ ih=>simp only [useB,Bool.and_eq_true]; exact ⟨hasB_iff.2 (hU s h),ih⟩
 | bn d o a b _ _ _ ia ib=>simp only [useB,Bool.and_eq_true]; exact ⟨ia,ib⟩
theorem ExG.wd {V U:List ByteArray}:∀ {d:Nat} {t:T},ExG V U d t→wdT t=true:=by
 intro d t h
 induction h with
 | nu d n h=>simp only [wdT,Bool.and_eq_true,decide_eq_true_eq]; omega
 | nm d s h=>rfl
 | ix d s t h _ ih=>exact ih
 | bn d o a b _ _ _ ia ib=>simp only [wdT,Bool.and_eq_true]; exact ⟨ia,ib⟩
theorem ExG.free {V U:List ByteArray} {sh:List Shd} {h:ByteArray} (hU:∀ s ∈ U,allowB sh h s=true):∀ {d:Nat} {t:T},ExG V U d t→freeB sh h t=true:=by
 intro d t hh
 induction hh with
 | nu d n h=>rfl
 | nm d s h=>rfl
 | ix d s t h _ ih=>simp only [freeB,Bool.and_eq_true]; exact ⟨hU s h,ih⟩
 | bn d o a b _ _ _ ia ib=>simp only [freeB,Bool.and_eq_true]; exact ⟨ia,ib⟩
def Rgt (vs ar rs:List ByteArray) (sh:List Shd) (h:ByteArray) (s:Sm):Prop:=s.nms vs ar rs=true∧s.wds=true∧s.lck sh h=true
theorem rgt_all {vs ar rs:List ByteArray} {sh:List Shd} {h:ByteArray} {l:List Sm} (hl:∀ s ∈ l,Rgt vs ar rs sh h s):Sm.nmss vs ar rs l=true∧Sm.wdss l=true∧Sm.lcks sh h l=true:=by
 rw [Sm.nmss_all,Sm.wdss_all,Sm.lcks_all]
 exact ⟨List.all_eq_true.2 fun s hs=>(hl s hs).1,List.all_eq_true.2 fun s hs=>(hl s hs).2.1,List.all_eq_true.2 fun s hs=>(hl s hs).2.2⟩
theorem StG.rgt {V A vs ar rs:List ByteArray} {Sh:List Shd} (hV:∀ s ∈ V,s ∈ vs) (hU:∀ hs,∀ s ∈ usableF A Sh hs,s ∈ ar∧allowB Sh hs s=true) (hR:∀ x ∈ Sh,x.2.2 ∈ rs):∀ (d:Nat) (il:Int) (hs:ByteArray) (a b:Int) (l:List Sm),StG V A Sh d il hs a b l→0≤a→a≤b∧∀ s ∈ l,Rgt vs ar rs Sh hs s:=by
 have e1:∀ {hs:ByteArray} {d:Nat} {t:T},ExG V (usableF A Sh hs) d t→useB vs ar t=true∧wdT t=true∧freeB Sh hs t=true:=fun {hs} _ _ h=>⟨h.use hV (fun s hs2=>(hU hs s hs2).1),h.wd,h.free (fun s hs2=>(hU hs s hs2).2)⟩
 have eset:∀ {hs v:ByteArray} {x:T},v ∈ vs→(useB vs ar x=true∧wdT x=true∧freeB Sh hs x=true)→Rgt vs ar rs Sh hs (.mk 1 v [] [x] 0 0 [] []):=fun {hs v x} hv hx=>by
  refine ⟨?_,?_,?_⟩
  ·simp [Sm.nms,Sm.nmss,hasB_iff.2 hv,hx.1]
  ·simp [Sm.wds,Sm.wdss,hx.2.1]
  ·simp [Sm.lck,Sm.lcks,hx.2.2]
 have leaf:∀ {hs:ByteArray} {a b:Int} {l:List Sm},LeafG V (usableF A Sh hs) a b l→a≤b∧∀ s ∈ l,Rgt vs ar rs Sh hs s:=by
  rintro hs a b l ⟨rfl,⟨s,e,h1,h2,rfl⟩ | ⟨s,x1,x2,h1,h2,h3,rfl⟩⟩
  ·refine ⟨Int.le_refl _,fun t ht=>?_⟩
   rw [List.mem_singleton.1 ht]
   exact eset (hV s h1) (e1 h2)
  ·refine ⟨Int.le_refl _,fun t ht=>?_⟩
   rw [List.mem_singleton.1 ht]
   have q1:=e1 h2
   have q2:=e1 h3
   have q3:=hU hs s h1
   refine ⟨?_,?_,?_⟩
   ·simp [Sm.nms,Sm.nmss,hasB_iff.2 q3.1,q1.1,q2.1]
   ·simp [Sm.wds,Sm.wdss,q1.2.1,q2.2.1]
   ·simp [Sm.lck,Sm.lcks,q1.2.2,q2.2.2,q3.2]
 intro d
 induction d with
 | zero=>intro il hs a b l h _; exact leaf h
 | succ d ih =>
  intro il hs a b l h h0
  rcases h with h | ⟨hl,c,l1,l2,lab1,hc,hb1,hb2,rfl⟩ | ⟨_,hl,⟨c,mx,l1,hc,hm,hb,rfl⟩ | ⟨v,n,op,top,mx,l1,st,hv,hn,ho,ht,hm,hst,hb,rfl⟩⟩ | ⟨hs0,sh,hsh,l1,hb,rfl⟩
  ·exact leaf h
  ·obtain ⟨g1,g2⟩:=bl_all (ih il hs) hb1 (by omega)
   have g3:lab1≤b∧∀ s ∈ l2,Rgt vs ar rs Sh hs s:=by
    rcases hb2 with ⟨rfl,rfl⟩ | hb2
    ·exact ⟨Int.le_refl _,by simp⟩
    ·exact bl_all (ih il hs) hb2 (by omega)
   refine ⟨by omega,fun t ht=>?_⟩
   rw [List.mem_singleton.1 ht]
   have q:=e1 hc
   obtain ⟨a1,a2,a3⟩:=rgt_all g2
   obtain ⟨b1,b2,b3⟩:=rgt_all g3.2
   refine ⟨?_,?_,?_⟩
   ·simp [Sm.nms,q.1,a1,b1]
   ·simp [Sm.wds,q.2.1,a2,b2]
   ·simp [Sm.lck,q.2.2,a3,b3]
  ·obtain ⟨g1,g2⟩:=bl_all (ih (il+1) hs) hb (by omega)
   refine ⟨by omega,fun t ht=>?_⟩
   rw [List.mem_singleton.1 ht]
   have q:=e1 hc
   obtain ⟨a1,a2,a3⟩:=rgt_all g2
   have hm1:mx≤32:=by omega
   refine ⟨?_,?_,?_⟩
   ·simp [Sm.nms,Sm.nmss,q.1,a1]
   ·simp [Sm.wds,Sm.wdss,q.2.1,a2,hm.1,hm1]
   ·simp [Sm.lck,Sm.lcks,q.2.2,a3]
  ·obtain ⟨g1,g2⟩:=bl_all (ih (il+1) hs) hb (by omega)
   have hv2:=hV v hv
   have qt:useB vs ar top=true∧wdT top=true∧freeB Sh hs top=true:=by
    rcases ht with ⟨t,ht,rfl⟩ | ⟨s,hs,rfl⟩
    ·refine ⟨rfl,?_,rfl⟩
     simp only [wdT,Bool.and_eq_true,decide_eq_true_eq]; omega
    ·exact ⟨hasB_iff.2 (hV s hs),rfl,rfl⟩
   have qv:useB vs ar (.nm v)=true:=hasB_iff.2 hv2
   have qn:∀ n:Int,0≤n∧n≤9→wdT (.nu n)=true:=fun n hn=>by simp only [wdT,Bool.and_eq_true,decide_eq_true_eq]; omega
   have hm1:mx≤32:=by omega
   have qi:Rgt vs ar rs Sh hs (.mk 1 v [] [.bn 1 (.nm v) (.nu st)] 0 0 [] []):=eset hv2 ⟨by simp only [useB,Bool.and_eq_true]; exact ⟨hasB_iff.2 hv2,trivial⟩,by rw [wdT,Bool.and_eq_true]; exact ⟨rfl,qn st (by omega)⟩,rfl⟩
   obtain ⟨a1,a2,a3⟩:=rgt_all (l:=l1 ++ [.mk 1 v [] [.bn 1 (.nm v) (.nu st)] 0 0 [] []]) (vs:=vs) (ar:=ar) (rs:=rs) (sh:=Sh) (h:=hs) (fun s hs=>by
    rcases List.mem_append.1 hs with hs | hs
    ·exact g2 s hs
    ·rw [List.mem_singleton.1 hs]; exact qi)
   refine ⟨by omega,fun t ht=>?_⟩
   rcases List.mem_cons.1 ht with rfl | ht
   ·exact eset hv2 ⟨rfl,qn n (by omega),rfl⟩
   ·rw [List.mem_singleton.1 ht]
    have qb:useB vs ar (.bn (11+op) (.nm v) top)=true:=by simp only [useB,Bool.and_eq_true]; exact ⟨hasB_iff.2 hv2,qt.1⟩
    have qb2:wdT (.bn (11+op) (.nm v) top)=true:=by rw [wdT,Bool.and_eq_true]; exact ⟨rfl,qt.2.1⟩
    have qb3:freeB Sh hs (.bn (11+op) (.nm v) top)=true:=by rw [freeB,Bool.and_eq_true]; exact ⟨rfl,qt.2.2⟩
    refine ⟨?_,?_,?_⟩
    ·simp [Sm.nms,Sm.nmss,qb,a1]
    ·simp [Sm.wds,Sm.wdss,qb2,a2,hm.1,hm1]
    ·simp [Sm.lck,Sm.lcks,qb3,a3]
  ·obtain ⟨g1,g2⟩:=bl_all (ih il sh.2.2) hb h0
   refine ⟨g1,fun t ht=>?_⟩
   rw [List.mem_singleton.1 ht]
   obtain ⟨a1,a2,a3⟩:=rgt_all g2
   refine ⟨?_,?_,?_⟩
   ·simp [Sm.nms,Sm.nmss,hasB_iff.2 (hR sh hsh),a1]
   ·simp [Sm.wds,Sm.wdss,a2]
   ·rw [hs0]; simp [Sm.lck,Sm.lcks,a3]
end Go.Proofs.YtalkkcfojplmdaaGreatDoor
end