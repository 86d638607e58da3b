import Derived.Test.YtalkkcfojplmdaaGreatDoorMn3
import Derived.Test.YtalkkcfojplmdaaGreatDoorProg
import Derived.Shelf.Strconv.Itoa3
import Derived.Lib.ItoaLen
section
namespace Go.Proofs.YtalkkcfojplmdaaGreatDoor
open Go.Vc
attribute [local irreducible] JL JC JQ OpWp Con ConN
attribute [local irreducible] byteAt runLen isL isD isName hasW nameB smallB plainB shpF
set_option maxHeartbeats 4000000
def inB (x:Inp):Bool:=nameB x.1 && smallB x.2.1 && smallB x.2.2
def arB (x:Arr):Bool:=nameB x.1 && plainB x.2
def mdB (x:Md):Bool:=nameB x.1 && nameB x.2.1 && smallB x.2.2.1 && smallB x.2.2.2
def clB (x:Clm):Bool:=plainB x.1 && plainB x.2
def shB (x:Shd):Bool:=nameB x.1 && plainB x.2.1 && nameB x.2.2
def hdB (t:Tk):Bool:=nameB t.name && plainB t.period && plainB t.deadline && plainB t.priority && plainB t.jitter
def okTk (t:Tk):Bool:=hdB t && okSs 20 t.body && t.inputs.all inB && t.vars.all nameB && t.arrays.all arB && t.modes.all mdB && t.claims.all clB
def okPg (p:Pg):Bool:=p.res.all nameB && p.shared.all shB && p.tasks.all okTk
theorem rtaskB_c (t:Tk):Con Tryz.prog 199 [.row t.row] [] (fun K=>K (Bl (okTk t)) []):=by
 have hS:=rstmtsB_c 20 t.body (by omega)
 refine con_intro Tryz.func199 O O b_ (fun c hc=>ZD (fun bx=>?_))
 refine F_ O (L_ 0 O (o_ O (bm_ O (rnameB_c _) (o_ O (cd_ O (M_ O (jl_or 4 4 O O O O (nb O) ?_)))))))
 apply Exists.intro
 refine ⟨fun hb1=>?_,?_⟩
 refine Za ?_
 exact WC
 refine M_ O (jl_or 4 10 O O O O (nb O) ?_)
 apply Exists.intro
 refine ⟨fun hb1=>?_,?_⟩
 refine Za ?_
 exact WC
 refine M_ O (jl_or 4 16 O O O O (nb O) ?_)
 apply Exists.intro
 refine ⟨fun hb1=>?_,?_⟩
 refine Za ?_
 exact WC
 refine M_ O (jl_or 4 22 O O O O (nb O) ?_)
 apply Exists.intro
 refine ⟨fun hb1=>?_,?_⟩
 refine Za ?_
 exact WC
 refine M_ O (jl_or 4 28 O O O O (nb O) ?_)
 apply Exists.intro
 refine ⟨fun hb1=>?_,?_⟩
 refine Za ?_
 exact bm_ O (hS) (ah_ O h_ b_ (cd_ O (ak_ (jq_seg 4 O O O (List.Perm.refl _)))))
 refine T_ (jc_cond O (fun hn=>?_) (fun hy=>?_))
 ·have hp:(hdB t && okSs 20 t.body)=false:=by
   cases hcs:(hdB t && okSs 20 t.body) with
   | false=>rfl
   | true =>
    exfalso
    simp only [hdB,Bool.and_eq_true] at hcs
    simp [hcs] at hn
  have hres:okTk t=false:=by unfold okTk; rw [hp]; rfl
  refine R_ (E_ O (T_ (ar_ (aw_ (jq_ret1 O O [] O (fun K h=>by rw [hres] at h; exact h))))))
 have h0:(hdB t && okSs 20 t.body)=true:=by simpa [hdB,and_assoc] using hy
 clear hy
 refine as_ (al_ (am_ (jc_cut (ι:=Unit) [] (fun _=>(t.inputs).all inB=true) (fun _=>[(1,.cell (.val (.pointer (some ⟨bx,0,none⟩))))]) (fun _=>[.blk bx 39 t.row]) ?_ ?_)))
 ·refine R_ (E_ O (T_ (au_ (jc_loopS (ι:=Nat) [] (fun k=>k≤(t.inputs).length∧((t.inputs).take k).all inB=true) (fun k=>(3,In .i64 (k:Int)) :: [(1,.cell (.val (.pointer (some ⟨bx,0,none⟩))))]) (fun _=>[.blk bx 39 t.row]) (fun k=>(t.inputs).length - k) 0 ⟨Nat.zero_le _,rfl⟩ ?_ ?_ ?_))))
  ·exact Wx
  ·exact Wv
  rintro k ⟨hk,hall⟩
  have eL:((t.inputs).map InRow).length=(t.inputs).length:=List.length_map _
  by_cases hlt:k < (t.inputs).length
  ·have hlt2:(k:Int) < (((t.inputs).map InRow).length:Int):=by omega
   refine ZA ?_
   refine Zb (fun hlen=>?_)
   refine YY ?_
   refine ZI ?_
   refine Yt ?_
   refine bm_ O (rnameB_c _) (o_ O (cd_ O (M_ O (jl_or 8 8 O O O O (nb O) ?_))))
   apply Exists.intro
   refine ⟨fun hb1=>?_,?_⟩
   refine Za ?_
   refine Ym ?_
   exact bm_ O (rsmallB_c _) (ah_ O h_ b_ (cd_ O (ak_ (jq_seg 8 O O O (List.Perm.refl _)))))
   refine M_ O (jl_or 8 18 O O O O (nb O) ?_)
   apply Exists.intro
   refine ⟨fun hb1=>?_,?_⟩
   refine Za ?_
   refine Ym ?_
   exact bm_ O (rsmallB_c _) (ah_ O h_ b_ (cd_ O (ak_ (jq_seg 8 O O O (List.Perm.refl _)))))
   refine T_ (jc_cond O (fun hn=>?_) (fun hy=>?_))
   ·have hp:inB (t.inputs)[k]=false:=by
     cases hcs:inB (t.inputs)[k] with
     | false=>rfl
     | true =>
      exfalso
      try simp only [inB,Bool.and_eq_true] at hcs
      simp [hcs] at hn
    have hno:(t.inputs).all inB=false:=all_no hlt hp
    have hres:okTk t=false:=by unfold okTk; simp [hno]
    refine Zr ?_
    refine aw_ (jq_ret1 O O [] O (fun K h=>by rw [hres] at h; exact h))
   ·have hp:inB (t.inputs)[k]=true:=by simpa [inB,and_assoc] using hy
    refine as_ (Zj ?_)
    refine jq_againS (k+1) ⟨hlt,all_snoc hlt hall hp⟩ g_ ?_ ?_
    ·exact Wx
    ·exact Wv
  ·have hlt2:¬ (k:Int) < (((t.inputs).map InRow).length:Int):=by omega
   refine ZA ?_
   refine Zh (fun hlen=>?_)
   refine jq_cutS () (by rw [List.take_of_length_le g_] at hall; exact hall) ?_ ?_
   ·exact Wx
   ·exact Wv
 intro _ h1
 refine am_ (jc_cut (ι:=Unit) [] (fun _=>(t.vars).all nameB=true) (fun _=>[(1,.cell (.val (.pointer (some ⟨bx,0,none⟩))))]) (fun _=>[.blk bx 39 t.row]) ?_ ?_)
 ·refine R_ (E_ O (T_ (au_ (jc_loopS (ι:=Nat) [] (fun k=>k≤(t.vars).length∧((t.vars).take k).all nameB=true) (fun k=>(4,In .i64 (k:Int)) :: [(1,.cell (.val (.pointer (some ⟨bx,0,none⟩))))]) (fun _=>[.blk bx 39 t.row]) (fun k=>(t.vars).length - k) 0 ⟨Nat.zero_le _,rfl⟩ ?_ ?_ ?_))))
  ·exact Wx
  ·exact Wv
  rintro k ⟨hk,hall⟩
  have eL:((t.vars).map Wrow).length=(t.vars).length:=List.length_map _
  by_cases hlt:k < (t.vars).length
  ·have hlt2:(k:Int) < (((t.vars).map Wrow).length:Int):=by omega
   refine ZA ?_
   refine Zb (fun hlen=>?_)
   refine YY ?_
   refine ZI ?_
   refine cb_ O O (o_ O (bm_ O (rnameB_c _) (o_ O (cd_ O (T_ (jc_cond O (fun hn=>?_) (fun hy=>?_)))))))
   ·have hp:nameB (t.vars)[k]=false:=by
     cases hcs:nameB (t.vars)[k] with
     | false=>rfl
     | true =>
      exfalso
      skip
      simp [hcs] at hn
    have hno:(t.vars).all nameB=false:=all_no hlt hp
    have hres:okTk t=false:=by unfold okTk; simp [hno]
    refine Zr ?_
    refine aw_ (jq_ret1 O O [] O (fun K h=>by rw [hres] at h; exact h))
   ·have hp:nameB (t.vars)[k]=true:=by simpa [and_assoc] using hy
    refine as_ (Zj ?_)
    refine jq_againS (k+1) ⟨hlt,all_snoc hlt hall hp⟩ g_ ?_ ?_
    ·exact Wx
    ·exact Wv
  ·have hlt2:¬ (k:Int) < (((t.vars).map Wrow).length:Int):=by omega
   refine ZA ?_
   refine Zh (fun hlen=>?_)
   refine jq_cutS () (by rw [List.take_of_length_le g_] at hall; exact hall) ?_ ?_
   ·exact Wx
   ·exact Wv
 intro _ h2
 refine am_ (jc_cut (ι:=Unit) [] (fun _=>(t.arrays).all arB=true) (fun _=>[(1,.cell (.val (.pointer (some ⟨bx,0,none⟩))))]) (fun _=>[.blk bx 39 t.row]) ?_ ?_)
 ·refine R_ (E_ O (T_ (au_ (jc_loopS (ι:=Nat) [] (fun k=>k≤(t.arrays).length∧((t.arrays).take k).all arB=true) (fun k=>(5,In .i64 (k:Int)) :: [(1,.cell (.val (.pointer (some ⟨bx,0,none⟩))))]) (fun _=>[.blk bx 39 t.row]) (fun k=>(t.arrays).length - k) 0 ⟨Nat.zero_le _,rfl⟩ ?_ ?_ ?_))))
  ·exact Wx
  ·exact Wv
  rintro k ⟨hk,hall⟩
  have eL:((t.arrays).map ArRow).length=(t.arrays).length:=List.length_map _
  by_cases hlt:k < (t.arrays).length
  ·have hlt2:(k:Int) < (((t.arrays).map ArRow).length:Int):=by omega
   refine ZA ?_
   refine Zb (fun hlen=>?_)
   refine YY ?_
   refine ZI ?_
   refine Yt ?_
   refine bm_ O (rnameB_c _) (o_ O (cd_ O (M_ O (jl_or 8 8 O O O O (nb O) ?_))))
   apply Exists.intro
   refine ⟨fun hb1=>?_,?_⟩
   refine Za ?_
   refine Ym ?_
   exact bm_ O (rplainB_c _) (ah_ O h_ b_ (cd_ O (ak_ (jq_seg 8 O O O (List.Perm.refl _)))))
   refine T_ (jc_cond O (fun hn=>?_) (fun hy=>?_))
   ·have hp:arB (t.arrays)[k]=false:=by
     cases hcs:arB (t.arrays)[k] with
     | false=>rfl
     | true =>
      exfalso
      try simp only [arB,Bool.and_eq_true] at hcs
      simp [hcs] at hn
    have hno:(t.arrays).all arB=false:=all_no hlt hp
    have hres:okTk t=false:=by unfold okTk; simp [hno]
    refine Zr ?_
    refine aw_ (jq_ret1 O O [] O (fun K h=>by rw [hres] at h; exact h))
   ·have hp:arB (t.arrays)[k]=true:=by simpa [arB,and_assoc] using hy
    refine as_ (Zj ?_)
    refine jq_againS (k+1) ⟨hlt,all_snoc hlt hall hp⟩ g_ ?_ ?_
    ·exact Wx
    ·exact Wv
  ·have hlt2:¬ (k:Int) < (((t.arrays).map ArRow).length:Int):=by omega
   refine ZA ?_
   refine Zh (fun hlen=>?_)
   refine jq_cutS () (by rw [List.take_of_length_le g_] at hall; exact hall) ?_ ?_
   ·exact Wx
   ·exact Wv
 intro _ h3
 refine am_ (jc_cut (ι:=Unit) [] (fun _=>(t.modes).all mdB=true) (fun _=>[(1,.cell (.val (.pointer (some ⟨bx,0,none⟩))))]) (fun _=>[.blk bx 39 t.row]) ?_ ?_)
 ·refine R_ (E_ O (T_ (au_ (jc_loopS (ι:=Nat) [] (fun k=>k≤(t.modes).length∧((t.modes).take k).all mdB=true) (fun k=>(6,In .i64 (k:Int)) :: [(1,.cell (.val (.pointer (some ⟨bx,0,none⟩))))]) (fun _=>[.blk bx 39 t.row]) (fun k=>(t.modes).length - k) 0 ⟨Nat.zero_le _,rfl⟩ ?_ ?_ ?_))))
  ·exact Wx
  ·exact Wv
  rintro k ⟨hk,hall⟩
  have eL:((t.modes).map MdRow).length=(t.modes).length:=List.length_map _
  by_cases hlt:k < (t.modes).length
  ·have hlt2:(k:Int) < (((t.modes).map MdRow).length:Int):=by omega
   refine ZA ?_
   refine Zb (fun hlen=>?_)
   refine YY ?_
   refine Zm (fun bl=>?_)
   refine Yh ?_
   refine bm_ O (rnameB_c _) (o_ O (cd_ O (M_ O (jl_or 4 4 O O O O (nb O) ?_))))
   apply Exists.intro
   refine ⟨fun hb1=>?_,?_⟩
   refine Za ?_
   exact bm_ O (rnameB_c _) (ah_ O h_ b_ (cd_ O (ak_ (jq_seg 4 O O O (List.Perm.refl _)))))
   refine M_ O (jl_or 4 10 O O O O (nb O) ?_)
   apply Exists.intro
   refine ⟨fun hb1=>?_,?_⟩
   refine Za ?_
   exact bm_ O (rsmallB_c _) (ah_ O h_ b_ (cd_ O (ak_ (jq_seg 4 O O O (List.Perm.refl _)))))
   refine M_ O (jl_or 4 16 O O O O (nb O) ?_)
   apply Exists.intro
   refine ⟨fun hb1=>?_,?_⟩
   refine Za ?_
   exact bm_ O (rsmallB_c _) (ah_ O h_ b_ (cd_ O (ak_ (jq_seg 4 O O O (List.Perm.refl _)))))
   refine T_ (jc_cond O (fun hn=>?_) (fun hy=>?_))
   ·have hp:mdB (t.modes)[k]=false:=by
     cases hcs:mdB (t.modes)[k] with
     | false=>rfl
     | true =>
      exfalso
      try simp only [mdB,Bool.and_eq_true] at hcs
      simp [hcs] at hn
    have hno:(t.modes).all mdB=false:=all_no hlt hp
    have hres:okTk t=false:=by unfold okTk; simp [hno]
    refine Zr ?_
    refine aw_ (jq_ret1 O O [] O (fun K h=>by rw [hres] at h; exact h))
   ·have hp:mdB (t.modes)[k]=true:=by simpa [mdB,and_assoc] using hy
    refine as_ (Zj ?_)
    refine jq_againS (k+1) ⟨hlt,all_snoc hlt hall hp⟩ g_ ?_ ?_
    ·exact WD
    ·exact Wv
  ·have hlt2:¬ (k:Int) < (((t.modes).map MdRow).length:Int):=by omega
   refine ZA ?_
   refine Zh (fun hlen=>?_)
   refine jq_cutS () (by rw [List.take_of_length_le g_] at hall; exact hall) ?_ ?_
   ·exact Wx
   ·exact Wv
 intro _ h4
 refine am_ (jc_cut (ι:=Unit) [] (fun _=>(t.claims).all clB=true) (fun _=>[(1,.cell (.val (.pointer (some ⟨bx,0,none⟩))))]) (fun _=>[.blk bx 39 t.row]) ?_ ?_)
 ·refine R_ (E_ O (T_ (au_ (jc_loopS (ι:=Nat) [] (fun k=>k≤(t.claims).length∧((t.claims).take k).all clB=true) (fun k=>(8,In .i64 (k:Int)) :: [(1,.cell (.val (.pointer (some ⟨bx,0,none⟩))))]) (fun _=>[.blk bx 39 t.row]) (fun k=>(t.claims).length - k) 0 ⟨Nat.zero_le _,rfl⟩ ?_ ?_ ?_))))
  ·exact Wx
  ·exact Wv
  rintro k ⟨hk,hall⟩
  have eL:((t.claims).map ClRow).length=(t.claims).length:=List.length_map _
  by_cases hlt:k < (t.claims).length
  ·have hlt2:(k:Int) < (((t.claims).map ClRow).length:Int):=by omega
   refine ZA ?_
   refine Zb (fun hlen=>?_)
   refine YY ?_
   refine ZI ?_
   refine Yt ?_
   refine bm_ O (rplainB_c _) (o_ O (cd_ O (M_ O (jl_or 8 8 O O O O (nb O) ?_))))
   apply Exists.intro
   refine ⟨fun hb1=>?_,?_⟩
   refine Za ?_
   refine Ym ?_
   exact bm_ O (rplainB_c _) (ah_ O h_ b_ (cd_ O (ak_ (jq_seg 8 O O O (List.Perm.refl _)))))
   refine T_ (jc_cond O (fun hn=>?_) (fun hy=>?_))
   ·have hp:clB (t.claims)[k]=false:=by
     cases hcs:clB (t.claims)[k] with
     | false=>rfl
     | true =>
      exfalso
      try simp only [clB,Bool.and_eq_true] at hcs
      simp [hcs] at hn
    have hno:(t.claims).all clB=false:=all_no hlt hp
    have hres:okTk t=false:=by unfold okTk; simp [hno]
    refine Zr ?_
    refine aw_ (jq_ret1 O O [] O (fun K h=>by rw [hres] at h; exact h))
   ·have hp:clB (t.claims)[k]=true:=by simpa [clB,and_assoc] using hy
    refine as_ (Zj ?_)
    refine jq_againS (k+1) ⟨hlt,all_snoc hlt hall hp⟩ g_ ?_ ?_
    ·exact Wx
    ·exact Wv
  ·have hlt2:¬ (k:Int) < (((t.claims).map ClRow).length:Int):=by omega
   refine ZA ?_
   refine Zh (fun hlen=>?_)
   refine jq_cutS () (by rw [List.take_of_length_le g_] at hall; exact hall) ?_ ?_
   ·exact Wx
   ·exact Wv
 intro _ h5
 have hres:okTk t=true:=by unfold okTk; rw [h0,h1,h2,h3,h4,h5]; rfl
 refine R_ (E_ O (T_ (ar_ (jq_ret1 O O [] O (fun K h=>by rw [hres] at h; exact h)))))
theorem rprintableB_c (p:Pg):Con Tryz.prog 160 [.row p.row] [] (fun K=>K (Bl (okPg p)) []):=by
 refine con_intro Tryz.func160 O O b_ (fun c hc=>?_)
 skip
 refine Wu (fun bx=>?_)
 refine am_ (jc_cut (ι:=Unit) [] (fun _=>(p.res).all nameB=true) (fun _=>[(1,.cell (.val (.pointer (some ⟨bx,0,none⟩))))]) (fun _=>[.blk bx 31 p.row]) ?_ ?_)
 ·refine R_ (E_ O (T_ (au_ (jc_loopS (ι:=Nat) [] (fun k=>k≤(p.res).length∧((p.res).take k).all nameB=true) (fun k=>(3,In .i64 (k:Int)) :: [(1,.cell (.val (.pointer (some ⟨bx,0,none⟩))))]) (fun _=>[.blk bx 31 p.row]) (fun k=>(p.res).length - k) 0 ⟨Nat.zero_le _,rfl⟩ ?_ ?_ ?_))))
  ·exact Wx
  ·exact Wv
  rintro k ⟨hk,hall⟩
  have eL:((p.res).map Wrow).length=(p.res).length:=List.length_map _
  by_cases hlt:k < (p.res).length
  ·have hlt2:(k:Int) < (((p.res).map Wrow).length:Int):=by omega
   refine ZA ?_
   refine Zb (fun hlen=>?_)
   refine YY ?_
   refine ZI ?_
   refine cb_ O O (o_ O (bm_ O (rnameB_c _) (o_ O (cd_ O (T_ (jc_cond O (fun hn=>?_) (fun hy=>?_)))))))
   ·have hp:nameB (p.res)[k]=false:=by
     cases hcs:nameB (p.res)[k] with
     | false=>rfl
     | true =>
      exfalso
      skip
      simp [hcs] at hn
    have hno:(p.res).all nameB=false:=all_no hlt hp
    have hres:okPg p=false:=by unfold okPg; simp [hno]
    refine Zr ?_
    refine aw_ (jq_ret1 O O [] O (fun K h=>by rw [hres] at h; exact h))
   ·have hp:nameB (p.res)[k]=true:=by simpa [and_assoc] using hy
    refine as_ (Zj ?_)
    refine jq_againS (k+1) ⟨hlt,all_snoc hlt hall hp⟩ g_ ?_ ?_
    ·exact Wx
    ·exact Wv
  ·have hlt2:¬ (k:Int) < (((p.res).map Wrow).length:Int):=by omega
   refine ZA ?_
   refine Zh (fun hlen=>?_)
   refine jq_cutS () (by rw [List.take_of_length_le g_] at hall; exact hall) ?_ ?_
   ·exact Wx
   ·exact Wv
 intro _ h1
 refine am_ (jc_cut (ι:=Unit) [] (fun _=>(p.shared).all shB=true) (fun _=>[(1,.cell (.val (.pointer (some ⟨bx,0,none⟩))))]) (fun _=>[.blk bx 31 p.row]) ?_ ?_)
 ·refine R_ (E_ O (T_ (au_ (jc_loopS (ι:=Nat) [] (fun k=>k≤(p.shared).length∧((p.shared).take k).all shB=true) (fun k=>(4,In .i64 (k:Int)) :: [(1,.cell (.val (.pointer (some ⟨bx,0,none⟩))))]) (fun _=>[.blk bx 31 p.row]) (fun k=>(p.shared).length - k) 0 ⟨Nat.zero_le _,rfl⟩ ?_ ?_ ?_))))
  ·exact Wx
  ·exact Wv
  rintro k ⟨hk,hall⟩
  have eL:((p.shared).map ShRow).length=(p.shared).length:=List.length_map _
  by_cases hlt:k < (p.shared).length
  ·have hlt2:(k:Int) < (((p.shared).map ShRow).length:Int):=by omega
   refine ZA ?_
   refine Zb (fun hlen=>?_)
   refine YY ?_
   refine Zm (fun bl=>?_)
   refine R_ (F_ O (F_ O (L_ 0 O (o_ O (bm_ O (rnameB_c _) (o_ O (cd_ O (M_ O (jl_or 5 5 O O O O (nb O) ?_)))))))))
   apply Exists.intro
   refine ⟨fun hb1=>?_,?_⟩
   refine ah_ O h_ b_ (bf_ O O O b_ (Za ?_))
   exact bm_ O (rplainB_c _) (ah_ O h_ b_ (cd_ O (ak_ (jq_seg 5 O O O (List.Perm.refl _)))))
   refine M_ O (jl_or 4 12 O O O O (nb O) ?_)
   apply Exists.intro
   refine ⟨fun hb1=>?_,?_⟩
   refine Za ?_
   exact bm_ O (rnameB_c _) (ah_ O h_ b_ (cd_ O (ak_ (jq_seg 4 O O O (List.Perm.refl _)))))
   refine T_ (jc_cond O (fun hn=>?_) (fun hy=>?_))
   ·have hp:shB (p.shared)[k]=false:=by
     cases hcs:shB (p.shared)[k] with
     | false=>rfl
     | true =>
      exfalso
      try simp only [shB,Bool.and_eq_true] at hcs
      simp [hcs] at hn
    have hno:(p.shared).all shB=false:=all_no hlt hp
    have hres:okPg p=false:=by unfold okPg; simp [hno]
    refine Zr ?_
    refine aw_ (jq_ret1 O O [] O (fun K h=>by rw [hres] at h; exact h))
   ·have hp:shB (p.shared)[k]=true:=by simpa [shB,and_assoc] using hy
    refine as_ (Zj ?_)
    refine jq_againS (k+1) ⟨hlt,all_snoc hlt hall hp⟩ g_ ?_ ?_
    ·exact WD
    ·exact Wv
  ·have hlt2:¬ (k:Int) < (((p.shared).map ShRow).length:Int):=by omega
   refine ZA ?_
   refine Zh (fun hlen=>?_)
   refine jq_cutS () (by rw [List.take_of_length_le g_] at hall; exact hall) ?_ ?_
   ·exact Wx
   ·exact Wv
 intro _ h2
 refine am_ (jc_cut (ι:=Unit) [] (fun _=>(p.tasks).all okTk=true) (fun _=>[(1,.cell (.val (.pointer (some ⟨bx,0,none⟩))))]) (fun _=>[.blk bx 31 p.row]) ?_ ?_)
 ·refine R_ (E_ O (T_ (au_ (jc_loopS (ι:=Nat) [] (fun k=>k≤(p.tasks).length∧((p.tasks).take k).all okTk=true) (fun k=>(6,In .i64 (k:Int)) :: [(1,.cell (.val (.pointer (some ⟨bx,0,none⟩))))]) (fun _=>[.blk bx 31 p.row]) (fun k=>(p.tasks).length - k) 0 ⟨Nat.zero_le _,rfl⟩ ?_ ?_ ?_))))
  ·exact Wx
  ·exact Wv
  rintro k ⟨hk,hall⟩
  have eL:((p.tasks).map Tk.row).length=(p.tasks).length:=List.length_map _
  by_cases hlt:k < (p.tasks).length
  ·have hlt2:(k:Int) < (((p.tasks).map Tk.row).length:Int):=by omega
   refine ZA ?_
   refine Zb (fun hlen=>?_)
   refine YY ?_
   refine ZI ?_
   refine cr_ O O O (o_ O (bm_ O (rtaskB_c _) (o_ O (cd_ O (T_ (jc_cond O (fun hn=>?_) (fun hy=>?_)))))))
   ·have hp:okTk (p.tasks)[k]=false:=by
     cases hcs:okTk (p.tasks)[k] with
     | false=>rfl
     | true =>
      exfalso
      skip
      simp [hcs] at hn
    have hno:(p.tasks).all okTk=false:=all_no hlt hp
    have hres:okPg p=false:=by unfold okPg; simp [hno]
    refine Zr ?_
    refine aw_ (jq_ret1 O O [] O (fun K h=>by rw [hres] at h; exact h))
   ·have hp:okTk (p.tasks)[k]=true:=by simpa [and_assoc] using hy
    refine as_ (Zj ?_)
    refine jq_againS (k+1) ⟨hlt,all_snoc hlt hall hp⟩ g_ ?_ ?_
    ·exact Wx
    ·exact Wv
  ·have hlt2:¬ (k:Int) < (((p.tasks).map Tk.row).length:Int):=by omega
   refine ZA ?_
   refine Zh (fun hlen=>?_)
   refine jq_cutS () (by rw [List.take_of_length_le g_] at hall; exact hall) ?_ ?_
   ·exact Wx
   ·exact Wv
 intro _ h3
 have hres:okPg p=true:=by unfold okPg; rw [h1,h2,h3]; rfl
 refine R_ (E_ O (T_ (ar_ (jq_ret1 O O [] O (fun K h=>by rw [hres] at h; exact h)))))
end Go.Proofs.YtalkkcfojplmdaaGreatDoor
end
section
namespace Go.Proofs.YtalkkcfojplmdaaGreatDoor
open Go.Vc
set_option maxHeartbeats 4000000
attribute [local irreducible] JL JC JQ OpWp Con ConN
theorem flat_take {f:Sm→List Int} {l:List Sm} {k:Nat} (h:k < l.length):(l.take (k+1)).flatMap f=(l.take k).flatMap f ++ f l[k]:=by
 rw [List.take_succ_eq_append_getElem h,List.flatMap_append]; simp
theorem flat_le {f:Sm→List Int} {l:List Sm} {k:Nat} (h:k < l.length):((l.take k).flatMap f).length+(f l[k]).length≤(l.flatMap f).length:=by
 have h1:l=l.take k ++ l[k] :: l.drop (k+1):=by rw [List.getElem_cons_drop,List.take_append_drop]
 have h2:(l.flatMap f).length=((l.take k ++ l[k] :: l.drop (k+1)).flatMap f).length:=by rw [← h1]
 rw [h2]
 simp only [List.flatMap_append,List.flatMap_cons,List.length_append]
 omega
def rlSelf (s:Sm):List Int:=if s.kind=3 then [s.label] else []
def rlOne:Nat→Sm→List Int
 | 0,_=>[]
 | f+1,s=>rlSelf s ++ s.thn.flatMap (rlOne f) ++ s.els.flatMap (rlOne f)
theorem rl_zero (l:List Sm):l.flatMap (rlOne 0)=[]:=by
 induction l with
 | nil=>rfl
 | cons s l ih=>simp [rlOne]
theorem rlabels_c:∀ (f:Nat) (l:List Sm) (depth:Int),0≤depth→depth+f=21→(l.flatMap (rlOne f)).length≤1000000 →
 Con Tryz.prog 74 [.cell (.list (l.map Sm.row)),In .i64 depth,In .i64 3] [] (fun K=>K (.cell (.list ((l.flatMap (rlOne f)).map Irow))) []):=by
 intro f
 induction f with
 | zero =>
  intro l depth h0 h1 hlim
  refine con_intro Tryz.func74 O O b_ (fun c hc=>R_ (E_ O (T_ (ZK ?_))))
  refine jc_loop [0,1,2,6,7] (fun _:Nat=>True) (fun _=>[(8,In .i64 0)]) (fun _=>[]) (fun _=>0) 0 [] trivial O ?_ ?_
  ·exact Wv
  ·intro k _
   refine am_ (am_ (jc_cut (ι:=Unit) [6,7] (fun _=>True) (fun _=>[(17,Bl false)]) (fun _=>[]) ?_ ?_))
   ·by_cases hl:(0:Int) < ((l.map Sm.row).length:Int)
    ·refine an_ (M_ O (M_ O (o_ O (br_ O (fun hlen=>o_ O (bw_ O O (M_ O (Yv ?_))))))))
     refine cu_ O O (o_ O (bp_ O u_ O (ak_ (jq_cut () [] trivial O ?_))))
     rw [show decide (depth≤20)=false from decide_eq_false (by omega)]
     exact Wv
    ·refine an_ (M_ O (M_ O (o_ O (br_ O (fun hlen=>o_ O (bw_ O O (M_ O (ai_ O w_ b_ (YC ?_)))))))))
     refine ak_ (jq_cut () [] trivial O ?_)
     exact Wv
   ·intro _ _
    skip
    refine jc_cond rfl (fun h=>by cases h) (fun _=>Yo ?_)
    refine T_ (ar_ ?_)
    rw [rl_zero]
    refine jq_sle 6 O (SLe.cell CLe.nil) (jq_ret1 O O [] O (fun K h=>h))
 | succ f ih =>
  intro l depth h0 h1 hlim
  refine con_intro Tryz.func74 O O b_ (fun c hc=>R_ (E_ O (T_ (ZK ?_))))
  refine jc_ownNil 3 1 g_ ?_
  refine jc_loop (ι:=Nat × Value) [0,1,2] (fun i=>i.1≤l.length) (fun i=>[(7,.cell (.val i.2)),(8,In .i64 (i.1:Int))]) (fun i=>[.own i.2 3 1 (((l.take i.1).flatMap (rlOne (f+1))).map Irow)]) (fun i=>l.length - i.1) (0,.slice none 0 0) [0] (Nat.zero_le _) O ?_ ?_
  ·exact Wv
  ·rintro ⟨k,v⟩ hk
   dsimp only at hk ⊢
   by_cases hlt:(k:Int) < ((l.map Sm.row).length:Int)
   ·refine Yl (fun hlen=>?_)
    refine M_ O (Yv ?_)
    refine cu_ O O (o_ O (bp_ O u_ O (T_ (jc_condd O (fun _=>?_) (fun h=>absurd (show depth≤20 by omega) h)))))
    have hmax:l.length≤9223372036854775807:=by simpa using hlen
    simp only [List.length_map,Int.ofNat_lt] at hlt
    have hle:=flat_le (f:=rlOne (f+1)) hlt
    have e2:rlOne (f+1) l[k]=rlSelf l[k] ++ l[k].thn.flatMap (rlOne f) ++ l[k].els.flatMap (rlOne f):=rfl
    have hl2:=congrArg List.length e2
    simp only [List.length_append] at hl2
    refine as_ (al_ (B_ (R_ (M_ O (M_ O (Zq ?_))))))
    refine Yn (fun bl=>?_)
    refine am_ (am_ (jc_cut (ι:=Unit) [0,1,2,7,8,9] (fun _=>True) (fun _=>[(41,Bl (decide (l[k].kind=3)))]) (fun _=>[.own v 3 1 (((l.take k).flatMap (rlOne (f+1))).map Irow),.blk bl 66 l[k].row']) ?_ ?_))
    ·by_cases h3:l[k].kind=3
     ·refine an_ (YO ?_)
      refine Yg ?_
      refine o_ O (bp_ O u_ O (M_ O (Zs ?_)))
      refine Yf ?_
      refine Ze ?_
      refine bd_ O ?_
      refine ah_ O O b_ (bn_ O O (ah_ O O b_ (bv_ O O O (o_ O (bp_ O O O (ak_ (jq_cut () [1,0] trivial O ?_)))))))
      exact Wv
     ·by_cases h4:l[k].kind=4
      ·refine an_ (F_ O (L_ 0 O (o_ O (bn_ O O (ZJ ?_)))))
       refine ah_ O w_ b_ (bn_ O O (o_ O (bv_ O w_ O (M_ O (Yv ?_)))))
       refine bn_ O O (ah_ O u_ b_ (bd_ O (Ze ?_)))
       refine bd_ O ?_
       refine ah_ O O b_ (bn_ O O (ah_ O u_ b_ (bv_ O O O (o_ O (bp_ O u_ O (ak_ (jq_cut () [1,0] trivial O ?_)))))))
       exact Wv
      ·refine an_ (F_ O (L_ 0 O (o_ O (bn_ O O (ZJ ?_)))))
       refine ah_ O w_ b_ (bn_ O O (o_ O (bv_ O w_ O (M_ O (ai_ O w_ b_ (ai_ O w_ b_ (ai_ O w_ b_ (Wa ?_))))))))
       refine aj_ O b_ (YC ?_)
       refine ak_ ?_
       rw [show decide (l[k].kind=3)=false from decide_eq_false h3]
       refine jq_cut () [1,0] trivial O ?_
       exact Wv
    intro _ _
    refine jc_cut (ι:=Value) [0,1,2,8,9] (fun _=>True) (fun v=>[(7,.cell (.val v))]) (fun v=>[.own v 3 1 (((l.take k).flatMap (rlOne (f+1)) ++ rlSelf l[k]).map Irow),.blk bl 66 l[k].row']) ?_ ?_
    ·have hself:(rlSelf l[k]).length≤(rlOne (f+1) l[k]).length:=by rw [e2]; simp only [List.length_append]; omega
     refine jc_condd O (fun hw=>?_) (fun hw=>?_)
     ·have e1:rlSelf l[k]=[l[k].label]:=by simp [rlSelf,hw]
      rw [e1] at hself ⊢
      simp only [List.length_cons,List.length_nil] at hself
      refine an_ (M_ O (F_ O (L_ 1 O (YF ?_))))
      refine o_ O (ow_append1 0 (l[k].label) O O O O O O O (fun _=>O) (by show (_+_) * 8≤_; first | omega | (simp only [List.length_append]; omega)) (by first | omega | (simp only [List.length_append]; omega)) (fun v1 hv1=>E_ O (ak_ (jq_cut v1 [0,0] trivial O ?_))))
      exact Wv
     ·have e1:rlSelf l[k]=[]:=by simp [rlSelf,hw]
      rw [e1,List.append_nil]
      refine as_ (jq_cut v [0,0] trivial O ?_)
      exact Wv
    ·intro v1 _
     refine R_ (M_ O (F_ O (L_ 1 O (M_ O (Wq ?_)))))
     refine o_ O (bm_ O (ih _ _ g_ g_ g_) (o_ O (YD (fun v2 hv2=>?_))))
     refine Wq ?_
     refine o_ O (bm_ O (ih _ _ g_ g_ g_) (o_ O (Z4 (fun v3 hv3=>?_))))
     refine Zj ?_
     refine jq_again (i:=(k,v)) (k+1,v3) [0] hlt (by dsimp only; omega) (own_eq (congrArg (List.map Irow) ?_)) ?_
     ·rw [flat_take hlt,e2]
      simp only [List.append_assoc]
     ·exact Wv
   ·refine Yl (fun hlen=>?_)
    refine M_ O (ai_ O w_ b_ (YC ?_))
    refine T_ (jc_cond rfl (fun h=>by cases h) (fun _=>av_ (ax_ (ax_ (ba_ ?_)))))
    refine al_ (R_ (M_ O (E_ O (T_ (ar_ ?_)))))
    simp only [List.length_map,Int.ofNat_lt] at hlt
    rw [List.take_of_length_le (Nat.le_of_not_lt hlt)]
    refine jq_freeze 6 0 O O (by rw [hc]; simp [hb]) (jq_ret1 O O [] O (fun K h=>h))
def ifsOf (l:List Sm):List Int:=l.flatMap (rlOne 20)
theorem Ifs_c (l:List Sm) (h:(ifsOf l).length≤1000000):Con Tryz.prog 33 [.cell (.list (l.map Sm.row))] [] (fun K=>K (.cell (.list ((ifsOf l).map Irow))) []):=by
 refine con_intro Tryz.func33 O O b_ (fun c hc=>R_ (E_ O (T_ (R_ (M_ O (o_ O (bm_ O (rlabels_c 20 _ _ g_ g_ h) (E_ O (T_ (ar_ (jq_ret1 O O [] O (fun K h=>h))))))))))))
end Go.Proofs.YtalkkcfojplmdaaGreatDoor
end
section
namespace Go.Proofs.YtalkkcfojplmdaaGreatDoor
open Go.Vc
attribute [local irreducible] JL JC JQ OpWp Con ConN HOk
attribute [local irreducible] byteAt runLen isL isD isName hasW
set_option maxHeartbeats 4000000
theorem T.ind {P:T→Prop} (h:∀ t,(∀ u ∈ t.args,P u)→P t):∀ t,P t:=by
 intro t
 induction t with
 | nu n=>exact h _ (by simp [T.args])
 | nm s=>exact h _ (by simp [T.args])
 | ix s t ih=>exact h _ (by simpa [T.args] using ih)
 | bn o a b ia ib=>exact h _ (by simpa [T.args] using ⟨ia,ib⟩)
theorem sz_mem:∀ {l:List Sm} {s:Sm},s ∈ l→s.sz≤Sm.szs l
 | u :: l,s,h=>by
  rcases List.mem_cons.1 h with rfl | h
  ·simp only [Sm.szs]; omega
  ·have:=sz_mem h
   simp only [Sm.szs]; omega
theorem Sms.ind {P:List Sm→Prop} (h:∀ l,(∀ s ∈ l,P s.thn∧P s.els)→P l):∀ l,P l:=by
 have key:∀ n l,Sm.szs l≤n→P l:=by
  intro n
  induction n with
  | zero =>
   intro l hl
   refine h l (fun s hs=>?_)
   have:=sz_mem hs
   have:=Sm.sz_eq s
   omega
  | succ n ih =>
   intro l hl
   refine h l (fun s hs=>?_)
   have h1:=sz_mem hs
   have h2:=Sm.sz_eq s
   exact ⟨ih _ g_,ih _ g_⟩
 exact fun l=>key _ l (Nat.le_refl _)
theorem any_snoc {α:Type} {p:α→Bool} {l:List α} {k:Nat} (h:k < l.length) (h1:(l.take k).any p=false) (h2:p l[k]=false):(l.take (k+1)).any p=false:=by
 rw [List.take_succ_eq_append_getElem h,List.any_append,h1]
 simp [h2]
theorem any_yes2 {α:Type} {p:α→Bool} {l:List α} {k:Nat} (h:k < l.length) (h2:p l[k]=true):l.any p=true:=List.any_eq_true.2 ⟨_,List.getElem_mem h,h2⟩
theorem rhas_c (l:List ByteArray) (s:ByteArray):Con Tryz.prog 166 [.cell (.list (l.map Wrow)),Str s] [] (fun K=>K (Bl (hasB l s)) []):=by
 refine con_intro Tryz.func166 O O b_ (fun c hc=>ZK ?_)
 refine jc_loopS (ι:=Nat) [] (fun k=>k≤(l).length∧hasB (l.take k) s=false) (fun k=>(5,In .i64 (k:Int)) :: [(0,.cell (.list (l.map Wrow))),(1,Str s)]) (fun _=>[]) (fun k=>(l).length - k) 0 ⟨Nat.zero_le _,rfl⟩ ?_ ?_ ?_
 ·exact sub_end
 ·exact Wv
 rintro k ⟨hk,hIk⟩
 have eLk:((l).map Wrow).length=(l).length:=List.length_map _
 by_cases hltk:k < (l).length
 ·have hlt2k:(k:Int) < (((l).map Wrow).length:Int):=by omega
  by_cases he:l[k]=s
  ·have hres:hasB l s=true:=any_yes2 hltk (decide_eq_true he)
   refine YG ?_
   refine Zb (fun hlen=>?_)
   refine R_ (M_ O (M_ O (ZI ?_)))
   refine cb_ O O ?_
   refine M_ O (o_ O (cs_ O O (T_ (aq_ O u_ (Zr ?_)))))
   refine aw_ (jq_ret1 O O [] O (fun K h=>by rw [hres] at h; exact h))
  ·refine YG ?_
   refine Zb (fun hlen=>?_)
   refine R_ (M_ O (M_ O (ZI ?_)))
   refine cb_ O O ?_
   refine M_ O (o_ O (cs_ O O (T_ (ap_ O w_ (as_ (Zj ?_))))))
   refine jq_againS (k+1) ⟨hltk,any_snoc hltk hIk (decide_eq_false he)⟩ g_ ?_ ?_
   ·exact sub_end
   ·exact Wv
 ·have hlt2k:¬ (k:Int) < (((l).map Wrow).length:Int):=by omega
  rw [List.take_of_length_le (by omega)] at hIk
  refine YG ?_
  refine Zh (fun hlen=>?_)
  refine al_ (R_ (E_ O (T_ ?_)))
  refine ar_ (jq_ret1 O O [] O (fun K h=>by rw [hIk] at h; exact h))
theorem rhasI_c (l:List Int) (s:Int):Con Tryz.prog 172 [.cell (.list (l.map Irow)),In .i64 s] [] (fun K=>K (Bl (hasI l s)) []):=by
 refine con_intro Tryz.func172 O O b_ (fun c hc=>ZK ?_)
 refine jc_loopS (ι:=Nat) [] (fun k=>k≤(l).length∧hasI (l.take k) s=false) (fun k=>(5,In .i64 (k:Int)) :: [(0,.cell (.list (l.map Irow))),(1,In .i64 s)]) (fun _=>[]) (fun k=>(l).length - k) 0 ⟨Nat.zero_le _,rfl⟩ ?_ ?_ ?_
 ·exact sub_end
 ·exact Wv
 rintro k ⟨hk,hIk⟩
 have eLk:((l).map Irow).length=(l).length:=List.length_map _
 by_cases hltk:k < (l).length
 ·have hlt2k:(k:Int) < (((l).map Irow).length:Int):=by omega
  by_cases he:l[k]=s
  ·have hres:hasI l s=true:=any_yes2 hltk (decide_eq_true he)
   refine YG ?_
   refine Zb (fun hlen=>?_)
   refine R_ (M_ O (M_ O (ZI ?_)))
   refine cb_ O O ?_
   refine M_ O (o_ O (bn_ O O (T_ (aq_ O u_ (Zr ?_)))))
   refine aw_ (jq_ret1 O O [] O (fun K h=>by rw [hres] at h; exact h))
  ·refine YG ?_
   refine Zb (fun hlen=>?_)
   refine R_ (M_ O (M_ O (ZI ?_)))
   refine cb_ O O ?_
   refine M_ O (o_ O (bn_ O O (T_ (ap_ O w_ (as_ (Zj ?_))))))
   refine jq_againS (k+1) ⟨hltk,any_snoc hltk hIk (decide_eq_false he)⟩ g_ ?_ ?_
   ·exact sub_end
   ·exact Wv
 ·have hlt2k:¬ (k:Int) < (((l).map Irow).length:Int):=by omega
  rw [List.take_of_length_le (by omega)] at hIk
  refine YG ?_
  refine Zh (fun hlen=>?_)
  refine al_ (R_ (E_ O (T_ ?_)))
  refine ar_ (jq_ret1 O O [] O (fun K h=>by rw [hIk] at h; exact h))
theorem rtwice_c (l:List ByteArray):Con Tryz.prog 165 [.cell (.list (l.map Wrow))] [] (fun K=>K (Bl (dupB l)) []):=by
 refine con_intro Tryz.func165 O O b_ (fun c hc=>ZK ?_)
 refine jc_loopS (ι:=Nat) [] (fun k=>k≤(l).length∧dupB (l.take k)=false) (fun k=>(3,In .i64 (k:Int)) :: [(0,.cell (.list (l.map Wrow)))]) (fun _=>[]) (fun k=>(l).length - k) 0 ⟨Nat.zero_le _,rfl⟩ ?_ ?_ ?_
 ·exact sub_end
 ·exact Wv
 rintro k ⟨hk,hIk⟩
 have eLk:((l).map Wrow).length=(l).length:=List.length_map _
 by_cases hltk:k < (l).length
 ·have hlt2k:(k:Int) < (((l).map Wrow).length:Int):=by omega
  refine YG ?_
  refine Zb (fun hlen=>?_)
  refine R_ (E_ O (T_ (au_ (jc_loopS (ι:=Nat) [] (fun j=>j≤k∧hasB ((l.take k).take j) l[k]=false) (fun j=>[(4,In .i64 (j:Int)),(3,In .i64 (k:Int)),(0,.cell (.list (l.map Wrow)))]) (fun _=>[]) (fun j=>k - j) 0 ⟨Nat.zero_le _,rfl⟩ ?_ ?_ ?_))))
  ·exact sub_end
  ·exact Wv
  rintro j ⟨hj,hIj⟩
  have elt:(l.take k).length=k:=by rw [List.length_take]; omega
  by_cases hltj:j < k
  ·have hjl:j < l.length:=by omega
   have hjl2:(j:Int) < ((l.map Wrow).length:Int):=by omega
   have hltj2:(j:Int) < (k:Int):=by omega
   have hg:(l.take k)[j]'(by omega)=l[j]:=List.getElem_take
   by_cases he:l[k]=l[j]
   ·have hres:dupB l=true:=dupB_yes hltk (any_yes2 (k:=j) (by omega) (decide_eq_true (by rw [hg]; exact he.symm)))
    refine YG ?_
    refine o_ O (bw_ O O (T_ (aq_ O u_ (as_ (al_ (B_ (am_ (ZM ?_))))))))
    refine aa_ (fun c=>cb_ O O p_) ?_
    refine yM_ O (yM_ O (Ys ?_))
    refine aa_ (fun c=>cs_ O O p_) (ae_ (al_ (aq_ O u_ (Zr ?_))))
    refine az_ (aw_ (aw_ (az_ (aw_ (jq_ret1 O O [] O (fun K h=>by rw [hres] at h; exact h))))))
   ·refine YG ?_
    refine o_ O (bw_ O O (T_ (aq_ O u_ (as_ (al_ (B_ (am_ (ZM ?_))))))))
    refine aa_ (fun c=>cb_ O O p_) ?_
    refine yM_ O (yM_ O (Ys ?_))
    refine aa_ (fun c=>cs_ O O p_) (ae_ (al_ (ap_ O w_ (as_ (Zj ?_)))))
    refine jq_againS (j+1) ⟨hltj,any_snoc g_ hIj (decide_eq_false (by rw [hg]; exact fun e=>he e.symm))⟩ g_ ?_ ?_
    ·exact sub_end
    ·exact Wv
  ·have hltj2:¬ (j:Int) < (k:Int):=by omega
   rw [List.take_of_length_le (by omega)] at hIj
   have hI2:dupB (l.take (k+1))=false:=by rw [List.take_succ_eq_append_getElem hltk,dupB_snoc,hIk,hIj]; rfl
   refine YG ?_
   refine o_ O (bw_ O O (T_ (ap_ O w_ (av_ (ax_ (ax_ (ba_ (Ws ?_))))))))
   refine E_ O (ak_ (jq_againS (i:=k) (k+1) ⟨hltk,hI2⟩ g_ ?_ ?_))
   ·exact sub_end
   ·exact Wv
 ·have hlt2k:¬ (k:Int) < (((l).map Wrow).length:Int):=by omega
  rw [List.take_of_length_le (by omega)] at hIk
  refine YG ?_
  refine Zh (fun hlen=>?_)
  refine al_ (R_ (E_ O (T_ ?_)))
  refine ar_ (jq_ret1 O O [] O (fun K h=>by rw [hIk] at h; exact h))
theorem rsize_c (n:Int):Con Tryz.prog 170 [In .i64 n] [] (fun K=>K (Bl (sizeB n)) []):=by
 refine con_intro Tryz.func170 O O b_ (fun c hc=>R_ (YU ?_))
 refine bn_ O O (M_ O (jl_or 2 2 O O O O (nb O) ?_))
 apply Exists.intro
 refine ⟨fun hb1=>?_,?_⟩
 refine Z8 ?_
 exact WE
 refine M_ O (jl_or 2 6 O O O O (nb O) ?_)
 apply Exists.intro
 refine ⟨fun hb1=>?_,?_⟩
 refine Z8 ?_
 exact WE
 refine M_ O (jl_or 2 10 O O O O (nb O) ?_)
 apply Exists.intro
 refine ⟨fun hb1=>?_,?_⟩
 refine Z8 ?_
 exact WE
 refine M_ O (jl_or 2 14 O O O O (nb O) ?_)
 apply Exists.intro
 refine ⟨fun hb1=>?_,?_⟩
 refine Z8 ?_
 exact WE
 refine E_ O (T_ (ar_ (jq_ret1 O O [] O (fun K h=>h))))
theorem rallowed_c (p:Pg) (nm hd:ByteArray):Con Tryz.prog 174 [.row p.row,Str nm,Str hd] [] (fun K=>K (Bl (allowB p.shared hd nm)) []):=by
 refine con_intro Tryz.func174 O O b_ (fun c hc=>ZD (fun bx=>?_))
 refine E_ O (T_ (au_ ?_))
 refine jc_loopS (ι:=Nat) [] (fun k=>k≤(p.shared).length∧(p.shared.take k).all (fun x=>!decide (x.1=nm) || decide (x.2.2=hd))=true) (fun k=>(7,In .i64 (k:Int)) :: [(3,.cell (.val (.pointer (some ⟨bx,0,none⟩)))),(1,Str nm),(2,Str hd)]) (fun _=>[.blk bx 31 p.row]) (fun k=>(p.shared).length - k) 0 ⟨Nat.zero_le _,rfl⟩ ?_ ?_ ?_
 ·exact Wx
 ·exact Wv
 rintro k ⟨hk,hIk⟩
 have eLk:((p.shared).map ShRow).length=(p.shared).length:=List.length_map _
 by_cases hltk:k < (p.shared).length
 ·have hlt2k:(k:Int) < (((p.shared).map ShRow).length:Int):=by omega
  by_cases h1:p.shared[k].1=nm
  ·by_cases h2:p.shared[k].2.2=hd
   ·have h2':¬ ¬ p.shared[k].2.2=hd:=fun h=>h h2
    refine ZA ?_
    refine Zb (fun hlen=>?_)
    refine YY ?_
    refine ZI ?_
    refine Wm ?_
    refine ZY ?_
    refine bd_ O (ah_ O u_ b_ (cc_ O O g_ O O b_ (ah_ O u_ b_ (cf_ O O O b_ O b_ (ah_ O u_ b_ (cb_ O O (Yv ?_)))))))
    refine ct_ O O ?_
    refine o_ O (bp_ O u_ O (T_ (ap_ O w_ (as_ (Zj ?_)))))
    refine jq_againS (k+1) ⟨hltk,all_snoc hltk hIk (by simp [h2])⟩ g_ ?_ ?_
    ·exact Wx
    ·exact Wv
   ·have hres:allowB p.shared hd nm=false:=all_no hltk (by simp [h1,h2])
    refine ZA ?_
    refine Zb (fun hlen=>?_)
    refine YY ?_
    refine ZI ?_
    refine Wm ?_
    refine ZY ?_
    refine bd_ O (ah_ O u_ b_ (cc_ O O g_ O O b_ (ah_ O u_ b_ (cf_ O O O b_ O b_ (ah_ O u_ b_ (cb_ O O (Yv ?_)))))))
    refine ct_ O O ?_
    refine o_ O (bp_ O u_ O (T_ (aq_ O u_ (Zr ?_))))
    refine aw_ (jq_ret1 O O [] O (fun K h=>by rw [hres] at h; exact h))
  ·refine ZA ?_
   refine Zb (fun hlen=>?_)
   refine YY ?_
   refine ZI ?_
   refine Wm ?_
   refine Zg ?_
   refine Zg ?_
   refine o_ O (bv_ O w_ O ?_)
   refine T_ (ap_ O O (as_ (Zj ?_)))
   refine jq_againS (k+1) ⟨hltk,all_snoc hltk hIk (by simp [h1])⟩ g_ ?_ ?_
   ·exact Wx
   ·exact Wv
 ·have hlt2k:¬ (k:Int) < (((p.shared).map ShRow).length:Int):=by omega
  rw [List.take_of_length_le (by omega)] at hIk
  have hres:allowB p.shared hd nm=true:=hIk
  refine ZA ?_
  refine Zh (fun hlen=>?_)
  refine al_ (R_ (E_ O ?_))
  refine T_ (ar_ (jq_ret1 O O [] O (fun K h=>by rw [hres] at h; exact h)))
theorem rknown_c (vs ar:List ByteArray):∀ t:T,Con Tryz.prog 203 [.row t.row',.cell (.list (vs.map Wrow)),.cell (.list (ar.map Wrow))] [] (fun K=>K (Bl (useB vs ar t)) []):=by
 refine T.ind (fun t ih=>?_)
 have e0:=useB_eq vs ar t
 refine con_intro Tryz.func203 O O b_ (fun c hc=>?_)
 have hV:=rhas_c vs t.name
 have hA:=rhas_c ar t.name
 unfold useOne at e0
 by_cases hk2:t.kind=2
 ·have hk3:¬ t.kind=3:=by omega
  rw [decide_eq_true hk2,decide_eq_false hk3] at e0
  cases h1:hasB vs t.name with
  | false =>
   rw [h1] at hV
   have hres:useB vs ar t=false:=by rw [e0,h1]; rfl
   refine ZD (fun bx=>?_)
   refine YO ?_
   refine Zn ?_
   refine o_ O (bp_ O u_ O ?_)
   refine M_ O (Zd ?_)
   refine Wa ?_
   refine aj_ O b_ (aj_ O b_ (ai_ O O b_ (Y9 ?_)))
   refine R_ (E_ O ?_)
   refine T_ (ar_ (aw_ (jq_ret1 O O [] O (fun K h=>by rw [hres] at h; exact h))))
  | true =>
   rw [h1] at hV e0
   simp only [Bool.not_true,Bool.false_or,Bool.true_and,Bool.not_false,Bool.true_or] at e0
   refine ZD (fun bx=>?_)
   refine YO ?_
   refine Zn ?_
   refine o_ O (bp_ O u_ O ?_)
   refine M_ O (Ze ?_)
   refine Yf ?_
   refine Zg ?_
   refine ai_ O w_ b_ (ah_ O O b_ (bv_ O w_ O (o_ O (bv_ O O O (T_ (ap_ O O (as_ (al_ ?_))))))))
   refine am_ (R_ (E_ O (T_ (au_ (jc_loopS (ι:=Nat) [] (fun k=>k≤(t.args).length∧(t.args.take k).all (useB vs ar)=true) (fun k=>(7,In .i64 (k:Int)) :: [(3,.cell (.val (.pointer (some ⟨bx,0,none⟩)))),(1,.cell (.list (vs.map Wrow))),(2,.cell (.list (ar.map Wrow)))]) (fun _=>[.blk bx 69 t.row']) (fun k=>(t.args).length - k) 0 ⟨Nat.zero_le _,rfl⟩ ?_ ?_ ?_)))))
   ·exact Wx
   ·exact Wv
   rintro k ⟨hk,hIk⟩
   have eLk:((t.args).map T.row).length=(t.args).length:=List.length_map _
   by_cases hltk:k < (t.args).length
   ·have hlt2k:(k:Int) < (((t.args).map T.row).length:Int):=by omega
    cases hp:useB vs ar t.args[k] with
    | false =>
     have hC:=(ih t.args[k] (List.getElem_mem hltk))
     rw [hp] at hC
     have hres:useB vs ar t=false:=by rw [e0]; exact all_no hltk hp
     refine ZA ?_
     refine Zb (fun hlen=>?_)
     refine YY ?_
     refine Zy ?_
     refine Yw ?_
     refine aq_ O O (Zr ?_)
     refine aw_ (jq_ret1 O O [] O (fun K h=>by rw [hres] at h; exact h))
    | true =>
     have hC:=(ih t.args[k] (List.getElem_mem hltk))
     rw [hp] at hC
     refine ZA ?_
     refine Zb (fun hlen=>?_)
     refine YY ?_
     refine Zy ?_
     refine Yw ?_
     refine ap_ O O (as_ (Zj ?_))
     refine jq_againS (k+1) ⟨hltk,all_snoc hltk hIk hp⟩ g_ ?_ ?_
     ·exact Wx
     ·exact Wv
   ·have hlt2k:¬ (k:Int) < (((t.args).map T.row).length:Int):=by omega
    rw [List.take_of_length_le (by omega)] at hIk
    have hres:useB vs ar t=true:=by rw [e0]; exact hIk
    refine ZA ?_
    refine Zh (fun hlen=>?_)
    refine al_ (R_ (E_ O ?_))
    refine T_ (ar_ (jq_ret1 O O [] O (fun K h=>by rw [hres] at h; exact h)))
 by_cases hk3:t.kind=3
 ·rw [decide_eq_false hk2,decide_eq_true hk3] at e0
  cases h1:hasB ar t.name with
  | false =>
   rw [h1] at hA
   have hres:useB vs ar t=false:=by rw [e0,h1]; rfl
   refine ZD (fun bx=>?_)
   refine YO ?_
   refine Zg ?_
   refine YC ?_
   refine M_ O (Ze ?_)
   refine Yf ?_
   refine ah_ O u_ b_ (bd_ O (ZY ?_))
   refine bm_ O (hA) (ah_ O u_ b_ (cd_ O (YT ?_)))
   refine T_ (aq_ O O (R_ (E_ O ?_)))
   refine T_ (ar_ (aw_ (jq_ret1 O O [] O (fun K h=>by rw [hres] at h; exact h))))
  | true =>
   rw [h1] at hA e0
   simp only [Bool.not_true,Bool.false_or,Bool.true_and,Bool.not_false,Bool.true_or] at e0
   refine ZD (fun bx=>?_)
   refine YO ?_
   refine Zg ?_
   refine YC ?_
   refine M_ O (Ze ?_)
   refine Yf ?_
   refine ah_ O u_ b_ (bd_ O (ZY ?_))
   refine bm_ O (hA) (ah_ O u_ b_ (cd_ O (YT ?_)))
   refine T_ (ap_ O O (as_ (al_ ?_)))
   refine am_ (R_ (E_ O (T_ (au_ (jc_loopS (ι:=Nat) [] (fun k=>k≤(t.args).length∧(t.args.take k).all (useB vs ar)=true) (fun k=>(7,In .i64 (k:Int)) :: [(3,.cell (.val (.pointer (some ⟨bx,0,none⟩)))),(1,.cell (.list (vs.map Wrow))),(2,.cell (.list (ar.map Wrow)))]) (fun _=>[.blk bx 69 t.row']) (fun k=>(t.args).length - k) 0 ⟨Nat.zero_le _,rfl⟩ ?_ ?_ ?_)))))
   ·exact Wx
   ·exact Wv
   rintro k ⟨hk,hIk⟩
   have eLk:((t.args).map T.row).length=(t.args).length:=List.length_map _
   by_cases hltk:k < (t.args).length
   ·have hlt2k:(k:Int) < (((t.args).map T.row).length:Int):=by omega
    cases hp:useB vs ar t.args[k] with
    | false =>
     have hC:=(ih t.args[k] (List.getElem_mem hltk))
     rw [hp] at hC
     have hres:useB vs ar t=false:=by rw [e0]; exact all_no hltk hp
     refine ZA ?_
     refine Zb (fun hlen=>?_)
     refine YY ?_
     refine Zy ?_
     refine Yw ?_
     refine aq_ O O (Zr ?_)
     refine aw_ (jq_ret1 O O [] O (fun K h=>by rw [hres] at h; exact h))
    | true =>
     have hC:=(ih t.args[k] (List.getElem_mem hltk))
     rw [hp] at hC
     refine ZA ?_
     refine Zb (fun hlen=>?_)
     refine YY ?_
     refine Zy ?_
     refine Yw ?_
     refine ap_ O O (as_ (Zj ?_))
     refine jq_againS (k+1) ⟨hltk,all_snoc hltk hIk hp⟩ g_ ?_ ?_
     ·exact Wx
     ·exact Wv
   ·have hlt2k:¬ (k:Int) < (((t.args).map T.row).length:Int):=by omega
    rw [List.take_of_length_le (by omega)] at hIk
    have hres:useB vs ar t=true:=by rw [e0]; exact hIk
    refine ZA ?_
    refine Zh (fun hlen=>?_)
    refine al_ (R_ (E_ O ?_))
    refine T_ (ar_ (jq_ret1 O O [] O (fun K h=>by rw [hres] at h; exact h)))
 rw [decide_eq_false hk2,decide_eq_false hk3] at e0
 simp only [Bool.not_false,Bool.true_or,Bool.true_and] at e0
 refine ZD (fun bx=>?_)
 refine YO ?_
 refine Zg ?_
 refine YC ?_
 refine M_ O (Ze ?_)
 refine Yf ?_
 refine Zg ?_
 refine ai_ O w_ b_ (ah_ O O b_ (bv_ O w_ O (o_ O (bv_ O O O (T_ (ap_ O O (as_ (al_ ?_))))))))
 refine am_ (R_ (E_ O (T_ (au_ (jc_loopS (ι:=Nat) [] (fun k=>k≤(t.args).length∧(t.args.take k).all (useB vs ar)=true) (fun k=>(7,In .i64 (k:Int)) :: [(3,.cell (.val (.pointer (some ⟨bx,0,none⟩)))),(1,.cell (.list (vs.map Wrow))),(2,.cell (.list (ar.map Wrow)))]) (fun _=>[.blk bx 69 t.row']) (fun k=>(t.args).length - k) 0 ⟨Nat.zero_le _,rfl⟩ ?_ ?_ ?_)))))
 ·exact Wx
 ·exact Wv
 rintro k ⟨hk,hIk⟩
 have eLk:((t.args).map T.row).length=(t.args).length:=List.length_map _
 by_cases hltk:k < (t.args).length
 ·have hlt2k:(k:Int) < (((t.args).map T.row).length:Int):=by omega
  cases hp:useB vs ar t.args[k] with
  | false =>
   have hC:=(ih t.args[k] (List.getElem_mem hltk))
   rw [hp] at hC
   have hres:useB vs ar t=false:=by rw [e0]; exact all_no hltk hp
   refine ZA ?_
   refine Zb (fun hlen=>?_)
   refine YY ?_
   refine Zy ?_
   refine Yw ?_
   refine aq_ O O (Zr ?_)
   refine aw_ (jq_ret1 O O [] O (fun K h=>by rw [hres] at h; exact h))
  | true =>
   have hC:=(ih t.args[k] (List.getElem_mem hltk))
   rw [hp] at hC
   refine ZA ?_
   refine Zb (fun hlen=>?_)
   refine YY ?_
   refine Zy ?_
   refine Yw ?_
   refine ap_ O O (as_ (Zj ?_))
   refine jq_againS (k+1) ⟨hltk,all_snoc hltk hIk hp⟩ g_ ?_ ?_
   ·exact Wx
   ·exact Wv
 ·have hlt2k:¬ (k:Int) < (((t.args).map T.row).length:Int):=by omega
  rw [List.take_of_length_le (by omega)] at hIk
  have hres:useB vs ar t=true:=by rw [e0]; exact hIk
  refine ZA ?_
  refine Zh (fun hlen=>?_)
  refine al_ (R_ (E_ O ?_))
  refine T_ (ar_ (jq_ret1 O O [] O (fun K h=>by rw [hres] at h; exact h)))
theorem rwords_c:∀ t:T,Con Tryz.prog 204 [.row t.row'] [] (fun K=>K (Bl (wdT t)) []):=by
 refine T.ind (fun t ih=>?_)
 have e0:=wdT_eq t
 refine con_intro Tryz.func204 O O b_ (fun c hc=>?_)
 by_cases h1:t.num < -2147483648
 ·have hres:wdT t=false:=by rw [e0,decide_eq_false (by omega)]; rfl
  refine ZD (fun bx=>?_)
  refine F_ O (L_ 0 O (o_ O (bw_ O O (M_ O (Yg ?_)))))
  refine o_ O (bp_ O u_ O (T_ (aq_ O O ?_)))
  refine R_ (E_ O (T_ (ar_ (aw_ (jq_ret1 O O [] O (fun K h=>by rw [hres] at h; exact h))))))
 by_cases h2:t.num ≥ 2147483648
 ·have hres:wdT t=false:=by rw [e0,decide_eq_false (show ¬ t.num < 2147483648 by omega),Bool.and_false]; rfl
  refine ZD (fun bx=>?_)
  refine F_ O (L_ 0 O (o_ O (bw_ O O (ZJ ?_))))
  refine ah_ O w_ b_ (cn_ O O (o_ O (bv_ O w_ O (T_ (aq_ O u_ ?_)))))
  refine R_ (E_ O (T_ (ar_ (aw_ (jq_ret1 O O [] O (fun K h=>by rw [hres] at h; exact h))))))
 rw [decide_eq_true (show -2147483648≤t.num by omega),decide_eq_true (show t.num < 2147483648 by omega),Bool.true_and,Bool.true_and] at e0
 refine ZD (fun bx=>?_)
 refine F_ O (L_ 0 O (o_ O (bw_ O O (ZJ ?_))))
 refine ah_ O w_ b_ (cn_ O O (o_ O (bv_ O w_ O (T_ (ap_ O w_ ?_)))))
 refine as_ (al_ (am_ (R_ (E_ O (T_ (au_ (jc_loopS (ι:=Nat) [] (fun k=>k≤(t.args).length∧(t.args.take k).all (wdT)=true) (fun k=>(3,In .i64 (k:Int)) :: [(1,.cell (.val (.pointer (some ⟨bx,0,none⟩))))]) (fun _=>[.blk bx 69 t.row']) (fun k=>(t.args).length - k) 0 ⟨Nat.zero_le _,rfl⟩ ?_ ?_ ?_)))))))
 ·exact Wx
 ·exact Wv
 rintro k ⟨hk,hIk⟩
 have eLk:((t.args).map T.row).length=(t.args).length:=List.length_map _
 by_cases hltk:k < (t.args).length
 ·have hlt2k:(k:Int) < (((t.args).map T.row).length:Int):=by omega
  cases hp:wdT t.args[k] with
  | false =>
   have hC:=(ih t.args[k] (List.getElem_mem hltk))
   rw [hp] at hC
   have hres:wdT t=false:=by rw [e0]; exact all_no hltk hp
   refine ZA ?_
   refine Zb (fun hlen=>?_)
   refine YY ?_
   refine Zy ?_
   refine o_ O (bm_ O (hC) (o_ O (cd_ O (T_ (aq_ O O (Zr ?_))))))
   refine aw_ (jq_ret1 O O [] O (fun K h=>by rw [hres] at h; exact h))
  | true =>
   have hC:=(ih t.args[k] (List.getElem_mem hltk))
   rw [hp] at hC
   refine ZA ?_
   refine Zb (fun hlen=>?_)
   refine YY ?_
   refine Zy ?_
   refine o_ O (bm_ O (hC) (o_ O (cd_ O (T_ (ap_ O O (as_ (Zj ?_)))))))
   refine jq_againS (k+1) ⟨hltk,all_snoc hltk hIk hp⟩ g_ ?_ ?_
   ·exact Wx
   ·exact Wv
 ·have hlt2k:¬ (k:Int) < (((t.args).map T.row).length:Int):=by omega
  rw [List.take_of_length_le (by omega)] at hIk
  have hres:wdT t=true:=by rw [e0]; exact hIk
  refine ZA ?_
  refine Zh (fun hlen=>?_)
  refine al_ (R_ (E_ O ?_))
  refine T_ (ar_ (jq_ret1 O O [] O (fun K h=>by rw [hres] at h; exact h)))
theorem rfree_c (p:Pg) (hd:ByteArray):∀ t:T,Con Tryz.prog 173 [.row p.row,.row t.row',Str hd] [] (fun K=>K (Bl (freeB p.shared hd t)) []):=by
 refine T.ind (fun t ih=>?_)
 have e0:=freeB_eq p.shared hd t
 refine con_intro Tryz.func173 O O b_ (fun c hc=>?_)
 by_cases hk:t.kind=3
 ·cases h1:allowB p.shared hd t.name with
  | false =>
   have hA:=rallowed_c p t.name hd
   rw [h1] at hA
   have hres:freeB p.shared hd t=false:=by rw [e0,h1,decide_eq_true hk]; rfl
   refine R_ (o_ O (ci_ O (fun bx=>o_ O (ci_ O (fun bx=>E_ O (T_ (am_ (Yh ?_))))))))
   refine bn_ O O (M_ O (ah_ O u_ b_ (bs_ 1 O O O O (ZY ?_))))
   refine bd_ O (ah_ O u_ b_ (bm_ O (hA) ?_))
   refine ah_ O u_ b_ (cd_ O (o_ O (bp_ O u_ O (ZO ?_))))
   refine aw_ (jq_ret1 O O [] O (fun K h=>by rw [hres] at h; exact h))
  | true =>
   have hA:=rallowed_c p t.name hd
   rw [h1] at hA
   rw [h1,Bool.or_true,Bool.true_and] at e0
   refine R_ (o_ O (ci_ O (fun bx=>o_ O (ci_ O (fun bx=>E_ O (T_ (am_ (Yh ?_))))))))
   refine bn_ O O (M_ O (ah_ O u_ b_ (bs_ 1 O O O O (ZY ?_))))
   refine bd_ O (ah_ O u_ b_ (bm_ O (hA) ?_))
   refine ah_ O u_ b_ (cd_ O (o_ O (bp_ O u_ O (Wj ?_))))
   refine R_ (E_ O (T_ ?_))
   rename_i b0
   refine au_ (jc_loopS (ι:=Nat) [] (fun k=>k≤(t.args).length∧(t.args.take k).all (freeB p.shared hd)=true) (fun k=>(7,In .i64 (k:Int)) :: [(3,.cell (.val (.pointer (some ⟨b0,0,none⟩)))),(4,.cell (.val (.pointer (some ⟨bx,0,none⟩)))),(2,Str hd)]) (fun _=>[.blk bx 69 t.row',.blk b0 31 p.row]) (fun k=>(t.args).length - k) 0 ⟨Nat.zero_le _,rfl⟩ ?_ ?_ ?_)
   ·exact Ww
   ·exact Wv
   rintro k ⟨hk,hIk⟩
   have eLk:((t.args).map T.row).length=(t.args).length:=List.length_map _
   by_cases hltk:k < (t.args).length
   ·have hlt2k:(k:Int) < (((t.args).map T.row).length:Int):=by omega
    cases hp:freeB p.shared hd t.args[k] with
    | false =>
     have hC:=(ih t.args[k] (List.getElem_mem hltk))
     rw [hp] at hC
     have hres:freeB p.shared hd t=false:=by rw [e0]; exact all_no hltk hp
     refine ZA ?_
     refine Zb (fun hlen=>?_)
     refine Wf ?_
     refine yF_ O ?_
     refine ZU ?_
     refine aq_ O O (R_ (E_ O (T_ (ar_ (az_ (aw_ ?_))))))
     refine aw_ (az_ (aw_ (jq_ret1 O O [] O (fun K h=>by rw [hres] at h; exact h))))
    | true =>
     have hC:=(ih t.args[k] (List.getElem_mem hltk))
     rw [hp] at hC
     refine ZA ?_
     refine Zb (fun hlen=>?_)
     refine Wf ?_
     refine yF_ O ?_
     refine ZU ?_
     refine ap_ O O (as_ (Ws ?_))
     refine E_ O (ak_ (jq_againS (k+1) ⟨hltk,all_snoc hltk hIk hp⟩ g_ ?_ ?_))
     ·exact Ww
     ·exact Wv
   ·have hlt2k:¬ (k:Int) < (((t.args).map T.row).length:Int):=by omega
    rw [List.take_of_length_le (by omega)] at hIk
    have hres:freeB p.shared hd t=true:=by rw [e0]; exact hIk
    refine ZA ?_
    refine Zh (fun hlen=>?_)
    refine al_ (R_ (E_ O ?_))
    refine T_ (ar_ (jq_ret1 O O [] O (fun K h=>by rw [hres] at h; exact h)))
 ·rw [decide_eq_false hk,Bool.not_false,Bool.true_or,Bool.true_and] at e0
  refine R_ (o_ O (ci_ O (fun bx=>o_ O (ci_ O (fun bx=>E_ O (T_ (am_ (Yh ?_))))))))
  refine bn_ O O (M_ O (Zg ?_))
  refine ai_ O w_ b_ ?_
  refine YC ?_
  refine Wj ?_
  refine R_ (E_ O (T_ ?_))
  rename_i b0
  refine au_ (jc_loopS (ι:=Nat) [] (fun k=>k≤(t.args).length∧(t.args.take k).all (freeB p.shared hd)=true) (fun k=>(7,In .i64 (k:Int)) :: [(3,.cell (.val (.pointer (some ⟨b0,0,none⟩)))),(4,.cell (.val (.pointer (some ⟨bx,0,none⟩)))),(2,Str hd)]) (fun _=>[.blk bx 69 t.row',.blk b0 31 p.row]) (fun k=>(t.args).length - k) 0 ⟨Nat.zero_le _,rfl⟩ ?_ ?_ ?_)
  ·exact Ww
  ·exact Wv
  rintro k ⟨hk,hIk⟩
  have eLk:((t.args).map T.row).length=(t.args).length:=List.length_map _
  by_cases hltk:k < (t.args).length
  ·have hlt2k:(k:Int) < (((t.args).map T.row).length:Int):=by omega
   cases hp:freeB p.shared hd t.args[k] with
   | false =>
    have hC:=(ih t.args[k] (List.getElem_mem hltk))
    rw [hp] at hC
    have hres:freeB p.shared hd t=false:=by rw [e0]; exact all_no hltk hp
    refine ZA ?_
    refine Zb (fun hlen=>?_)
    refine Wf ?_
    refine yF_ O ?_
    refine ZU ?_
    refine aq_ O O (R_ (E_ O (T_ (ar_ (az_ (aw_ ?_))))))
    refine aw_ (az_ (aw_ (jq_ret1 O O [] O (fun K h=>by rw [hres] at h; exact h))))
   | true =>
    have hC:=(ih t.args[k] (List.getElem_mem hltk))
    rw [hp] at hC
    refine ZA ?_
    refine Zb (fun hlen=>?_)
    refine Wf ?_
    refine yF_ O ?_
    refine ZU ?_
    refine ap_ O O (as_ (Ws ?_))
    refine E_ O (ak_ (jq_againS (k+1) ⟨hltk,all_snoc hltk hIk hp⟩ g_ ?_ ?_))
    ·exact Ww
    ·exact Wv
  ·have hlt2k:¬ (k:Int) < (((t.args).map T.row).length:Int):=by omega
   rw [List.take_of_length_le (by omega)] at hIk
   have hres:freeB p.shared hd t=true:=by rw [e0]; exact hIk
   refine ZA ?_
   refine Zh (fun hlen=>?_)
   refine al_ (R_ (E_ O ?_))
   refine T_ (ar_ (jq_ret1 O O [] O (fun K h=>by rw [hres] at h; exact h)))
end Go.Proofs.YtalkkcfojplmdaaGreatDoor
end
section
namespace Go.Proofs.YtalkkcfojplmdaaGreatDoor
open Go.Vc
set_option maxHeartbeats 1000000
structure Jb where
 V:List (ByteArray × Int)
 ca:List Int
 cb:List Int
 cn:List Int
 st:Int
abbrev AMt:=List (ByteArray × Bool)
def Jb.arr (AM:AMt) (j:Jb):List (ByteArray × List Int):=AM.map (fun e=>(e.1,cond e.2 j.ca j.cb))
def evJ (AM:AMt) (j:Jb) (e:T):Int:=evF j.V (j.arr AM) 20 e
def Jb.up (j:Jb) (i:Int):Jb:={ j with cn:=j.cn.set i.toNat (j.cn.getD i.toNat 0+1) }
def Jb.step (j:Jb):Jb:={ j with st:=j.st+1 }
def hd0 (l:List T):T:=l.headD (.nu 0)
def Jb.put (AM:AMt) (j:Jb) (nm:ByteArray) (i n:Int):Jb:=match aget AM nm with
 | none=>j
 | some true=>{ j with ca:=j.ca.set (i % j.ca.length).toNat n }
 | some false=>{ j with cb:=j.cb.set (i % j.cb.length).toNat n }
def whI (AM:AMt) (c:T) (lb:Int) (body:Jb→Jb):Nat→Jb→Jb
 | 0,j=>j
 | n+1,j=>if evJ AM j.step c=0 then j.step else whI AM c lb body n (body (j.step.up (3 * lb+1)))
mutual
def runS (AM:AMt):Sm→Jb→Jb
 | .mk k nm i v mx lb t e,j =>
  if k=1 then Jb.step { j with V:=aset j.V nm (evJ AM j (hd0 v)) }
  else if k=2 then (j.put AM nm (evJ AM j (hd0 i)) (evJ AM j (hd0 v))).step
  else if k=3 then (if evJ AM (j.up (3 * lb)).step (hd0 v)≠0 then runL AM t ((j.up (3 * lb)).step.up (3 * lb+1)) else runL AM e ((j.up (3 * lb)).step.up (3 * lb+2)))
  else if k=4 then (whI AM (hd0 v) lb (runL AM t) mx.toNat (j.up (3 * lb))).up (3 * lb+2)
  else if k=5 then runL AM t j else j
def runL (AM:AMt):List Sm→Jb→Jb
 | [],j=>j
 | s :: l,j=>runL AM l (runS AM s j)
end
theorem runL_app (AM:AMt):∀ (l m:List Sm) (j:Jb),runL AM (l ++ m) j=runL AM m (runL AM l j)
 | [],m,j=>by rw [List.nil_append,runL]
 | s :: l,m,j=>by rw [List.cons_append,runL,runL,runL_app AM l m]
theorem runL_step {AM:AMt} {l:List Sm} {k:Nat} (h:k < l.length) (j:Jb):runL AM (l.take (k+1)) j=runS AM l[k] (runL AM (l.take k) j):=by
 rw [List.take_succ_eq_append_getElem h,runL_app,runL,runL]
theorem runS_eq (AM:AMt) (s:Sm) (j:Jb):runS AM s j =
 if s.kind=1 then Jb.step { j with V:=aset j.V s.name (evJ AM j (hd0 s.value)) }
 else if s.kind=2 then (j.put AM s.name (evJ AM j (hd0 s.index)) (evJ AM j (hd0 s.value))).step
 else if s.kind=3 then (if evJ AM (j.up (3 * s.label)).step (hd0 s.value)≠0 then runL AM s.thn ((j.up (3 * s.label)).step.up (3 * s.label+1)) else runL AM s.els ((j.up (3 * s.label)).step.up (3 * s.label+2)))
 else if s.kind=4 then (whI AM (hd0 s.value) s.label (runL AM s.thn) s.max.toNat (j.up (3 * s.label))).up (3 * s.label+2)
 else if s.kind=5 then runL AM s.thn j else j:=by
 cases s
 rw [runS]
 rfl
mutual
def Sm.rok (ar:ByteArray→Bool):Sm→Bool
 | .mk k nm i v _ lb t e=>if k=1 then !v.isEmpty else if k=2 then !i.isEmpty && !v.isEmpty && ar nm
  else if k=3 then !v.isEmpty && decide (0≤lb) && decide (lb≤12) && Sm.roks ar t && Sm.roks ar e
  else if k=4 then !v.isEmpty && decide (0≤lb) && decide (lb≤12) && Sm.roks ar t else if k=5 then Sm.roks ar t else true
def Sm.roks (ar:ByteArray→Bool):List Sm→Bool
 | []=>true
 | s :: l=>s.rok ar && Sm.roks ar l
end
theorem roks_mem {ar:ByteArray→Bool}:∀ {l:List Sm},Sm.roks ar l=true→∀ s ∈ l,s.rok ar=true
 | u :: l,h,s,hs=>by
  rw [Sm.roks,Bool.and_eq_true] at h
  rcases List.mem_cons.1 hs with rfl | hs
  ·exact h.1
  ·exact roks_mem h.2 s hs
theorem rok_eq (ar:ByteArray→Bool) (s:Sm):s.rok ar=if s.kind=1 then !s.value.isEmpty else if s.kind=2 then !s.index.isEmpty && !s.value.isEmpty && ar s.name
 else if s.kind=3 then !s.value.isEmpty && decide (0≤s.label) && decide (s.label≤12) && Sm.roks ar s.thn && Sm.roks ar s.els
 else if s.kind=4 then !s.value.isEmpty && decide (0≤s.label) && decide (s.label≤12) && Sm.roks ar s.thn else if s.kind=5 then Sm.roks ar s.thn else true:=by
 cases s; rfl
mutual
def Sm.cst:Sm→Nat
 | .mk k _ _ _ mx _ t e=>if k=1 then 1 else if k=2 then 1 else if k=3 then 3+Sm.csts t+Sm.csts e else if k=4 then 2+mx.toNat * (2+Sm.csts t) else if k=5 then Sm.csts t else 0
def Sm.csts:List Sm→Nat
 | []=>0
 | s :: l=>s.cst+Sm.csts l
end
theorem cst_eq (s:Sm):s.cst=if s.kind=1 then 1 else if s.kind=2 then 1 else if s.kind=3 then 3+Sm.csts s.thn+Sm.csts s.els else if s.kind=4 then 2+s.max.toNat * (2+Sm.csts s.thn) else if s.kind=5 then Sm.csts s.thn else 0:=by cases s; rfl
theorem csts_app:∀ l m:List Sm,Sm.csts (l ++ m)=Sm.csts l+Sm.csts m
 | [],m=>by rw [List.nil_append,Sm.csts,Nat.zero_add]
 | s :: l,m=>by rw [List.cons_append,Sm.csts,Sm.csts,csts_app l m]; omega
theorem csts_take {l:List Sm} {k:Nat} (h:k < l.length):Sm.csts (l.take k)+l[k].cst≤Sm.csts l:=by
 have e1:Sm.csts (l.take (k+1))=Sm.csts (l.take k)+l[k].cst:=by
  rw [List.take_succ_eq_append_getElem h,csts_app,Sm.csts,Sm.csts,Nat.add_zero]
 have e2:=csts_app (l.take (k+1)) (l.drop (k+1))
 rw [List.take_append_drop] at e2
 omega
structure Jb.ok (ma mb:Nat) (N:Nat) (j:Jb):Prop where
 st:0≤j.st∧j.st≤N
 cn:∀ x ∈ j.cn,0≤x∧x≤N
 len:j.cn.length=39
 ca:j.ca.length=ma
 cb:j.cb.length=mb
variable {ma mb N M:Nat} {j:Jb} {AM:AMt}
theorem Jb.ok.mono (h:j.ok ma mb N) (hN:N≤M):j.ok ma mb M:=⟨by have:=h.st; omega,fun x hx=>by have:=h.cn x hx; omega,h.len,h.ca,h.cb⟩
theorem getD_ok (h:j.ok ma mb N) (i:Nat):0≤j.cn.getD i 0∧j.cn.getD i 0≤N:=by
 rw [List.getD_eq_getElem?_getD]
 cases hi:j.cn[i]? with
 | none=>exact ⟨Int.le_refl _,by show (0:Int)≤N; omega⟩
 | some x=>exact h.cn x (List.mem_of_getElem? hi)
theorem Jb.ok.up (h:j.ok ma mb N) (i:Int):(j.up i).ok ma mb (N+1):=by
 have hg:=getD_ok h i.toNat
 refine ⟨by have:=h.st; show 0≤j.st∧j.st≤_; omega,fun x hx=>?_,by show (j.cn.set _ _).length=39; rw [List.length_set]; exact h.len,h.ca,h.cb⟩
 rcases List.mem_or_eq_of_mem_set hx with hx | rfl
 ·have:=h.cn x hx; omega
 ·omega
theorem Jb.ok.step (h:j.ok ma mb N):j.step.ok ma mb (N+1):=⟨by have:=h.st; show 0≤j.st+1∧j.st+1≤_; omega,fun x hx=>by have:=h.cn x hx; omega,h.len,h.ca,h.cb⟩
theorem Jb.ok.up' (h:j.ok ma mb N) (i:Int) (hN:N+1≤M):(j.up i).ok ma mb M:=(h.up i).mono hN
theorem Jb.ok.put (h:j.ok ma mb N) (nm:ByteArray) (i n:Int):(j.put AM nm i n).ok ma mb N:=by
 unfold Jb.put
 split
 ·exact h
 ·exact ⟨h.st,h.cn,h.len,by rw [List.length_set]; exact h.ca,h.cb⟩
 ·exact ⟨h.st,h.cn,h.len,h.ca,by rw [List.length_set]; exact h.cb⟩
theorem Jb.ok.var (h:j.ok ma mb N) (V:List (ByteArray × Int)):({ j with V:=V }:Jb).ok ma mb N:=⟨h.st,h.cn,h.len,h.ca,h.cb⟩
theorem whI_ok {c:T} {lb:Int} {body:Jb→Jb} {B:Nat} (hb:∀ N j,Jb.ok ma mb N j→(body j).ok ma mb (N+B)):∀ (n N:Nat) (j:Jb),j.ok ma mb N→(whI AM c lb body n j).ok ma mb (N+n * (2+B))
 | 0,N,j,h=>by rw [whI]; exact h.mono (by omega)
 | n+1,N,j,h=>by
  rw [whI]
  have e:(n+1) * (2+B)=n * (2+B)+(2+B):=by rw [Nat.add_mul,Nat.one_mul]
  split
  ·exact h.step.mono (by omega)
  ·exact (whI_ok hb n _ _ (hb _ _ (h.step.up _))).mono (by omega)
theorem runL_ok (AM:AMt):∀ l:List Sm,∀ (N:Nat) (j:Jb),j.ok ma mb N→(runL AM l j).ok ma mb (N+Sm.csts l):=by
 refine Sms.ind (fun l ih N j h=>?_)
 have key:∀ k,k≤l.length→(runL AM (l.take k) j).ok ma mb (N+Sm.csts (l.take k)):=by
  intro k
  induction k with
  | zero=>intro _; rw [List.take_zero,runL]; exact h.mono (by omega)
  | succ k ihk =>
   intro hk
   have h1:=ihk (by omega)
   obtain ⟨i1,i2⟩:=ih l[k] (List.getElem_mem (by omega))
   rw [runL_step (by omega),runS_eq]
   have e1:Sm.csts (l.take (k+1))=Sm.csts (l.take k)+l[k].cst:=by
    rw [List.take_succ_eq_append_getElem (by omega),csts_app,Sm.csts,Sm.csts,Nat.add_zero]
   rw [e1,cst_eq]
   split
   ·exact (h1.var _).step.mono (by omega)
   split
   ·exact (h1.put _ _ _).step.mono (by omega)
   split
   ·split
    ·exact (i1 _ _ ((h1.up _).step.up _)).mono (by omega)
    ·exact (i2 _ _ ((h1.up _).step.up _)).mono (by omega)
   split
   ·exact (whI_ok (B:=Sm.csts l[k].thn) (fun N j h=>i1 N j h) _ _ _ (h1.up _)).up' _ (by omega)
   split
   ·exact (i1 _ _ h1).mono (by omega)
   ·exact h1.mono (by omega)
 have:=key l.length (Nat.le_refl _)
 rw [List.take_of_length_le (Nat.le_refl _)] at this
 exact this
end Go.Proofs.YtalkkcfojplmdaaGreatDoor
end
section
namespace Go.Proofs.YtalkkcfojplmdaaGreatDoor
open Go.Vc
attribute [local irreducible] JL JC JQ OpWp Con ConN
attribute [local irreducible] byteAt runLen isL isD isName hasW
set_option maxHeartbeats 4000000
def nmOk (s:ByteArray):Prop:=isName s=true∧hasW s=false
def T.ok:T→Prop
 | .nu n=>-2147483647≤n∧n≤2147483647
 | .nm s=>nmOk s
 | .ix s t=>nmOk s∧t.ok
 | .bn o a b=>(1≤o∧o≤14)∧a.ok∧b.ok
end Go.Proofs.YtalkkcfojplmdaaGreatDoor
end
section
namespace Go.Proofs.YtalkkcfojplmdaaGreatDoor
open Go.Vc
attribute [local irreducible] JL JC JQ OpWp Con ConN
attribute [local irreducible] byteAt runLen isL isD isName hasW
set_option maxHeartbeats 4000000
theorem str_ne {o:Int} (h:1≤o∧o≤14):¬ signT o=⟨#[]⟩:=by
 intro e
 have:=congrArg ByteArray.size e
 rcases op14 h with rfl | rfl | rfl | rfl | rfl | rfl | rfl | rfl | rfl | rfl | rfl | rfl | rfl | rfl <;> exact absurd this (by decide)
end Go.Proofs.YtalkkcfojplmdaaGreatDoor
end
section
namespace Go.Proofs.YtalkkcfojplmdaaGreatDoor
open Go.Vc
attribute [local irreducible] JL JC JQ OpWp Con ConN
attribute [local irreducible] byteAt runLen isL isD isName hasW
set_option maxHeartbeats 4000000
end Go.Proofs.YtalkkcfojplmdaaGreatDoor
end
section
namespace Go.Proofs.YtalkkcfojplmdaaGreatDoor
set_option maxRecDepth 100000
def laysItoa_ren:Go.Shelf.Ren:=⟨fun | 129=>256 | 171=>144 | 243=>192 | 246=>234 | 283=>247 | 284=>248 | 285=>249 | 286=>250 | 317=>255 | 318=>257 | 319=>258 | 320=>259 | 337=>261 | 338=>262 | n=>n,fun | 0=>0 | 2=>2 | 3=>3 | 4=>4 | 5=>5 | 9=>9 | 20=>20 | 37=>73 | 46=>121 | 51=>199 | 53=>202 | 171=>232 | 173=>235 | 212=>239 | 213=>240 | 232=>243 | 233=>244 | n=>n,fun | 17=>3 | 18=>4 | 19=>5 | n=>n⟩
theorem laysItoa:Go.Proofs.LaysM.n171 Tryz.prog laysItoa_ren:={
 mixed:=by kernel_rfl,
 f129:=Tryz.func256.trans (congrArg some (by kernel_rfl)),
 f171:=Tryz.func144.trans (congrArg some (by kernel_rfl)),
 f243:=Tryz.func192.trans (congrArg some (by kernel_rfl)),
 f246:=Tryz.func234.trans (congrArg some (by kernel_rfl)),
 f283:=Tryz.func247.trans (congrArg some (by kernel_rfl)),
 f284:=Tryz.func248.trans (congrArg some (by kernel_rfl)),
 f285:=Tryz.func249.trans (congrArg some (by kernel_rfl)),
 f286:=Tryz.func250.trans (congrArg some (by kernel_rfl)),
 f317:=Tryz.func255.trans (congrArg some (by kernel_rfl)),
 f318:=Tryz.func257.trans (congrArg some (by kernel_rfl)),
 f319:=Tryz.func258.trans (congrArg some (by kernel_rfl)),
 f320:=Tryz.func259.trans (congrArg some (by kernel_rfl)),
 f337:=Tryz.func261.trans (congrArg some (by kernel_rfl)),
 f338:=Tryz.func262.trans (congrArg some (by kernel_rfl)),
 t0:=Tryz.underlying0,
 a0:=Tryz.isAgg0,
 z0:=Tryz.sizeOf0,
 v0:=Tryz.zeroValue0,
 t2:=Tryz.underlying2,
 a2:=Tryz.isAgg2,
 z2:=Tryz.sizeOf2,
 v2:=Tryz.zeroValue2,
 t3:=Tryz.underlying3,
 a3:=Tryz.isAgg3,
 z3:=Tryz.sizeOf3,
 v3:=Tryz.zeroValue3,
 t4:=Tryz.underlying4,
 a4:=Tryz.isAgg4,
 z4:=Tryz.sizeOf4,
 v4:=Tryz.zeroValue4,
 t5:=Tryz.underlying5,
 a5:=Tryz.isAgg5,
 z5:=Tryz.sizeOf5,
 v5:=Tryz.zeroValue5,
 t9:=Tryz.underlying9,
 a9:=Tryz.isAgg9,
 z9:=Tryz.sizeOf9,
 v9:=Tryz.zeroValue9,
 t20:=Tryz.underlying20,
 a20:=Tryz.isAgg20,
 z20:=Tryz.sizeOf20,
 v20:=Tryz.zeroValue20,
 t37:=Tryz.underlying73,
 a37:=Tryz.isAgg73,
 z37:=Tryz.sizeOf73,
 v37:=Tryz.zeroValue73,
 t46:=Tryz.underlying121,
 a46:=Tryz.isAgg121,
 z46:=Tryz.sizeOf121,
 v46:=Tryz.zeroValue121,
 t51:=Tryz.underlying199,
 a51:=Tryz.isAgg199,
 z51:=Tryz.sizeOf199,
 v51:=Tryz.zeroValue199,
 t53:=Tryz.underlying202,
 a53:=Tryz.isAgg202,
 z53:=Tryz.sizeOf202,
 v53:=Tryz.zeroValue202,
 t171:=Tryz.underlying232,
 a171:=Tryz.isAgg232,
 z171:=Tryz.sizeOf232,
 v171:=Tryz.zeroValue232,
 t173:=Tryz.underlying235,
 a173:=Tryz.isAgg235,
 z173:=Tryz.sizeOf235,
 v173:=Tryz.zeroValue235,
 t212:=Tryz.underlying239,
 a212:=Tryz.isAgg239,
 z212:=Tryz.sizeOf239,
 v212:=Tryz.zeroValue239,
 t213:=Tryz.underlying240,
 a213:=Tryz.isAgg240,
 z213:=Tryz.sizeOf240,
 t232:=Tryz.underlying243,
 a232:=Tryz.isAgg243,
 z232:=Tryz.sizeOf243,
 v232:=Tryz.zeroValue243,
 t233:=Tryz.underlying244,
 a233:=Tryz.isAgg244,
 z233:=Tryz.sizeOf244,
 v233:=Tryz.zeroValue244,
 g17:=by kernel_rfl,
 g18:=by kernel_rfl,
 g19:=by kernel_rfl,
 i0:=by kernel_rfl,
 i2:=by kernel_rfl,
 i3:=by kernel_rfl,
 i4:=by kernel_rfl,
 i5:=by kernel_rfl,
 i9:=by kernel_rfl,
 i20:=by kernel_rfl,
 i37:=by kernel_rfl,
 i46:=by kernel_rfl,
 i51:=by kernel_rfl,
 i53:=by kernel_rfl,
 i171:=by kernel_rfl,
 i173:=by kernel_rfl,
 i212:=by kernel_rfl,
 i232:=by kernel_rfl,
 i233:=by kernel_rfl,
 m17:=by kernel_rfl,
 m18:=by kernel_rfl,
 m19:=by kernel_rfl }
end Go.Proofs.YtalkkcfojplmdaaGreatDoor
end
section
namespace Go.Proofs.YtalkkcfojplmdaaGreatDoor
open Go.Vc
attribute [local irreducible] JL JC JQ OpWp
attribute [local irreducible] byteAt runLen isL isD isName hasW
set_option maxHeartbeats 4000000
def numS (n:Int):ByteArray:=⟨(Lib.itoa n).toArray⟩
theorem itoa_c (n:Int) (h0:-2147483647≤n) (h1:n≤2147483647):Con Tryz.prog 144 [In .i64 n] [] (fun K=>K (Str (numS n)) []):=by
 rintro vs w A _ _ _ ⟨v,r,rfl,⟨rfl,_⟩,hr⟩ _ ⟨⟨g,hg1,hg2,htab⟩,_,_⟩
 simp only [SOks] at hr
 subst hr
 refine (Any.strconv_Itoa laysItoa n g_ g_ w htab).mono ?_
 rintro e w' ⟨rfl,k,os,rfl⟩
 refine ⟨_,_,[],rfl,fun K h=>h,⟨?_,rfl⟩,by simp,by simp [hb],by simp [hb],⟨rfl,rfl,rfl,?_,?_⟩⟩
 ·unfold numS
  rfl
 ·simp [Sort.grow]
 ·intro j hj _
  show (w.heap ++ os)[j]?=_
  rw [Array.getElem?_append_left hj]
attribute [local irreducible] Con ConN
theorem numS_size (n:Int) (h0:-2147483647≤n) (h1:n≤2147483647):(numS n).size≤21:=by
 have:=Lib.itoa_length_le n (by omega) (by omega)
 unfold numS
 simpa [ByteArray.size] using this
theorem numS_nonneg (n:Int) (h:0≤n):numS n=decS n.toNat:=by
 obtain ⟨u,rfl⟩:∃ u:Nat,n=u:=⟨n.toNat,by omega⟩
 unfold numS decS
 rw [Lib.itoa_nonneg,Int.toNat_natCast]
theorem numS_neg (n:Int) (h:n < 0):numS n=⟨#[45]⟩ ++ decS (-n).toNat:=by
 obtain ⟨u,rfl⟩:∃ u:Nat,n=-(u:Int):=⟨(-n).toNat,by omega⟩
 unfold numS decS
 rw [Lib.itoa_neg u (by omega),show (- -(u:Int)).toNat=u by omega]
 apply ByteArray.ext
 rw [ByteArray.data_append]
 simp
theorem refNumber_c (n:Int) (h:-2147483647≤n∧n≤2147483647):Con Tryz.prog 162 [In .i64 n] [] (fun K=>K (Str (numS n)) []):=by
 refine con_intro Tryz.func162 O O b_ (fun c hc=>ZV ?_)
 refine bw_ O O (T_ (jc_condd O (fun hn=>?_) (fun hn=>?_)))
 ·have hD:=Decimal_c (-n).toNat (by omega)
  rw [show (((-n).toNat:Nat):Int)=-n by omega] at hD
  have h45:(⟨#[45]⟩:ByteArray).size=1:=rfl
  have hz:=decS_le (-n).toNat (by omega)
  refine R_ (M_ O (o_ O (cy_ O g_ (o_ O (bm_ O (hD) (o_ O (ow_strcat O O g_ (E_ O (T_ (ar_ (aw_ (jq_ret1 O O [] O (fun K h=>by rw [numS_neg n hn] at h; exact h)))))))))))))
 ·have hD:=Decimal_c n.toNat (by omega)
  rw [show ((n.toNat:Nat):Int)=n by omega] at hD
  refine as_ (al_ (R_ (M_ O (o_ O (bm_ O (hD) (E_ O (T_ (ar_ (jq_ret1 O O [] O (fun K h=>by rw [numS_nonneg n g_] at h; exact h))))))))))
def textT:T→ByteArray
 | .nu n=>if n < 0 then (⟨#[40]⟩ ++ numS n) ++ ⟨#[41]⟩ else numS n
 | .nm s=>s
 | .ix s t=>((s ++ ⟨#[91]⟩) ++ textT t) ++ ⟨#[93]⟩
 | .bn o a b=>(((((⟨#[40]⟩ ++ textT a) ++ ⟨#[32]⟩) ++ signT o) ++ ⟨#[32]⟩) ++ textT b) ++ ⟨#[41]⟩
theorem one_size (c:UInt8):(⟨#[c]⟩:ByteArray).size=1:=rfl
theorem sign_size {o:Int} (h:1≤o∧o≤14):(signT o).size≤2:=by
 rcases op14 h with rfl | rfl | rfl | rfl | rfl | rfl | rfl | rfl | rfl | rfl | rfl | rfl | rfl | rfl <;> decide
theorem expr_c:∀ (t:T),t.ok→(textT t).size≤1000000000→Con Tryz.prog 193 [.row t.row'] [] (fun K=>K (Str (textT t)) []):=by
 intro t
 induction t with
 | nu n =>
  intro hok hz
  have hI:=itoa_c n hok.1 hok.2
  have hz:=numS_size n hok.1 hok.2
  have h40:=one_size 40
  have h41:=one_size 41
  have h2:(⟨#[40]⟩ ++ numS n).size≤30:=by rw [ByteArray.size_append]; omega
  show Con _ _ [.row [.val (.int .i64 1),.val (.int .i64 n),.val (.string ⟨#[]⟩),.val (.int .i64 0),.list (([]:List T).map T.row)]] [] _
  refine con_intro Tryz.func193 O O b_ (fun c hc=>ZD (fun bx=>?_))
  refine F_ O (L_ 0 O (T_ (au_ (Zu ?_))))
  refine jc_condd O (fun _=>?_) (fun h=>absurd O h)
  refine am_ (Yh ?_)
  refine bw_ O O (T_ (jc_condd O (fun hn=>?_) (fun hn=>?_)))
  ·have e:textT (.nu n)=(⟨#[40]⟩ ++ numS n) ++ ⟨#[41]⟩:=by unfold textT; rw [if_pos hn]
   refine Yh ?_
   refine bm_ O (hI) (o_ O (ow_strcat O O g_ (o_ O (ow_strcat O O g_ (E_ O (T_ (ar_ (aw_ (az_ (aw_ (jq_ret1 O O [] O (fun K h=>by rw [e] at h; exact h))))))))))))
  ·have e:textT (.nu n)=numS n:=by unfold textT; rw [if_neg hn]
   refine as_ (al_ (Yh ?_))
   refine bm_ O (hI) (E_ O (T_ (ar_ (az_ (aw_ (jq_ret1 O O [] O (fun K h=>by rw [e] at h; exact h)))))))
 | nm s =>
  intro hok hz
  show Con _ _ [.row [.val (.int .i64 2),.val (.int .i64 0),.val (.string s),.val (.int .i64 0),.list (([]:List T).map T.row)]] [] _
  refine con_intro Tryz.func193 rfl rfl b_ (fun c hc=>ZD (fun bx=>?_))
  refine F_ O (L_ 0 O (T_ (au_ (Zu ?_))))
  refine jc_condd rfl (fun h=>by cases h) (fun _=>?_)
  refine R_ (o_ O (bn_ O O (E_ O (T_ (jc_condd O (fun _=>R_ (F_ O (L_ 0 O (E_ O (T_ (ar_ (az_ (aw_ (jq_ret1 O O [] O (fun K h=>h)))))))))) (fun h=>absurd O h))))))
 | ix s t ih =>
  intro hok hz
  have e:textT (.ix s t)=((s ++ ⟨#[91]⟩) ++ textT t) ++ ⟨#[93]⟩:=by rw [textT]
  rw [e] at hz
  have h91:=one_size 91
  have h93:=one_size 93
  have hz1:=hz
  rw [ByteArray.size_append] at hz1
  have hz2:=hz1
  rw [ByteArray.size_append] at hz2
  have hz3:=hz2
  rw [ByteArray.size_append] at hz3
  have hI:=ih hok.2 (by omega)
  have e1:[t].length=1:=rfl
  show Con _ _ [.row [.val (.int .i64 3),.val (.int .i64 0),.val (.string s),.val (.int .i64 0),.list ([t].map T.row)]] [] _
  refine con_intro Tryz.func193 rfl rfl b_ (fun c hc=>ZD (fun bx=>?_))
  refine F_ O (L_ 0 O (T_ (au_ (Zu ?_))))
  refine jc_condd rfl (fun h=>by cases h) (fun _=>?_)
  refine Zu ?_
  refine jc_condd rfl (fun h=>by cases h) (fun _=>Zu ?_)
  refine jc_condd rfl (fun _=>am_ (ao_ O O k_ k_ (yF_ O (yL_ 0 O (aa_ (fun c=>ow_strcat O O g_ p_) (yF_ O ?_)))))) (fun h=>absurd rfl h)
  refine yL_ 0 O (ZC ?_)
  refine aa_ (fun c=>bm_ O (hI) p_) (Z9 ?_)
  refine yE_ O (ae_ (al_ (ar_ (az_ (aw_ (jq_ret1 O O [] O (fun K h=>by rw [e] at h; exact h)))))))
 | bn o a b iha ihb =>
  intro hok hz
  have e:textT (.bn o a b)=(((((⟨#[40]⟩ ++ textT a) ++ ⟨#[32]⟩) ++ signT o) ++ ⟨#[32]⟩) ++ textT b) ++ ⟨#[41]⟩:=by rw [textT]
  rw [e] at hz
  have h40:=one_size 40
  have h32:=one_size 32
  have h41:=one_size 41
  have hz1:=hz
  rw [ByteArray.size_append] at hz1
  have hz2:=hz1
  rw [ByteArray.size_append] at hz2
  have hz3:=hz2
  rw [ByteArray.size_append] at hz3
  have hz4:=hz3
  rw [ByteArray.size_append] at hz4
  have hz5:=hz4
  rw [ByteArray.size_append] at hz5
  have hz6:=hz5
  rw [ByteArray.size_append] at hz6
  have hS:=Sign_c o hok.1
  have hA:=iha hok.2.1 (by omega)
  have hB:=ihb hok.2.2 (by omega)
  have e1:[a,b].length=2:=rfl
  show Con _ _ [.row [.val (.int .i64 4),.val (.int .i64 0),.val (.string ⟨#[]⟩),.val (.int .i64 o),.list ([a,b].map T.row)]] [] _
  refine con_intro Tryz.func193 rfl rfl b_ (fun c hc=>ZD (fun bx=>?_))
  refine F_ O (L_ 0 O (T_ (au_ (Zu ?_))))
  refine jc_condd rfl (fun h=>by cases h) (fun _=>?_)
  refine Zu ?_
  refine jc_condd rfl (fun h=>by cases h) (fun _=>Zu ?_)
  refine jc_condd rfl (fun h=>by cases h) (fun _=>as_ (ay_ (al_ (am_ (ao_ O O k_ k_ (yF_ O ?_))))))
  refine yL_ 0 O (ZC ?_)
  refine aa_ (fun c=>bm_ O (hA) p_) (Z9 ?_)
  refine yF_ O (yL_ 0 O (aa_ (fun c=>bm_ O (hS) p_) (Z9 ?_)))
  refine yF_ O (yL_ 0 O (aa_ (fun c=>cv_ O O g_ g_ (T.row_eq _) O b_ p_) ?_))
  refine aa_ (fun c=>cr_ O O O p_) (aa_ (fun c=>bm_ O (hB) p_) (Z9 ?_))
  refine yE_ O (ae_ (al_ (ar_ (jq_ret1 O O [] O (fun K h=>by rw [e] at h; exact h)))))
end Go.Proofs.YtalkkcfojplmdaaGreatDoor
end
section
namespace Go.Proofs.YtalkkcfojplmdaaGreatDoor
open Go.Vc
attribute [local irreducible] JL JC JQ OpWp Con ConN
attribute [local irreducible] byteAt runLen isL isD isName hasW
set_option maxHeartbeats 4000000
theorem rtext_c:∀ (t:T),t.ok→(textT t).size≤1000000000→Con Tryz.prog 202 [.row t.row'] [] (fun K=>K (Str (textT t)) []):=by
 intro t
 induction t with
 | nu n =>
  intro hok hz
  have hI:=refNumber_c n hok
  have hz:=numS_size n hok.1 hok.2
  have h40:=one_size 40
  have h41:=one_size 41
  have h2:(⟨#[40]⟩ ++ numS n).size≤30:=by rw [ByteArray.size_append]; omega
  show Con _ _ [.row [.val (.int .i64 1),.val (.int .i64 n),.val (.string ⟨#[]⟩),.val (.int .i64 0),.list (([]:List T).map T.row)]] [] _
  refine con_intro Tryz.func202 O O b_ (fun c hc=>ZD (fun bx=>?_))
  refine F_ O (L_ 0 O (T_ (au_ (Zu ?_))))
  refine jc_condd O (fun _=>?_) (fun h=>absurd O h)
  refine am_ (Yh ?_)
  refine bw_ O O (T_ (jc_condd O (fun hn=>?_) (fun hn=>?_)))
  ·have e:textT (.nu n)=(⟨#[40]⟩ ++ numS n) ++ ⟨#[41]⟩:=by unfold textT; rw [if_pos hn]
   refine Yh ?_
   refine bm_ O (hI) (o_ O (ow_strcat O O g_ (o_ O (ow_strcat O O g_ (E_ O (T_ (ar_ (aw_ (az_ (aw_ (jq_ret1 O O [] O (fun K h=>by rw [e] at h; exact h))))))))))))
  ·have e:textT (.nu n)=numS n:=by unfold textT; rw [if_neg hn]
   refine as_ (al_ (Yh ?_))
   refine bm_ O (hI) (E_ O (T_ (ar_ (az_ (aw_ (jq_ret1 O O [] O (fun K h=>by rw [e] at h; exact h)))))))
 | nm s =>
  intro hok hz
  show Con _ _ [.row [.val (.int .i64 2),.val (.int .i64 0),.val (.string s),.val (.int .i64 0),.list (([]:List T).map T.row)]] [] _
  refine con_intro Tryz.func202 rfl rfl b_ (fun c hc=>ZD (fun bx=>?_))
  refine F_ O (L_ 0 O (T_ (au_ (Zu ?_))))
  refine jc_condd rfl (fun h=>by cases h) (fun _=>?_)
  refine R_ (o_ O (bn_ O O (E_ O (T_ (jc_condd O (fun _=>R_ (F_ O (L_ 0 O (E_ O (T_ (ar_ (az_ (aw_ (jq_ret1 O O [] O (fun K h=>h)))))))))) (fun h=>absurd O h))))))
 | ix s t ih =>
  intro hok hz
  have e:textT (.ix s t)=((s ++ ⟨#[91]⟩) ++ textT t) ++ ⟨#[93]⟩:=by rw [textT]
  rw [e] at hz
  have h91:=one_size 91
  have h93:=one_size 93
  have hz1:=hz
  rw [ByteArray.size_append] at hz1
  have hz2:=hz1
  rw [ByteArray.size_append] at hz2
  have hz3:=hz2
  rw [ByteArray.size_append] at hz3
  have hI:=ih hok.2 (by omega)
  have e1:[t].length=1:=rfl
  show Con _ _ [.row [.val (.int .i64 3),.val (.int .i64 0),.val (.string s),.val (.int .i64 0),.list ([t].map T.row)]] [] _
  refine con_intro Tryz.func202 rfl rfl b_ (fun c hc=>ZD (fun bx=>?_))
  refine F_ O (L_ 0 O (T_ (au_ (Zu ?_))))
  refine jc_condd rfl (fun h=>by cases h) (fun _=>?_)
  refine Zu ?_
  refine jc_condd rfl (fun h=>by cases h) (fun _=>Zu ?_)
  refine jc_condd rfl (fun _=>am_ (ao_ O O k_ k_ (yF_ O (yL_ 0 O (aa_ (fun c=>ow_strcat O O g_ p_) (yF_ O ?_)))))) (fun h=>absurd rfl h)
  refine yL_ 0 O (ZC ?_)
  refine aa_ (fun c=>bm_ O (hI) p_) (Z9 ?_)
  refine yE_ O (ae_ (al_ (ar_ (az_ (aw_ (jq_ret1 O O [] O (fun K h=>by rw [e] at h; exact h)))))))
 | bn o a b iha ihb =>
  intro hok hz
  have e:textT (.bn o a b)=(((((⟨#[40]⟩ ++ textT a) ++ ⟨#[32]⟩) ++ signT o) ++ ⟨#[32]⟩) ++ textT b) ++ ⟨#[41]⟩:=by rw [textT]
  rw [e] at hz
  have h40:=one_size 40
  have h32:=one_size 32
  have h41:=one_size 41
  have hz1:=hz
  rw [ByteArray.size_append] at hz1
  have hz2:=hz1
  rw [ByteArray.size_append] at hz2
  have hz3:=hz2
  rw [ByteArray.size_append] at hz3
  have hz4:=hz3
  rw [ByteArray.size_append] at hz4
  have hz5:=hz4
  rw [ByteArray.size_append] at hz5
  have hz6:=hz5
  rw [ByteArray.size_append] at hz6
  have hS:=RSign_c o hok.1
  have hA:=iha hok.2.1 (by omega)
  have hB:=ihb hok.2.2 (by omega)
  have e1:[a,b].length=2:=rfl
  show Con _ _ [.row [.val (.int .i64 4),.val (.int .i64 0),.val (.string ⟨#[]⟩),.val (.int .i64 o),.list ([a,b].map T.row)]] [] _
  refine con_intro Tryz.func202 rfl rfl b_ (fun c hc=>ZD (fun bx=>?_))
  refine F_ O (L_ 0 O (T_ (au_ (Zu ?_))))
  refine jc_condd rfl (fun h=>by cases h) (fun _=>?_)
  refine Zu ?_
  refine jc_condd rfl (fun h=>by cases h) (fun _=>Zu ?_)
  refine jc_condd rfl (fun h=>by cases h) (fun _=>as_ (ay_ (al_ (am_ (ao_ O O k_ k_ (yF_ O ?_))))))
  refine yL_ 0 O (ZC ?_)
  refine aa_ (fun c=>bm_ O (hA) p_) (Z9 ?_)
  refine yF_ O (yL_ 0 O (aa_ (fun c=>bm_ O (hS) p_) (Z9 ?_)))
  refine yF_ O (yL_ 0 O (aa_ (fun c=>cv_ O O g_ g_ (T.row_eq _) O b_ p_) ?_))
  refine aa_ (fun c=>cr_ O O O p_) (aa_ (fun c=>bm_ O (hB) p_) (Z9 ?_))
  refine yE_ O (ae_ (al_ (ar_ (jq_ret1 O O [] O (fun K h=>by rw [e] at h; exact h)))))
theorem name_size {s:ByteArray} (h:nmOk s):s.size≤12:=by
 have:=h.1
 unfold isName at this
 simp only [Bool.and_eq_true,decide_eq_true_eq] at this
 exact this.1.2
theorem text_size:∀ (t:T),t.ok→(textT t).size+50≤100 * 2 ^ t.dep
 | .nu n,h=>by
  have:=numS_size n h.1 h.2
  have h40:=one_size 40
  have h41:=one_size 41
  unfold textT
  simp only [T.dep]
  split
  ·rw [ByteArray.size_append,ByteArray.size_append]; omega
  ·omega
 | .nm s,h=>by
  have:=name_size h
  simp only [textT,T.dep]
  omega
 | .ix s t,h=>by
  have:=name_size h.1
  have:=text_size t h.2
  have h91:=one_size 91
  have h93:=one_size 93
  simp only [textT,T.dep,ByteArray.size_append,Nat.pow_succ]
  omega
 | .bn o a b,h=>by
  have h1:=text_size a h.2.1
  have h2:=text_size b h.2.2
  have h3:=sign_size h.1
  have h40:=one_size 40
  have h32:=one_size 32
  have h41:=one_size 41
  have e1:2 ^ a.dep≤2 ^ max a.dep b.dep:=Nat.pow_le_pow_right (by decide) (by omega)
  have e2:2 ^ b.dep≤2 ^ max a.dep b.dep:=Nat.pow_le_pow_right (by decide) (by omega)
  simp only [textT,T.dep,ByteArray.size_append,Nat.pow_succ]
  omega
theorem text_small {t:T} (h:t.ok) (hd:t.dep≤8):(textT t).size≤1000000000:=by
 have h1:=text_size t h
 have h2:2 ^ t.dep≤2 ^ 8:=Nat.pow_le_pow_right (by decide) hd
 omega
end Go.Proofs.YtalkkcfojplmdaaGreatDoor
end
section
namespace Go.Proofs.YtalkkcfojplmdaaGreatDoor
open Go.Vc
set_option maxHeartbeats 4000000
attribute [local irreducible] JL JC JQ OpWp Con ConN
attribute [local irreducible] StG Mz
def LoopP (L:List Int) (bm bd:Nat) (V A:List ByteArray) (Sh:List Shd) (d:Nat):Prop :=
 ∀ (m:Ms) (hs:ByteArray) (il:Int) (LS:List ByteArray) (x:Int),m.ok→m.lab≤11→0≤il→il≤1→LS.length≤il→x=(d+1:Nat) →
  Con Tryz.prog 224 [Ptr bm,In .i64 x] [Mk bm bd V m.lv A Sh hs m.lab m.st il,Dk bd L,.own m.lv 9 1 (LS.map Wrow)]
   (fun K=>∀ r:Ms × List Sm,(r.1.ok∧r.2.length≤2∧LpG V (usableF A Sh hs) il (StG V A Sh d (il+1) hs) m.lab r.1.lab r.2∧Mz r.2 (m.st+1 - r.1.st))→K (.cell (.list (r.2.map Sm.row))) [Mk bm bd V r.1.lv A Sh hs r.1.lab r.1.st il,Dk bd L,.own r.1.lv 9 1 (LS.map Wrow)])
theorem sm_le (k:Int) (nm:ByteArray) (I V:List T) (mx lb:Int) (tt ee:List Sm) {cI cV cT cE:C} (hI:CLe cI (.list (I.map T.row))) (hV:CLe cV (.list (V.map T.row))) (hT:CLe cT (.list (tt.map Sm.row))) (hE:CLe cE (.list (ee.map Sm.row))) :
 RowLe [.val (.int .i64 k),.val (.string nm),cI,cV,.val (.int .i64 mx),.val (.int .i64 lb),cT,cE] (Sm.row (.mk k nm I V mx lb tt ee)):=by
 rw [Sm.row_eq]
 exact .cons (.refl _) (.cons (.refl _) (.cons hI (.cons hV (.cons (.refl _) (.cons (.refl _) (.cons hT (.cons hE .nil)))))))
theorem sm_le' (k:Int) (nm:ByteArray) (I V:List T) (mx lb:Int) (tt ee:List Sm) {cI cV cT cE:C} (hI:CLe cI (.list (I.map T.row))) (hV:CLe cV (.list (V.map T.row))) (hT:CLe cT (.list (tt.map Sm.row))) (hE:CLe cE (.list (ee.map Sm.row))) :
 RowLe [.val (.int .i64 k),.val (.string nm),cI,cV,.val (.int .i64 mx),.val (.int .i64 lb),cT,cE] (Sm.row' (.mk k nm I V mx lb tt ee)):=by
 rw [← Sm.row_eq]; exact sm_le k nm I V mx lb tt ee hI hV hT hE
theorem ex1_le (e:T):CLe (.list [e.row']) (.list ([e].map T.row)):=CLe.eq (by simp [T.row_eq])
section
variable {L:List Int} {bm bd:Nat} {V A:List ByteArray} {Sh:List Shd}
theorem loop_step (gv:Gv L V A Sh) (d:Nat) (hd10:d≤10) (hblk:BlockP L bm bd V A Sh d):LoopP L bm bd V A Sh d:=by
 intro m hs0 il LS x hm hm11 hil hil2 hLS hx
 obtain ⟨lv0,lab0,st0⟩:=m
 obtain ⟨⟨hlab0,hlab1⟩,hst0,hst1⟩:=hm
 dsimp only at hlab0 hlab1 hst0 hst1 hm11 ⊢
 refine con_intro Tryz.func224 O O b_ (fun c hc=>R_ (E_ O (T_ (R_ (YL ?_)))))
 refine o_ O (bj_ O O g_ (N_ O (F_ O (W_ 0 O (T_ (R_ (M_ O ?_)))))))
 refine N_ O (F_ O (L_ 0 O (o_ O (bj_ O O g_ (N_ O (F_ O (W_ 0 O (T_ (am_ (jc_anyB 11 (some 10) O k_ k_ (yM_ O (yN_ O (yF_ O (yL_ 0 O (yM_ O (yN_ O ?_))))))))))))))))
 refine yF_ O (yL_ 0 O (aa_ (fun c=>ow_callA [1] O O (gNext_c L _ _ gv.hL gv.hLn g_)) (aa_ (fun c=>ow_exarg 31 O (fun i=>bu_ O O O O O ⟨rfl,.refl _⟩)) (af_ (ae_ (afin_some O O O (fun bS=>jl_slot 32 O (fun mx=>S_ 0 O (T_ (am_ (R_ (M_ O (N_ O (F_ O (L_ 1 O ?_)))))))))))))))
 refine o_ O (bt_ [2] O O (Nx_c _ gv.hL gv.hLn g_) (fun k0 hk0=>o_ O (bn_ O O (T_ (jc_condd O (fun h3=>?_) (fun h3=>?_))))))
 ·refine R_ (M_ O (o_ O (bt_ [2,0] O O (gcondition_c gv.hL gv.hLn gv.hV0 gv.hV gv.hA gv.hSh) (fun e1 he1=>YF ?_))))
  refine F_ O (W_ 2 O (T_ (R_ (M_ O (M_ O (o_ O (cg_ O O g_ (o_ O (ow_callNP [1,1,1] O O (hblk ⟨lv0,lab0+1,st0⟩ hs0 (il+1) LS (x - 1) 2 ⟨⟨by dsimp only; omega,by dsimp only; omega⟩,hst0,hst1⟩ g_ g_ g_ g_ g_ g_) (fun r n hn hr=>?_))))))))))
  obtain ⟨⟨lv2,lab2,st2⟩,v2,l2⟩:=r
  obtain ⟨hok2,hf2,hl2,hsh2,hcz2⟩:=hr
  dsimp only at hok2 hl2 hsh2 hcz2 ⊢
  refine jl_freezeF 46 0 O O (hf2.mono hn) (F_ O (W_ 3 O (T_ (R_ (Wk ?_)))))
  refine cg_ O O g_ (N_ O (F_ O (W_ 1 O (T_ (R_ (A_ 1 O ?_))))))
  refine YF ?_
  refine E_ O (T_ (ar_ (aw_ (jq_sle 4 O (SLe.cell (CLe.list (.cons (sm_le 4 ⟨#[]⟩ [] [e1] mx.1 (lab0+1) l2 [] .nil (ex1_le e1) (.refl _) .nil) .nil))) ?_))))
  have fin:∀ K:S→List Ch→Prop,(∀ r:Ms × List Sm,(r.1.ok∧r.2.length≤2∧LpG V (usableF A Sh hs0) il (StG V A Sh d (il+1) hs0) lab0 r.1.lab r.2∧Mz r.2 (st0+1 - r.1.st))→K (.cell (.list (r.2.map Sm.row))) [Mk bm bd V r.1.lv A Sh hs0 r.1.lab r.1.st il,Dk bd L,.own r.1.lv 9 1 (LS.map Wrow)]) →
   K (.cell (.list [Sm.row (.mk 4 ⟨#[]⟩ [] [e1] mx.1 (lab0+1) l2 [])])) [Mk bm bd V lv2 A Sh hs0 lab2 st2 (il+1 - 1),Dk bd L,.own lv2 9 1 (LS.map Wrow)]:=by
   intro K h
   rw [show il+1 - 1=il by omega]
   exact h (⟨lv2,lab2,st2⟩,[.mk 4 ⟨#[]⟩ [] [e1] mx.1 (lab0+1) l2 []]) ⟨hok2,by simp,⟨by omega,by omega,.inl ⟨e1,mx.1,l2,he1,by have:=mx.2; omega,hsh2,rfl⟩⟩,while_cz he1 hcz2⟩
  exact jq_ret1 O O [0,1,1] O fin
 ·refine as_ (al_ (R_ (M_ O (o_ O (bt_ [2,0,1] O O (gtarget_c gv.hL gv.hLn gv.hV0 gv.hV g_) (fun tg htg=>E_ O (T_ (R_ (YL ?_)))))))))
  refine o_ O (bt_ [1] O O (Nx_c _ gv.hL gv.hLn g_) (fun sp hsp=>o_ O (bj_ O O g_ (E_ O (T_ ?_)))))
  refine R_ (Wk ?_)
  refine bt_ [0] O O (Nx_c _ gv.hL gv.hLn g_) (fun tp htp=>o_ O (bm_ O (gNum_c _) (Yn (fun bl=>?_))))
  refine am_ (R_ (M_ O (N_ O (F_ O (L_ 2 O ?_)))))
  refine o_ O (bt_ [1] O O (Nx_c _ gv.hL gv.hLn g_) (fun k4 hk4=>o_ O (bn_ O O (T_ ?_))))
  refine jc_cut (ι:=T) [0,1,5,6,7,8] (fun top=>(∃ t,(0≤t∧t≤5)∧top=.nu t) ∨ ∃ s ∈ V,top=.nm s) (fun _=>[]) (fun e=>[Mk bm bd V lv0 A Sh hs0 (lab0+1) st0 (il+1),Dk bd L,.own lv0 9 1 (LS.map Wrow),.blk bS 66 [.val (.int .i64 4),.val (.string ⟨#[]⟩),.val (.slice none 0 0),.val (.slice none 0 0),.val (.int .i64 mx.1),.val (.int .i64 (lab0+1)),.val (.slice none 0 0),.val (.slice none 0 0)],.blk bl 69 (T.row' e)]) ?_ ?_
  ·refine jc_condd O (fun h2=>?_) (fun h2=>?_)
   ·refine an_ (M_ O (M_ O (N_ O (F_ O (L_ 2 O (o_ O (bt_ [2,0] O O (gname_c gv.hL gv.hLn V gv.hV0 (by have:=gv.hV; omega)) (fun nm hnm=>o_ O (bm_ O (gName_c _) (S_ 2 O (ak_ (jq_cut (T.nm nm) [1,1,1,1,0] (.inr ⟨nm,hnm,rfl⟩) O ?_))))))))))))
    exact Wv
   ·refine as_ (jq_cut (T.nu tp) [2,0,1,1,0] (.inl ⟨tp,by omega,rfl⟩) O ?_)
    exact Wv
  ·intro e8 he8
   refine R_ (M_ O (YL ?_))
   refine M_ O (YF ?_)
   refine o_ O (ow_append1F 2 (tg) O O O O O O O (fun _=>O) (by show (_+_) * 16≤_; first | omega | (simp only [List.length_append]; omega)) (by first | omega | (simp only [List.length_append]; omega)) (fun lv1 hlv1 flv1=>N_ O (F_ O (W_ 1 O (T_ (am_ (jc_anyB 12 none O k_ k_ (yM_ O ?_))))))))
   refine yN_ O (yF_ O (yL_ 0 O (aa_ (fun c=>ow_callA [2] O O (gNext_c L _ _ gv.hL gv.hLn g_)) (aa_ (fun c=>ow_exarg 98 O (fun i=>bj_ O O (by have:=i.2; omega) ⟨rfl,.refl _⟩)) (yM_ O (aa_ (fun c=>bm_ O (gName_c _) p_) (aa_ (fun c=>bs_ 4 O O O O p_) (aa_ (fun c=>ow_exarg 99 O (fun i=>bm_ O (gBin_c _ _ _) ⟨rfl,.refl _⟩)) ?_))))))))
   refine aa_ (fun c=>ow_exarg 103 O (fun i=>bq_ O O b_ O O b_ ⟨rfl,.refl _⟩)) (yF_ O (ae_ (afin_none (jl_slot 104 O (fun op=>W_ 3 O (T_ (R_ (M_ O (M_ O (o_ O (cg_ O O g_ ?_)))))))))))
   have con:=hblk ⟨lv1,lab0+1,st0⟩ hs0 (il+1) (LS ++ [tg]) (x - 1) 2 ⟨⟨by dsimp only; omega,by dsimp only; omega⟩,hst0,hst1⟩ (by omega) (by omega) (by simp only [List.length_append,List.length_cons,List.length_nil]; omega) (by omega) (by omega) (by omega)
   dsimp only at con
   refine o_ O (ow_callNP [1,2,1] O O (con) (fun r n hn hr=>?_))
   obtain ⟨⟨lv2,lab2,st2⟩,v2,l2⟩:=r
   obtain ⟨hok2,hf2,hl2,hsh2,hcz2⟩:=hr
   dsimp only at hok2 hl2 hsh2 hf2 hcz2 ⊢
   refine M_ O (M_ O (o_ O (bm_ O (gName_c _) (M_ O (o_ O (bm_ O (gNum_c _) (o_ O (bm_ O (gBin_c _ _ _) (YF ?_)))))))))
   refine o_ O (bu_ O O O O O (YF ?_))
   refine jl_sle 118 O (SLe.cell (CLe.list (.cons (sm_le 1 tg [] [.bn 1 (.nm tg) (.nu (1+sp))] 0 0 [] [] .nil (ex1_le _) .nil .nil) .nil))) ?_
   refine o_ O (ow_append1F 0 ((.mk 1 tg [] [.bn 1 (.nm tg) (.nu (1+sp))] 0 0 [] [])) O O O O O O O (fun a=>by rw [Sm.row_eq]; rfl) (by show (_+_) * 136≤_; first | omega | (simp only [List.length_append]; omega)) (by first | omega | (simp only [List.length_append]; omega)) (fun v3 hv3 fv3=>jl_freezeF 119 0 O O (fv3 (hf2.mono hn)) (F_ O (W_ 3 O (T_ (am_ ?_))))))
   have eL:(List.map Wrow (LS ++ [tg])).length=LS.length+1:=by simp
   refine jc_anyB 12 none O k_ k_ (yM_ O (We ?_))
   refine We ?_
   refine aa_ (fun c=>cw_ 3 O O (fun hlen=>p_)) (aa_ (fun c=>cg_ O O g_ p_) ?_)
   (first | refine any_op (fun c=>ow_trim 3 rfl rfl rfl (by omega) (by omega) ⟨rfl,.refl _⟩) ?_ | refine any_op (fun c=>ow_trim 2 rfl rfl rfl (by omega) (by omega) ⟨rfl,.refl _⟩) ?_ | refine any_op (fun c=>ow_trim 4 rfl rfl rfl (by omega) (by omega) ⟨rfl,.refl _⟩) ?_)
   refine ae_ ?_
   try refine afin_none ?_
   rw [show ((((List.map Wrow (LS ++ [tg])).length:Nat):Int) - 1).toNat=LS.length by omega]
   (first | refine jl_trim 3 LS.length rfl (by omega) ?_ | refine jl_trim 2 LS.length rfl (by omega) ?_ | refine jl_trim 4 LS.length rfl (by omega) ?_)
   rw [show (List.map Wrow (LS ++ [tg])).take LS.length=List.map Wrow LS by rw [List.map_append,List.take_left' (by simp)]]
   generalize trimV lv2 LS.length=lv3
   refine N_ O (F_ O (W_ 2 O (T_ (R_ (YL ?_)))))
   refine o_ O (cg_ O O g_ (N_ O (F_ O (W_ 0 O (T_ (am_ (ao_ O O k_ k_ ?_)))))))
   refine yM_ O (yM_ O (yN_ O (yF_ O (yL_ 0 O (aa_ (fun c=>ow_callA [3] O O (gNext_c L _ _ gv.hL gv.hLn g_)) (aa_ (fun c=>ow_exarg 147 O (fun i=>bm_ O (gNum_c _) ⟨rfl,.refl _⟩)) (aa_ (fun c=>ow_exarg 148 O (fun i=>bq_ O O b_ O O b_ ⟨rfl,.refl _⟩)) (aa_ (fun c=>ow_exarg 149 O (fun i=>bu_ O O O O O ⟨rfl,.refl _⟩)) (aa_ (fun c=>bs_ 2 O O O O p_) ?_)))))))))
   refine aa_ (fun c=>ow_exarg 150 O (fun i=>bq_ O O b_ O O b_ ⟨rfl,.refl _⟩)) (yE_ O (ae_ (al_ (ar_ (jq_slot 4 O (fun i=>?_))))))
   refine jq_sle 4 O (SLe.cell (CLe.list (.cons (sm_le 1 tg [] [.nu i.1] 0 0 [] [] .nil (ex1_le _) .nil .nil) (.cons (sm_le 4 ⟨#[]⟩ [] [.bn (11+op.1) (.nm tg) e8] mx.1 (lab0+1) (l2 ++ [(.mk 1 tg [] [.bn 1 (.nm tg) (.nu (1+sp))] 0 0 [] [])]) [] .nil (ex1_le _) (.refl _) .nil) .nil)))) ?_
   have fin:∀ K:S→List Ch→Prop,(∀ r:Ms × List Sm,(r.1.ok∧r.2.length≤2∧LpG V (usableF A Sh hs0) il (StG V A Sh d (il+1) hs0) lab0 r.1.lab r.2∧Mz r.2 (st0+1 - r.1.st))→K (.cell (.list (r.2.map Sm.row))) [Mk bm bd V r.1.lv A Sh hs0 r.1.lab r.1.st il,Dk bd L,.own r.1.lv 9 1 (LS.map Wrow)]) →
    K (.cell (.list [Sm.row (.mk 1 tg [] [.nu i.1] 0 0 [] []),Sm.row (.mk 4 ⟨#[]⟩ [] [.bn (11+op.1) (.nm tg) e8] mx.1 (lab0+1) (l2 ++ [.mk 1 tg [] [.bn 1 (.nm tg) (.nu (1+sp))] 0 0 [] []]) [])])) [Mk bm bd V lv3 A Sh hs0 lab2 st2 (il+1 - 1),Dk bd L,.own lv3 9 1 (LS.map Wrow)]:=by
    intro K h
    rw [show il+1 - 1=il by omega]
    exact h (⟨lv3,lab2,st2⟩,[.mk 1 tg [] [.nu i.1] 0 0 [] [],.mk 4 ⟨#[]⟩ [] [.bn (11+op.1) (.nm tg) e8] mx.1 (lab0+1) (l2 ++ [.mk 1 tg [] [.bn 1 (.nm tg) (.nu (1+sp))] 0 0 [] []]) []])
     ⟨hok2,by simp,⟨by clear he8; omega,by clear he8; omega,.inr ⟨tg,i.1,op.1,e8,mx.1,l2,1+sp,htg,by clear he8; have:=i.2; omega,by clear he8; have:=op.2; omega,he8,by clear he8; have:=mx.2; omega,by clear he8 hok2; omega,hsh2,rfl⟩⟩,count_cz (by have:=i.2; clear he8; omega) (by clear he8; omega) he8 hcz2⟩
   first | exact jq_ret1 rfl rfl [0,1,0] rfl fin | exact jq_ret1 rfl rfl [0,2,0] rfl fin | exact jq_ret1 rfl rfl [0,3,0] rfl fin | exact jq_ret1 rfl rfl [0,4,0] rfl fin
end
end Go.Proofs.YtalkkcfojplmdaaGreatDoor
end
section
namespace Go.Proofs.YtalkkcfojplmdaaGreatDoor
open Go.Vc
set_option maxHeartbeats 4000000
attribute [local irreducible] JL JC JQ OpWp Con ConN
theorem StG.inn {V A:List ByteArray} {Sh:List Shd} {d:Nat} {il:Int} {hs:ByteArray} {lab lab':Int} {l:List Sm} (h:IfG V (usableF A Sh hs) (StG V A Sh d il hs) lab lab' l ∨ LpG V (usableF A Sh hs) il (StG V A Sh d (il+1) hs) lab lab' l ∨ LkG Sh hs (StG V A Sh d il) lab lab' l):StG V A Sh (d+1) il hs lab lab' l:=.inr h
attribute [local irreducible] StG Mz
section
variable {L:List Int} {bm bd:Nat} {V A:List ByteArray} {Sh:List Shd}
theorem stmt_step (gv:Gv L V A Sh) (d:Nat) (hd10:d≤10) (hblk:∀ d',d=d'+1→BlockP L bm bd V A Sh d') (hloop:∀ d',d=d'+1→LoopP L bm bd V A Sh d'):StmtP L bm bd V A Sh d:=by
 intro m hs0 il LS x hm hil hil2 hLS hx
 obtain ⟨lv0,lab0,st0⟩:=m
 obtain ⟨⟨hlab0,hlab1⟩,hst0,hst1⟩:=hm
 dsimp only at hlab0 hlab1 hst0 hst1 ⊢
 refine con_intro Tryz.func181 O O b_ (fun c hc=>R_ (E_ O (T_ (R_ (YL ?_)))))
 refine o_ O (bt_ [1] O O (Nx_c _ gv.hL gv.hLn g_) (fun k0 hk0=>E_ O (T_ (am_ (am_ (jc_cut (ι:=Bool) [0,1,4,5] (fun b=>b=false→0 < x∧lab0 < 12) (fun b=>[(23,Bl b)]) (fun _=>[Mk bm bd V lv0 A Sh hs0 lab0 st0 il,Dk bd L,.own lv0 9 1 (LS.map Wrow)]) ?_ ?_))))))
 ·by_cases hx0:x≤0
  ·refine an_ (M_ O (o_ O (cu_ O O (M_ O (Yg ?_)))))
   refine ai_ O u_ b_ (ai_ O u_ b_ (o_ O (bp_ O u_ O (ak_ (jq_cut true [1,0,0] (by simp) O ?_)))))
   exact Wv
  ·refine an_ (M_ O (o_ O (cu_ O O (M_ O (ah_ O w_ b_ (bd_ O (ah_ O w_ b_ (bh_ O (ah_ O w_ b_ (bf_ O O O b_ (ah_ O w_ b_ (bg_ 1 O O O O (ah_ O w_ b_ (cn_ O O (o_ O (bv_ O w_ O (ak_ (jq_cut (decide (12≤lab0)) [1,0,0] (by simp; omega) O ?_))))))))))))))))))
   exact Wv
 intro b hb
 skip
 have ht:0≤k0 % 3∧k0 % 3≤2:=by omega
 refine jc_cut (ι:=Int) [0,1,4] (fun k=>0≤k∧k≤8∧(2 < k→0 < x∧lab0 < 12)) (fun k=>[(5,In .i64 k)]) (fun _=>[Mk bm bd V lv0 A Sh hs0 lab0 st0 il,Dk bd L,.own lv0 9 1 (LS.map Wrow)]) ?_ ?_
 ·refine jc_cond O (fun h=>?_) (fun h=>?_)
  ·refine an_ (M_ O (o_ O (ow_rem64 O O g_ g_ (E_ O (ak_ (jq_cut (k0 % 3) [0,0,0] g_ O ?_))))))
   exact Wv
  ·refine as_ (jq_cut k0 [0,0,0] ⟨hk0.1,by omega,fun _=>hb h⟩ O ?_)
   exact Wv
 intro k ⟨hk1,hk8,hkd⟩
 clear ht
 have fin1:∀ (s:Sm) (m:Ms),m.ok→StG V A Sh d il hs0 lab0 m.lab [s]→Mz [s] (st0+1 - m.st)→∀ K:S→List Ch→Prop,(∀ r:Ms × List Sm,(r.1.ok∧r.2.length≤2∧StG V A Sh d il hs0 lab0 r.1.lab r.2∧Mz r.2 (st0+1 - r.1.st))→K (.cell (.list (r.2.map Sm.row))) [Mk bm bd V r.1.lv A Sh hs0 r.1.lab r.1.st il,Dk bd L,.own r.1.lv 9 1 (LS.map Wrow)]) →
  K (.cell (.list [s.row])) [Mk bm bd V m.lv A Sh hs0 m.lab m.st il,Dk bd L,.own m.lv 9 1 (LS.map Wrow)] :=
  fun s m hm hs hz K h=>h (m,[s]) ⟨hm,by simp,hs,hz⟩
 have fin0:∀ (s:Sm),LeafG V (usableF A Sh hs0) lab0 lab0 [s]→∀ K:S→List Ch→Prop,(∀ r:Ms × List Sm,(r.1.ok∧r.2.length≤2∧StG V A Sh d il hs0 lab0 r.1.lab r.2∧Mz r.2 (st0+1 - r.1.st))→K (.cell (.list (r.2.map Sm.row))) [Mk bm bd V r.1.lv A Sh hs0 r.1.lab r.1.st il,Dk bd L,.own r.1.lv 9 1 (LS.map Wrow)]) →
  K (.cell (.list [s.row])) [Mk bm bd V lv0 A Sh hs0 lab0 st0 il,Dk bd L,.own lv0 9 1 (LS.map Wrow)] :=
  fun s hs=>fin1 s ⟨lv0,lab0,st0⟩ ⟨⟨hlab0,hlab1⟩,hst0,hst1⟩ (.leaf hs) ((leaf_cz hs).eq (by dsimp only; omega))
 have hU:=usable_len A Sh hs0
 have hUA:=gv.hA
 have hUS:=gv.hSh
 refine am_ (R_ (M_ O (T_ (jc_cut (ι:=Unit) [0,1] (fun _=>True) (fun _=>[]) (fun _=>[Mk bm bd V lv0 A Sh hs0 lab0 st0 il,Dk bd L,.own lv0 9 1 (LS.map Wrow)]) ?_ ?_))))
 ·refine au_ (Zu ?_)
  refine jc_condd O (fun h1=>?_) (fun h1=>?_)
  ·refine R_ (M_ O (o_ O (bi_ [0] O O (gusable_c gv.hA gv.hSh) (YU ?_))))
   refine br_ O (fun hlen=>o_ O (bz_ O O (T_ (jc_condd O (fun hp=>?_) (fun hp=>?_)))))
   ·simp only [List.length_map] at hp
    refine R_ (M_ O (M_ O (o_ O (bt_ [0,0] O O (gname_c gv.hL gv.hLn (usableF A Sh hs0) g_ g_) (fun s1 hs1=>M_ O (o_ O (bt_ [0,0] O O (gexpr_c gv.hL gv.hLn gv.hV0 gv.hV gv.hA gv.hSh 1 1 g_ g_ g_) (fun e1 he1=>YF ?_))))))))
    refine M_ O (o_ O (bt_ [0,0] O O (gexpr_c gv.hL gv.hLn gv.hV0 gv.hV gv.hA gv.hSh 2 2 g_ g_ g_) (fun e2 he2=>YF ?_)))
    refine o_ O (bu_ O O O O O (YF ?_))
    exact E_ O (T_ (ar_ (az_ (aw_ (jq_sle 4 O (SLe.cell (CLe.list (.cons (sm_le 2 s1 [e1] [e2] 0 0 [] [] (ex1_le e1) (ex1_le e2) .nil .nil) .nil))) (jq_ret1 O O [0,0,0] O (fin0 _ ⟨rfl,.inr ⟨s1,e1,e2,hs1,he1,he2,rfl⟩⟩)))))))
   ·refine as_ (ay_ (jq_cut () [0,0,0] trivial O ?_))
    exact Wv
  ·refine am_ (jc_cut (ι:=Bool) [0,1,26] (fun b=>b=decide (k=3 ∨ k=4 ∨ k=5)) (fun b=>[(45,Bl b)]) (fun _=>[Mk bm bd V lv0 A Sh hs0 lab0 st0 il,Dk bd L,.own lv0 9 1 (LS.map Wrow)]) ?_ ?_)
   ·refine Zu ?_
    refine jc_condd O (fun h3=>?_) (fun h3=>?_)
    ·refine as_ (jq_cut (decide (k=3)) [0,0,0] (by rw [decide_eq_decide]; omega) O ?_)
     exact Wv
    ·refine Zu ?_
     refine jc_condd O (fun h4=>?_) (fun h4=>?_)
     ·refine as_ (jq_cut (decide (k=4)) [0,0,0] (by rw [decide_eq_decide]; omega) O ?_)
      exact Wv
     ·refine an_ (o_ O (bn_ O O (E_ O (ak_ (jq_cut (decide (k=5)) [0,0,0] (by rw [decide_eq_decide]; omega) O ?_)))))
      exact Wv
   intro b hb
   refine jc_cond O (fun hbt=>?_) (fun hbt=>?_)
   ·have hk3:k=3 ∨ k=4 ∨ k=5:=by rw [hb] at hbt; exact of_decide_eq_true hbt
    obtain ⟨hx0,hl12⟩:=hkd (by omega)
    obtain ⟨d',rfl⟩:∃ d',d=d'+1:=⟨d - 1,by omega⟩
    have hblk:=hblk d' rfl
    clear hloop
    refine R_ (YL ?_)
    refine o_ O (bj_ O O g_ (N_ O (F_ O (W_ 0 O (T_ (am_ (jc_anyB 9 (some 8) O k_ k_ (yM_ O (yN_ O (yF_ O (yL_ 0 O ?_)))))))))))
    refine yM_ O (aa_ (fun c=>ow_callA [0,0] O O (con_toEx (gcondition_c gv.hL gv.hLn gv.hV0 gv.hV gv.hA gv.hSh))) (aa_ (fun c=>ow_exarg 61 O (fun i=>bq_ O O b_ O O b_ ⟨rfl,.refl _⟩)) (aa_ (fun c=>ow_exarg 62 O (fun i=>bu_ O O O O O ⟨rfl,.refl _⟩)) (af_ (ae_ (afin_some O O O (fun bS=>jl_slot 63 O (fun e1=>S_ 0 O (T_ (R_ (M_ O (M_ O (o_ O (cg_ O O g_ ?_))))))))))))))
    refine o_ O (ow_callNP [1,1,1] O O (hblk ⟨lv0,lab0+1,st0⟩ hs0 il LS (x - 1) 2 ⟨⟨by dsimp only; omega,by dsimp only; omega⟩,hst0,hst1⟩ hil hil2 hLS g_ g_ g_) (fun r n hn hr=>?_))
    obtain ⟨⟨lv1,lab1,st1⟩,v1,l1⟩:=r
    obtain ⟨hok1,hf1,hl1,hsh1,hcz1⟩:=hr
    dsimp only at hok1 hl1 hsh1 hf1 hcz1 ⊢
    refine jl_freezeF 67 0 O O (hf1.mono hn) (F_ O (W_ 3 O (T_ (am_ ?_))))
    refine jc_cut (ι:=Ms × List Sm) [0,1,7] (fun r=>r.1.ok∧r.2.length≤4∧(r.2=[]∧r.1.lab=lab1 ∨ BlG (StG V A Sh d' il hs0) 2 lab1 r.1.lab r.2)∧Mz r.2 (st1 - r.1.st)) (fun _=>[]) (fun r=>[Mk bm bd V r.1.lv A Sh hs0 r.1.lab r.1.st il,Dk bd L,.own r.1.lv 9 1 (LS.map Wrow),.blk bS 66 (Sm.row' (.mk 3 ⟨#[]⟩ [] [e1.1] 0 (lab0+1) l1 r.2))]) ?_ ?_
    ·refine R_ (Wk ?_)
     refine bt_ [2] O O (Nx_c _ gv.hL gv.hLn g_) (fun k4 hk4=>o_ O (bn_ O O (T_ (jc_condd O (fun h2=>?_) (fun h2=>?_)))))
     ·refine an_ (M_ O (M_ O (o_ O (cg_ O O g_ (o_ O (ow_callNP [2,0,1] O O (hblk ⟨lv1,lab1,st1⟩ hs0 il LS (x - 1) 2 hok1 hil hil2 hLS g_ g_ g_) (fun r n2 hn2 hr=>?_)))))))
      obtain ⟨⟨lv2,lab2,st2⟩,v2,l2⟩:=r
      obtain ⟨hok2,hf2,hl2,hsh2,hcz2⟩:=hr
      dsimp only at hok2 hl2 hsh2 hf2 hcz2 ⊢
      refine jl_freezeF 78 0 O O (hf2.mono hn2) (F_ O (W_ 3 O (ak_ ?_)))
      (first | refine jq_row 0 _ rfl (sm_le' 3 ⟨#[]⟩ [] [e1.1] 0 (lab0+1) l1 l2 .nil (ex1_le e1.1) (.refl _) (.refl _)) ?_ | refine jq_row 1 _ rfl (sm_le' 3 ⟨#[]⟩ [] [e1.1] 0 (lab0+1) l1 l2 .nil (ex1_le e1.1) (.refl _) (.refl _)) ?_ | refine jq_row 2 _ rfl (sm_le' 3 ⟨#[]⟩ [] [e1.1] 0 (lab0+1) l1 l2 .nil (ex1_le e1.1) (.refl _) (.refl _)) ?_ | refine jq_row 3 _ rfl (sm_le' 3 ⟨#[]⟩ [] [e1.1] 0 (lab0+1) l1 l2 .nil (ex1_le e1.1) (.refl _) (.refl _)) ?_)
      (first | refine jq_cut (⟨lv2,lab2,st2⟩,l2) [1,1,1,0] ⟨hok2,by dsimp only; omega,.inr hsh2,hcz2⟩ rfl ?_ | refine jq_cut (⟨lv2,lab2,st2⟩,l2) [1,2,1,0] ⟨hok2,by dsimp only; omega,.inr hsh2,hcz2⟩ rfl ?_ | refine jq_cut (⟨lv2,lab2,st2⟩,l2) [2,1,1,0] ⟨hok2,by dsimp only; omega,.inr hsh2,hcz2⟩ rfl ?_ | refine jq_cut (⟨lv2,lab2,st2⟩,l2) [2,2,1,0] ⟨hok2,by dsimp only; omega,.inr hsh2,hcz2⟩ rfl ?_ | refine jq_cut (⟨lv2,lab2,st2⟩,l2) [3,1,1,0] ⟨hok2,by dsimp only; omega,.inr hsh2,hcz2⟩ rfl ?_ | refine jq_cut (⟨lv2,lab2,st2⟩,l2) [3,2,1,0] ⟨hok2,by dsimp only; omega,.inr hsh2,hcz2⟩ rfl ?_)
      exact Wv
     ·refine as_ ?_
      (first | refine jq_row 0 _ rfl (sm_le' 3 ⟨#[]⟩ [] [e1.1] 0 (lab0+1) l1 [] .nil (ex1_le e1.1) (.refl _) .nil) ?_ | refine jq_row 1 _ rfl (sm_le' 3 ⟨#[]⟩ [] [e1.1] 0 (lab0+1) l1 [] .nil (ex1_le e1.1) (.refl _) .nil) ?_ | refine jq_row 2 _ rfl (sm_le' 3 ⟨#[]⟩ [] [e1.1] 0 (lab0+1) l1 [] .nil (ex1_le e1.1) (.refl _) .nil) ?_ | refine jq_row 3 _ rfl (sm_le' 3 ⟨#[]⟩ [] [e1.1] 0 (lab0+1) l1 [] .nil (ex1_le e1.1) (.refl _) .nil) ?_)
      (first | refine jq_cut (⟨lv1,lab1,st1⟩,[]) [1,1,1,0] ⟨hok1,by simp,.inl ⟨rfl,rfl⟩,nil_cz⟩ rfl ?_ | refine jq_cut (⟨lv1,lab1,st1⟩,[]) [1,2,1,0] ⟨hok1,by simp,.inl ⟨rfl,rfl⟩,nil_cz⟩ rfl ?_ | refine jq_cut (⟨lv1,lab1,st1⟩,[]) [2,1,1,0] ⟨hok1,by simp,.inl ⟨rfl,rfl⟩,nil_cz⟩ rfl ?_ | refine jq_cut (⟨lv1,lab1,st1⟩,[]) [2,2,1,0] ⟨hok1,by simp,.inl ⟨rfl,rfl⟩,nil_cz⟩ rfl ?_ | refine jq_cut (⟨lv1,lab1,st1⟩,[]) [3,1,1,0] ⟨hok1,by simp,.inl ⟨rfl,rfl⟩,nil_cz⟩ rfl ?_ | refine jq_cut (⟨lv1,lab1,st1⟩,[]) [3,2,1,0] ⟨hok1,by simp,.inl ⟨rfl,rfl⟩,nil_cz⟩ rfl ?_)
      exact Wv
    ·rintro ⟨⟨lv2,lab2,st2⟩,l2⟩ ⟨hok2,hl2,hsh2,hcz2⟩
     dsimp only at hok2 hl2 hsh2 hcz2 ⊢
     refine R_ (A_ 3 O (YF ?_))
     exact E_ O (T_ (ar_ (az_ (aw_ (jq_sle 4 O (SLe.cell (CLe.list (.cons (sm_le 3 ⟨#[]⟩ [] [e1.1] 0 (lab0+1) l1 l2 (.refl _) (.refl _) (.refl _) (.refl _)) .nil))) (jq_ret1 O O [0,0,0] O (fin1 _ ⟨lv2,lab2,st2⟩ hok2 (.inn (.inl ⟨hl12,e1.1,l1,l2,lab1,e1.2,hsh1,hsh2,rfl⟩)) (if_cz e1.2 hcz1 hcz2))))))))
   ·refine am_ (jc_cut (ι:=Bool) [0,1,26] (fun b=>b=decide (k=6 ∨ k=7)) (fun b=>[(82,Bl b)]) (fun _=>[Mk bm bd V lv0 A Sh hs0 lab0 st0 il,Dk bd L,.own lv0 9 1 (LS.map Wrow)]) ?_ ?_)
    ·refine Zu ?_
     refine jc_condd O (fun h6=>?_) (fun h6=>?_)
     ·refine as_ (jq_cut (decide (k=6)) [0,0,0] (by rw [decide_eq_decide]; omega) O ?_)
      exact Wv
     ·refine an_ (o_ O (bn_ O O (E_ O (ak_ (jq_cut (decide (k=7)) [0,0,0] (by rw [decide_eq_decide]; omega) O ?_)))))
      exact Wv
    intro b hb
    refine jc_cond O (fun hbt=>?_) (fun hbt=>?_)
    ·have hk6:k=6 ∨ k=7:=by rw [hb] at hbt; exact of_decide_eq_true hbt
     obtain ⟨hx0,hl12⟩:=hkd (by omega)
     obtain ⟨d',rfl⟩:∃ d',d=d'+1:=⟨d - 1,by omega⟩
     have hloop:=hloop d' rfl
     clear hblk
     refine R_ (YL ?_)
     refine o_ O (bw_ O O (T_ (jc_condd O (fun hil1=>?_) (fun hil1=>?_))))
     ·refine R_ (M_ O (M_ O (o_ O (bt_ [0,0,0] O O (hloop ⟨lv0,lab0,st0⟩ hs0 il LS x ⟨⟨hlab0,hlab1⟩,hst0,hst1⟩ (by dsimp only; omega) hil g_ hLS hx) (fun r hr=>?_)))))
      obtain ⟨m1,l1⟩:=r
      dsimp only at hr ⊢
      exact E_ O (T_ (ar_ (az_ (aw_ (jq_ret1 O O [0,0,0] O (fun K h=>h (m1,l1) ⟨hr.1,hr.2.1,.inn (.inr (.inl hr.2.2.1)),hr.2.2.2⟩))))))
     ·refine as_ (ay_ (jq_cut () [0,0,0] trivial O ?_))
      exact Wv
    ·refine Zu ?_
     refine jc_condd O (fun h8=>?_) (fun h8=>?_)
     ·obtain ⟨hx0,hl12⟩:=hkd (by omega)
      obtain ⟨d',rfl⟩:∃ d',d=d'+1:=⟨d - 1,by omega⟩
      have hblk:=hblk d' rfl
      clear hloop
      refine am_ (jc_cut (ι:=Bool) [0,1] (fun b=>b=true→hs0=⟨#[]⟩∧0 < Sh.length) (fun b=>[(107,Bl b)]) (fun _=>[Mk bm bd V lv0 A Sh hs0 lab0 st0 il,Dk bd L,.own lv0 9 1 (LS.map Wrow)]) ?_ ?_)
      ·by_cases hh:hs0=⟨#[]⟩
       ·refine an_ (YL ?_)
        refine o_ O (cs_ O O (M_ O (Yv ?_)))
        refine bh_ O (ZY ?_)
        refine br_ O (fun hlen=>ah_ O u_ b_ (bz_ O O (o_ O (bp_ O u_ O (ak_ (jq_cut (decide (0 < ((Sh.map ShRow).length:Int))) [0,0,0] (by simp [hh]) O ?_))))))
        exact Wv
       ·refine an_ (YL ?_)
        refine o_ O (cs_ O O (M_ O (Zg ?_)))
        refine ai_ O w_ b_ (YC ?_)
        refine ak_ (jq_cut false [0,0,0] (by simp) O ?_)
        exact Wv
      intro b2 hb2
      refine jc_cond O (fun hbt=>?_) (fun hbt=>?_)
      ·obtain ⟨rfl,hSh0⟩:=hb2 hbt
       have hShm:=gv.hSh
       have eSh:(Sh.map ShRow).length=Sh.length:=List.length_map _
       refine am_ (jc_anyB 18 none O k_ k_ (yM_ O (yM_ O (yN_ O (yF_ O (yL_ 0 O (Yb ?_)))))))
       refine aa_ (fun c=>ow_callA [1] O O (gNext_c L _ _ gv.hL gv.hLn g_)) (aa_ (fun c=>ow_exarg 122 O (fun i=>cv_ O O (by have:=i.2; omega) (by have:=i.2; omega) O O b_ ⟨rfl,.refl _⟩)) (aa_ (fun c=>ow_exarg 123 O (fun i=>cf_ O O O b_ O b_ ⟨rfl,.refl _⟩)) (aa_ (fun c=>ow_exarg 124 O (fun i=>cb_ O O ⟨rfl,.refl _⟩)) (ae_ (afin_none (jl_slot 125 O (fun i=>N_ O (F_ O ?_))))))))
       refine W_ 0 O (T_ (R_ (YL ?_)))
       refine E_ O (T_ (R_ (M_ O (M_ O (M_ O (o_ O (cg_ O O g_ (o_ O (ow_callNP [0,0,0] O O (hblk ⟨lv0,lab0,st0⟩ Sh[i.1.toNat].2.2 il LS (x - 1) 2 ⟨⟨hlab0,hlab1⟩,hst0,hst1⟩ hil hil2 hLS g_ g_ g_) (fun r n hn hr=>?_))))))))))
       obtain ⟨⟨lv1,lab1,st1⟩,v1,l1⟩:=r
       obtain ⟨hok1,hf1,hl1,hsh1,hcz1⟩:=hr
       dsimp only at hok1 hl1 hsh1 hf1 hcz1 ⊢
       refine jl_freezeF 136 0 O O (hf1.mono hn) (o_ O (bu_ O O O O O (Yn (fun bl=>?_))))
       refine R_ (M_ O (N_ O (F_ O (W_ 1 O (T_ (R_ (A_ 1 O (YF ?_))))))))
       refine E_ O (T_ ?_)
       refine ar_ (az_ (aw_ (jq_sle 4 O (SLe.cell (CLe.list (.cons (sm_le 5 Sh[i.1.toNat].2.2 [] [] 0 0 l1 [] .nil .nil (.refl _) .nil) .nil))) ?_)))
       first | exact jq_ret1 rfl rfl [0,1,1] rfl (fin1 _ ⟨lv1,lab1,st1⟩ hok1 (.inn (.inr (.inr ⟨rfl,_,List.getElem_mem (h:=by have:=i.2; omega),l1,hsh1,rfl⟩))) (lock_cz hcz1)) | exact jq_ret1 rfl rfl [0,2,1] rfl (fin1 _ ⟨lv1,lab1,st1⟩ hok1 (.inn (.inr (.inr ⟨rfl,_,List.getElem_mem (h:=by have:=i.2; omega),l1,hsh1,rfl⟩))) (lock_cz hcz1)) | exact jq_ret1 rfl rfl [0,0,0] rfl (fin1 _ ⟨lv1,lab1,st1⟩ hok1 (.inn (.inr (.inr ⟨rfl,_,List.getElem_mem (h:=by have:=i.2; omega),l1,hsh1,rfl⟩))) (lock_cz hcz1)) | exact jq_ret1 rfl rfl [0,0,1] rfl (fin1 _ ⟨lv1,lab1,st1⟩ hok1 (.inn (.inr (.inr ⟨rfl,_,List.getElem_mem (h:=by have:=i.2; omega),l1,hsh1,rfl⟩))) (lock_cz hcz1)) | exact jq_ret1 rfl rfl [0,1,0] rfl (fin1 _ ⟨lv1,lab1,st1⟩ hok1 (.inn (.inr (.inr ⟨rfl,_,List.getElem_mem (h:=by have:=i.2; omega),l1,hsh1,rfl⟩))) (lock_cz hcz1)) | exact jq_ret1 rfl rfl [1,0,0] rfl (fin1 _ ⟨lv1,lab1,st1⟩ hok1 (.inn (.inr (.inr ⟨rfl,_,List.getElem_mem (h:=by have:=i.2; omega),l1,hsh1,rfl⟩))) (lock_cz hcz1)) | exact jq_ret1 rfl rfl [1,1,0] rfl (fin1 _ ⟨lv1,lab1,st1⟩ hok1 (.inn (.inr (.inr ⟨rfl,_,List.getElem_mem (h:=by have:=i.2; omega),l1,hsh1,rfl⟩))) (lock_cz hcz1))
      ·refine as_ (ay_ (jq_cut () [0,0,0] trivial O ?_))
       exact Wv
     ·refine as_ (ay_ (jq_cut () [0,0,0] trivial O ?_))
      exact Wv
 ·intro _ _
  refine R_ (M_ O (o_ O (bt_ [0,0,0] O O (gtarget_c gv.hL gv.hLn gv.hV0 gv.hV g_) (fun s1 hs1=>M_ O (o_ O (bt_ [0,0] O O (gexpr_c gv.hL gv.hLn gv.hV0 gv.hV gv.hA gv.hSh 2 2 g_ g_ g_) (fun e1 he1=>YF ?_)))))))
  refine o_ O (bu_ O O O O O (YF ?_))
  refine E_ O (T_ (ar_ ?_))
  exact jq_sle 4 O (SLe.cell (CLe.list (.cons (sm_le 1 s1 [] [e1] 0 0 [] [] .nil (ex1_le e1) .nil .nil) .nil))) (jq_ret1 O O [0,0,0] O (fin0 _ ⟨rfl,.inl ⟨s1,e1,hs1,he1,rfl⟩⟩))
end
end Go.Proofs.YtalkkcfojplmdaaGreatDoor
end
section
namespace Go.Proofs.YtalkkcfojplmdaaGreatDoor
open Go.Vc
attribute [local irreducible] JL JC JQ OpWp Con ConN
section
variable {L:List Int} {bm bd:Nat} {V A:List ByteArray} {Sh:List Shd}
theorem maker_c (gv:Gv L V A Sh):∀ d:Nat,d≤10→StmtP L bm bd V A Sh d∧BlockP L bm bd V A Sh d∧LoopP L bm bd V A Sh d
 | 0,h=>by
  have h1:StmtP L bm bd V A Sh 0:=stmt_step gv 0 h (fun d' h=>by omega) (fun d' h=>by omega)
  have h2:=block_step gv 0 h1
  exact ⟨h1,h2,loop_step gv 0 h h2⟩
 | d+1,h=>by
  obtain ⟨_,g2,g3⟩:=maker_c gv d (by omega)
  have e2:∀ d',d+1=d'+1→BlockP L bm bd V A Sh d':=fun d' e=>by
   have e:d'=d:=by omega
   subst e
   exact g2
  have e3:∀ d',d+1=d'+1→LoopP L bm bd V A Sh d':=fun d' e=>by
   have e:d'=d:=by omega
   subst e
   exact g3
  have h1:=stmt_step gv (d+1) h e2 e3
  have h2:=block_step gv (d+1) h1
  exact ⟨h1,h2,loop_step gv (d+1) h h2⟩
end
theorem flat_szs {f:Sm→List Int} (h:∀ s,(f s).length≤s.sz):∀ l:List Sm,(l.flatMap f).length≤Sm.szs l
 | []=>by simp
 | s :: l=>by
  have:=flat_szs h l
  have:=h s
  simp only [List.flatMap_cons,List.length_append,Sm.szs]
  omega
theorem rlOne_le:∀ (f:Nat) (s:Sm),(rlOne f s).length≤s.sz
 | 0,s=>by simp [rlOne]
 | f+1,s=>by
  have h1:=flat_szs (rlOne_le f) s.thn
  have h2:=flat_szs (rlOne_le f) s.els
  have h3:(rlSelf s).length≤1:=by unfold rlSelf; split <;> simp
  simp only [rlOne,List.length_append,Sm.sz_eq s]
  omega
theorem ifs_le (l:List Sm):(ifsOf l).length≤Sm.szs l:=flat_szs (rlOne_le 20) l
def cntG:Nat→Nat
 | 0=>1
 | d+1=>3+4 * cntG d
theorem cntG_pos (d:Nat):1≤cntG d:=by cases d <;> simp [cntG]; omega
theorem pc_szs {St:Int→Int→List Sm→Prop} {n:Nat} (h:∀ a b l,St a b l→Sm.szs l≤n) {k:Nat} {a b:Int} {l:List Sm} (hp:PcG St k a b l):Sm.szs l≤k * n:=by
 induction hp with
 | nil=>simp [Sm.szs]
 | snoc k _ _ _ l l2 _ h2 ih =>
  have:=h _ _ _ h2
  rw [Sm.szs_app,Nat.add_mul]
  omega
theorem bl_szs {St:Int→Int→List Sm→Prop} {n:Nat} (h:∀ a b l,St a b l→Sm.szs l≤n) {m:Nat} {a b:Int} {l:List Sm} (hp:BlG St m a b l):Sm.szs l≤m * n:=by
 obtain ⟨k,hk,hp⟩:=hp
 exact Nat.le_trans (pc_szs h hp) (Nat.mul_le_mul_right _ (by omega))
theorem StG_szs {V A:List ByteArray} {Sh:List Shd}:∀ (d:Nat) (il:Int) (hs:ByteArray) (a b:Int) (l:List Sm),StG V A Sh d il hs a b l→Sm.szs l≤cntG d:=by
 have leaf:∀ {U:List ByteArray} {a b:Int} {l:List Sm},LeafG V U a b l→Sm.szs l=1:=by
  rintro U a b l ⟨_,⟨s,e,_,_,rfl⟩ | ⟨s,e,e2,_,_,_,rfl⟩⟩ <;> simp [Sm.szs,Sm.sz]
 intro d
 induction d with
 | zero =>
  intro il hs a b l h
  have:=leaf h
  simp [cntG,this]
 | succ d ih =>
  intro il hs a b l h
  have b2:∀ il hs a b l,BlG (StG V A Sh d il hs) 2 a b l→Sm.szs l≤2 * cntG d:=fun il hs a b l h=>bl_szs (m:=2) (ih il hs) h
  have hp:=cntG_pos d
  rcases h with h | h | h | h
  ·have:=leaf h
   simp only [cntG]
   omega
  ·obtain ⟨_,c,l1,l2,lab1,_,h1,h2,rfl⟩:=h
   have e1:=b2 _ _ _ _ _ h1
   have e2:Sm.szs l2≤2 * cntG d:=by
    rcases h2 with ⟨rfl,_⟩ | h2
    ·simp [Sm.szs]
    ·exact b2 _ _ _ _ _ h2
   simp only [Sm.szs,Sm.sz,cntG]
   omega
  ·obtain ⟨_,_,h | h⟩:=h
   ·obtain ⟨c,mx,l1,_,_,h1,rfl⟩:=h
    have e1:=b2 _ _ _ _ _ h1
    simp only [Sm.szs,Sm.sz,cntG]
    omega
   ·obtain ⟨v,n,op,top,mx,l1,st,_,_,_,_,_,_,h1,rfl⟩:=h
    have e1:=b2 _ _ _ _ _ h1
    simp only [Sm.szs,Sm.sz,cntG,Sm.szs_app]
    omega
  ·obtain ⟨_,sh,_,l1,h1,rfl⟩:=h
   have e1:=b2 _ _ _ _ _ h1
   simp only [Sm.szs,Sm.sz,cntG]
   omega
theorem body_szs {V A:List ByteArray} {Sh:List Shd} {a b:Int} {l:List Sm} (h:BlG (StG V A Sh 3 0 E0) 5 a b l):Sm.szs l≤635:=bl_szs (m:=5) (StG_szs 3 0 E0) h
end Go.Proofs.YtalkkcfojplmdaaGreatDoor
end
section
namespace Go.Proofs.YtalkkcfojplmdaaGreatDoor
open Go.Vc
attribute [local irreducible] JL JC JQ OpWp Con ConN
attribute [local irreducible] byteAt runLen isL isD isName hasW
set_option maxHeartbeats 4000000
def dpx (x:T):Bool:=decide (8 < x.dep)
def dpS (rec:List Sm→Bool) (s:Sm):Bool:=rec s.thn || rec s.els || s.index.any dpx || s.value.any dpx
def dpF:Nat→List Sm→Bool
 | 0,l=>!l.isEmpty
 | n+1,l=>l.any (dpS (dpF n))
def Fx (x:T):Prop:=x.ok∧x.dep≤8
def Pl (n:Int):Prop:=0≤n∧n≤2147483647
def fineS:Nat→Sm→Prop
 | 0,_=>False
 | n+1,s =>
  (s.kind=1∧nmOk s.name∧∃ x,s.value=[x]∧Fx x) ∨
  (s.kind=2∧nmOk s.name∧∃ y x,s.index=[y]∧s.value=[x]∧Fx y∧Fx x) ∨
  (s.kind=3∧(∃ x,s.value=[x]∧Fx x)∧Pl s.label∧(∀ t ∈ s.thn,fineS n t)∧∀ t ∈ s.els,fineS n t) ∨
  (s.kind=4∧(∃ x,s.value=[x]∧Fx x)∧Pl s.max∧Pl s.label∧(∀ t ∈ s.thn,fineS n t)∧s.els=[]) ∨
  (s.kind=5∧nmOk s.name∧(∀ t ∈ s.thn,fineS n t)∧s.els=[])
theorem nameB_ok {s:ByteArray}:nameB s=true ↔ nmOk s:=by
 unfold nameB nmOk
 rw [Bool.and_eq_true,Bool.not_eq_true']
theorem smallB_ok {n:Int}:smallB n=true ↔ -2147483647≤n∧n≤2147483647:=by
 unfold smallB
 rw [Bool.and_eq_true,decide_eq_true_eq,decide_eq_true_eq]; omega
theorem plainB_ok {n:Int}:plainB n=true ↔ Pl n:=by
 unfold plainB Pl
 rw [Bool.and_eq_true,decide_eq_true_eq,decide_eq_true_eq]; omega
theorem shpF_ok : ∀ (F : Nat) (t : T), t.dep ≤ F → (shpF F t = true ↔ t.ok)
  | 0, t, h => by have : 1 ≤ t.dep := by rw [T.dep_args]; omega
                  omega
  | F + 1, t, h => by
    cases t with
    | nu n => simp only [shpF, T.ok]; exact smallB_ok
    | nm s => simp only [shpF, T.ok]; exact nameB_ok
    | ix s x =>
      simp only [T.dep] at h
      simp only [shpF, T.ok, Bool.and_eq_true, nameB_ok, shpF_ok F x (by omega)]
    | bn o a b =>
      simp only [T.dep] at h
      simp only [shpF, T.ok, Bool.and_eq_true, decide_eq_true_eq, shpF_ok F a (by omega), shpF_ok F b (by omega), and_assoc]
theorem oneB_ok {l:List T} (h:oneB l=true) (hd:l.any dpx=false):∃ x,l=[x]∧Fx x:=by
 match l,h with
 | [x],h =>
  have hd:¬ 8 < x.dep:=by simpa [dpx] using hd
  exact ⟨x,rfl,(shpF_ok 20 x (by omega)).1 h,by omega⟩
theorem fine_of:∀ (n F:Nat) (l:List Sm),n≤F→okSs F l=true→dpF n l=false→∀ s ∈ l,fineS n s
 | 0,F,l,_,_,hd,s,hs=>by
  cases l with
  | nil=>cases hs
  | cons a l=>cases hd
 | n+1,0,l,hle,_,_,s,hs=>by omega
 | n+1,F+1,l,hle,ho,hd,s,hs=>by
  have h1:okOne (okSs F) s=true:=List.all_eq_true.1 ho s hs
  have h2:dpS (dpF n) s=false:=by
   have:=List.any_eq_false.1 hd s hs
   simpa using this
  simp only [dpS,Bool.or_eq_false_iff] at h2
  obtain ⟨⟨⟨d1,d2⟩,d3⟩,d4⟩:=h2
  have ht:=fun h=>fine_of n F s.thn (by omega) h d1
  have he:=fun h=>fine_of n F s.els (by omega) h d2
  unfold okOne at h1
  unfold fineS
  split at h1
  ·rename_i hk
   simp only [Bool.and_eq_true] at h1
   exact .inl ⟨hk,nameB_ok.1 h1.1.1.1.1.1.1,oneB_ok h1.1.1.1.1.2 d4⟩
  split at h1
  ·rename_i hk
   simp only [Bool.and_eq_true] at h1
   obtain ⟨y,hy,fy⟩:=oneB_ok h1.1.1.1.1.1.2 d3
   obtain ⟨x,hx,fx⟩:=oneB_ok h1.1.1.1.1.2 d4
   exact .inr (.inl ⟨hk,nameB_ok.1 h1.1.1.1.1.1.1,y,x,hy,hx,fy,fx⟩)
  split at h1
  ·rename_i hk
   simp only [Bool.and_eq_true] at h1
   exact .inr (.inr (.inl ⟨hk,oneB_ok h1.1.1.1.1.2 d4,plainB_ok.1 h1.1.1.2,ht h1.1.2,he h1.2⟩))
  split at h1
  ·rename_i hk
   simp only [Bool.and_eq_true,decide_eq_true_eq] at h1
   exact .inr (.inr (.inr (.inl ⟨hk,oneB_ok h1.1.1.1.1.2 d4,plainB_ok.1 h1.1.1.1.2,plainB_ok.1 h1.1.1.2,ht h1.1.2,List.eq_nil_of_length_eq_zero h1.2⟩)))
  split at h1
  ·rename_i hk
   simp only [Bool.and_eq_true,decide_eq_true_eq] at h1
   exact .inr (.inr (.inr (.inr ⟨hk,nameB_ok.1 h1.1.1.1.1.1.1,ht h1.1.2,List.eq_nil_of_length_eq_zero h1.2⟩)))
  ·cases h1
abbrev Ksp:ByteArray:=⟨#[32,32]⟩
abbrev Kelse2:ByteArray:=⟨#[125,32,101,108,115,101,32,123,10]⟩
abbrev Kclose:ByteArray:=⟨#[125,10]⟩
abbrev Kopen:ByteArray:=⟨#[32,123,10]⟩
abbrev Kif2:ByteArray:=⟨#[105,102,32]⟩
abbrev Klab:ByteArray:=⟨#[32,108,97,98,101,108,32]⟩
abbrev Kwh:ByteArray:=⟨#[119,104,105,108,101,32]⟩
abbrev Kmx:ByteArray:=⟨#[32,109,97,120,32]⟩
abbrev Klk:ByteArray:=⟨#[108,111,99,107,32]⟩
abbrev Kst:ByteArray:=⟨#[32,61,32]⟩
abbrev Knl:ByteArray:=⟨#[10]⟩
abbrev Kx1:ByteArray:=⟨#[91]⟩
abbrev Kx2:ByteArray:=⟨#[93,32,61,32]⟩
def tx1:List T→ByteArray
 | x :: _=>textT x
 | []=>⟨#[]⟩
def hdT (s:Sm):ByteArray :=
 if s.kind=1 then ((s.name ++ Kst) ++ tx1 s.value) ++ Knl
 else if s.kind=2 then ((((s.name ++ Kx1) ++ tx1 s.index) ++ Kx2) ++ tx1 s.value) ++ Knl
 else if s.kind=3 then (((Kif2 ++ tx1 s.value) ++ Klab) ++ numS s.label) ++ Kopen
 else if s.kind=4 then (((((Kwh ++ tx1 s.value) ++ Kmx) ++ numS s.max) ++ Klab) ++ numS s.label) ++ Kopen
 else (Klk ++ s.name) ++ Kopen
mutual
def stT (sp:ByteArray):Sm→ByteArray
 | .mk k nm i v m lb t e =>
  if k=1 ∨ k=2 then sp ++ hdT (.mk k nm i v m lb t e)
  else (sp ++ hdT (.mk k nm i v m lb t e)) ++ stsT (sp ++ Ksp) t ++ (if e=[] then ⟨#[]⟩ else (sp ++ Kelse2) ++ stsT (sp ++ Ksp) e) ++ (sp ++ Kclose)
def stsT (sp:ByteArray):List Sm→ByteArray
 | []=>⟨#[]⟩
 | s :: l=>stT sp s ++ stsT sp l
end
theorem ba_nil (X:ByteArray):X ++ (⟨#[]⟩:ByteArray)=X:=by apply ByteArray.ext; simp
theorem nil_ba (X:ByteArray):(⟨#[]⟩:ByteArray) ++ X=X:=by apply ByteArray.ext; simp
theorem stsT_app (sp:ByteArray):∀ l m:List Sm,stsT sp (l ++ m)=stsT sp l ++ stsT sp m
 | [],m=>by rw [List.nil_append,stsT,nil_ba]
 | s :: l,m=>by rw [List.cons_append,stsT,stsT,stsT_app sp l m,ByteArray.append_assoc]
theorem stsT_take (sp:ByteArray) {l:List Sm} {k:Nat} (h:k < l.length):stsT sp (l.take (k+1))=stsT sp (l.take k) ++ stT sp l[k]:=by
 rw [List.take_succ_eq_append_getElem h,stsT_app,stsT,stsT,ba_nil]
theorem stT_leaf (sp:ByteArray) {s:Sm} (h:s.kind=1 ∨ s.kind=2):stT sp s=sp ++ hdT s:=by
 cases s
 rw [stT]
 exact if_pos h
theorem stT_node (sp:ByteArray) {s:Sm} (h:¬ (s.kind=1 ∨ s.kind=2)):stT sp s=(sp ++ hdT s) ++ stsT (sp ++ Ksp) s.thn ++ (if s.els=[] then ⟨#[]⟩ else (sp ++ Kelse2) ++ stsT (sp ++ Ksp) s.els) ++ (sp ++ Kclose):=by
 cases s
 rw [stT]
 exact if_neg h
theorem Fx.size {x:T} (h:Fx x):(textT x).size≤25600:=by
 have h1:=text_size x h.1
 have h2:2 ^ x.dep≤2 ^ 8:=Nat.pow_le_pow_right (by decide) h.2
 omega
theorem Pl.size {n:Int} (h:Pl n):(numS n).size≤21:=numS_size n (by have:=h.1; omega) h.2
theorem hd_size {n:Nat} {s:Sm} (h:fineS n s):(hdT s).size≤51400:=by
 cases n with
 | zero=>exact h.elim
 | succ n =>
  unfold fineS at h
  unfold hdT
  rcases h with ⟨hk,hn,x,hx,fx⟩ | ⟨hk,hn,y,x,hy,hx,fy,fx⟩ | ⟨hk,⟨x,hx,fx⟩,hl,_⟩ | ⟨hk,⟨x,hx,fx⟩,hm,hl,_⟩ | ⟨hk,hn,_⟩
  ·have:=name_size hn
   have:=fx.size
   rw [if_pos hk,hx]
   simp only [tx1,ByteArray.size_append,show Kst.size=3 from rfl,show Knl.size=1 from rfl]
   omega
  ·have:=name_size hn
   have:=fx.size
   have:=fy.size
   rw [if_neg (by omega),if_pos hk,hx,hy]
   simp only [tx1,ByteArray.size_append,show Kx1.size=1 from rfl,show Kx2.size=4 from rfl,show Knl.size=1 from rfl]
   omega
  ·have:=hl.size
   have:=fx.size
   rw [if_neg (by omega),if_neg (by omega),if_pos hk,hx]
   simp only [tx1,ByteArray.size_append,show Kif2.size=3 from rfl,show Klab.size=7 from rfl,show Kopen.size=3 from rfl]
   omega
  ·have:=hl.size
   have:=hm.size
   have:=fx.size
   rw [if_neg (by omega),if_neg (by omega),if_neg (by omega),if_pos hk,hx]
   simp only [tx1,ByteArray.size_append,show Kwh.size=6 from rfl,show Kmx.size=5 from rfl,show Klab.size=7 from rfl,show Kopen.size=3 from rfl]
   omega
  ·have:=name_size hn
   rw [if_neg (by omega),if_neg (by omega),if_neg (by omega),if_neg (by omega)]
   simp only [ByteArray.size_append,show Klk.size=5 from rfl,show Kopen.size=3 from rfl]
   omega
theorem sts_size_of {n:Nat} {sp:ByteArray} (h:∀ s,fineS n s→(stT sp s).size≤60000 * s.sz):∀ l:List Sm,(∀ s ∈ l,fineS n s)→(stsT sp l).size≤60000 * Sm.szs l
 | [],_=>by simp [stsT,Sm.szs]; rfl
 | s :: l,hl=>by
  have h1:=h s (hl s (by simp))
  have h2:=sts_size_of h l (fun t ht=>hl t (by simp [ht]))
  rw [stsT,Sm.szs,ByteArray.size_append]
  omega
theorem st_size:∀ (n:Nat) (sp:ByteArray) (s:Sm),fineS n s→sp.size+2 * n≤100→(stT sp s).size≤60000 * s.sz
 | 0,_,_,h,_=>h.elim
 | n+1,sp,s,h,hsp=>by
  have hh:=hd_size h
  have ez:=Sm.sz_eq s
  by_cases hk:s.kind=1 ∨ s.kind=2
  ·rw [stT_leaf sp hk,ByteArray.size_append]; omega
  ·have ih:=sts_size_of (fun s hs=>st_size n (sp ++ Ksp) s hs (by rw [ByteArray.size_append,show Ksp.size=2 from rfl]; omega))
   have ht:∀ t ∈ s.thn,fineS n t:=by
    unfold fineS at h
    rcases h with h | h | h | h | h
    ·exact absurd (.inl h.1) hk
    ·exact absurd (.inr h.1) hk
    ·exact h.2.2.2.1
    ·exact h.2.2.2.2.1
    ·exact h.2.2.1
   have he:∀ t ∈ s.els,fineS n t:=by
    unfold fineS at h
    rcases h with h | h | h | h | h
    ·exact absurd (.inl h.1) hk
    ·exact absurd (.inr h.1) hk
    ·exact h.2.2.2.2
    ·rw [h.2.2.2.2.2]; simp
    ·rw [h.2.2.2]; simp
   have h1:=ih s.thn ht
   have h2:=ih s.els he
   rw [stT_node sp hk]
   split
   ·simp only [ByteArray.size_append,show Kclose.size=2 from rfl,show (⟨#[]⟩:ByteArray).size=0 from rfl]
    omega
   ·simp only [ByteArray.size_append,show Kclose.size=2 from rfl,show Kelse2.size=9 from rfl]
    omega
theorem sts_size {n:Nat} {sp:ByteArray} {l:List Sm} (h:∀ s ∈ l,fineS n s) (hsp:sp.size+2 * n≤100):(stsT sp l).size≤60000 * Sm.szs l:=sts_size_of (fun s hs=>st_size n sp s hs hsp) l h
theorem szs_take_succ {l:List Sm} {k:Nat} (h:k < l.length):Sm.szs (l.take k)+l[k].sz≤Sm.szs l:=by
 have h1:=Sm.szs_take l (k+1)
 rw [List.take_succ_eq_append_getElem h,Sm.szs_app] at h1
 simp only [Sm.szs] at h1
 omega
end Go.Proofs.YtalkkcfojplmdaaGreatDoor
end
section
namespace Go.Proofs.YtalkkcfojplmdaaGreatDoor
open Go.Vc
attribute [local irreducible] JL JC JQ OpWp Con ConN
attribute [local irreducible] byteAt runLen isL isD isName hasW rd
set_option maxHeartbeats 4000000
theorem any_yes {α:Type} {p:α→Bool} {l:List α} {k:Nat} (h:k < l.length) (h2:p l[k]=true):l.any p=true:=List.any_eq_true.2 ⟨l[k],List.getElem_mem h,h2⟩
def RDeepP (n:Nat):Prop:=∀ l:List Sm,Con Tryz.prog 200 [.cell (.list (l.map Sm.row)),In .i64 (9 - (n:Int))] [] (fun K=>K (Bl (dpF n l)) [])
theorem rdeep_zero:RDeepP 0:=by
 intro l
 cases l with
 | nil =>
  have eL:(([]:List Sm).map Sm.row).length=0:=rfl
  refine con_intro Tryz.func200 O O b_ (fun c hc=>ZK ?_)
  refine jc_loopS (ι:=Unit) [] (fun _=>True) (fun _=>[(0,.cell (.list (([]:List Sm).map Sm.row))),(1,In .i64 (9 - ((0:Nat):Int))),(5,In .i64 0)]) (fun _=>[]) (fun _=>0) () trivial ?_ ?_ ?_
  ·exact sub_end
  ·exact Wv
  intro _ _
  refine Yl (fun hlen=>?_)
  refine T_ (ap_ O O (av_ (ax_ (ax_ (ba_ (al_ (R_ (E_ O (T_ ?_)))))))))
  refine ar_ (jq_ret1 O O [] O (fun K h=>h))
 | cons s l =>
  have eL:(((s :: l).map Sm.row).length:Int)=(l.length:Int)+1:=by simp
  refine con_intro Tryz.func200 O O b_ (fun c hc=>ZK ?_)
  refine jc_loopS (ι:=Unit) [] (fun _=>True) (fun _=>[(0,.cell (.list ((s :: l).map Sm.row))),(1,In .i64 (9 - ((0:Nat):Int))),(5,In .i64 0)]) (fun _=>[]) (fun _=>0) () trivial ?_ ?_ ?_
  ·exact sub_end
  ·exact Wv
  intro _ _
  refine Yl (fun hlen=>?_)
  refine T_ (aq_ O t_ (as_ (al_ (B_ (Wo ?_)))))
  refine M_ O ?_
  refine Zd ?_
  refine Zd ?_
  refine o_ O (bp_ O O O (M_ O (Zd ?_)))
  refine ai_ O O b_ (ai_ O O b_ ?_)
  refine Z5 ?_
  refine ZO ?_
  refine aw_ (az_ (aw_ (aw_ (az_ (aw_ (jq_ret1 O O [] O (fun K h=>h)))))))
theorem rdeep_succ (n:Nat) (hn:n+1≤8) (ih:RDeepP n):RDeepP (n+1):=by
 intro l
 have hF1:(9 - ((n+1:Nat):Int)+1)=9 - (n:Int):=by omega
 have hF2:¬ 8 < (9 - ((n+1:Nat):Int)):=by omega
 have hF3:0≤(9 - ((n+1:Nat):Int))∧(9 - ((n+1:Nat):Int))≤8:=by omega
 generalize (9 - ((n+1:Nat):Int))=d at hF1 hF2 hF3 ⊢
 have hI:=fun m=>ih m
 rw [← hF1] at hI
 clear ih
 have eL:(l.map Sm.row).length=l.length:=List.length_map _
 refine con_intro Tryz.func200 O O b_ (fun c hc=>ZK ?_)
 refine jc_loopS (ι:=Nat) [] (fun k=>k≤l.length∧(l.take k).any (dpS (dpF n))=false) (fun k=>[(0,.cell (.list (l.map Sm.row))),(1,In .i64 d),(5,In .i64 (k:Int))]) (fun _=>[]) (fun k=>l.length - k) 0 ⟨Nat.zero_le _,rfl⟩ ?_ ?_ ?_
 ·exact sub_end
 ·exact Wv
 rintro k ⟨hk,hallS⟩
 by_cases hlt:k < l.length
 ·have hlt2:(k:Int) < ((l.map Sm.row).length:Int):=by omega
  refine YG ?_
  refine Zb (fun hlen=>?_)
  refine Wo ?_
  refine M_ O ?_
  refine ah_ O w_ b_ (bd_ O (ah_ O w_ b_ (bd_ O (ah_ O w_ b_ (cc_ O O g_ (Sm.row_eq _) O b_ (ah_ O w_ b_ (cf_ O O O b_ O b_ (ah_ O w_ b_ (cb_ O O (ah_ O w_ b_ (bd_ O (ah_ O w_ b_ (bj_ O O g_ (ah_ O w_ b_ (bm_ O (hI _) (o_ O (bv_ O w_ O (M_ O (jl_or 8 12 O O O O (nb O) ?_)))))))))))))))))))
  apply Exists.intro
  refine ⟨fun hb1=>?_,?_⟩
  refine Z8 ?_
  refine bd_ O (ah_ O h_ b_ (cc_ O O g_ (Sm.row_eq _) O b_ (ah_ O h_ b_ (cf_ O O O b_ O b_ (ah_ O h_ b_ (cb_ O O (Z8 ?_)))))))
  exact bj_ O O g_ (ah_ O h_ b_ (bm_ O (hI _) (ak_ (jq_seg 8 O O O (List.Perm.refl _)))))
  refine T_ (jc_cond O (fun hy=>?_) (fun hn=>?_))
  ·have hres:dpF (n+1) l=true:=any_yes hlt (by unfold dpS; rw [hy]; rfl)
   refine R_ (E_ O (T_ (ar_ (aw_ (az_ (aw_ (aw_ (az_ (aw_ (jq_ret1 O O [] O (fun K h=>by rw [hres] at h; exact h)))))))))))
  refine as_ (al_ (am_ (jc_cut (ι:=Unit) [] (fun _=>(l[k].index).any dpx=false) (fun _=>[(0,.cell (.list (l.map Sm.row))),(1,In .i64 d),(5,In .i64 (k:Int))]) (fun _=>[]) ?_ ?_)))
  ·refine R_ (E_ O (T_ (au_ (jc_loopS (ι:=Nat) [] (fun q=>q≤(l[k].index).length∧((l[k].index).take q).any dpx=false) (fun q=>(6,In .i64 (q:Int)) :: [(0,.cell (.list (l.map Sm.row))),(1,In .i64 d),(5,In .i64 (k:Int))]) (fun _=>[]) (fun q=>(l[k].index).length - q) 0 ⟨Nat.zero_le _,rfl⟩ ?_ ?_ ?_))))
   ·exact sub_end
   ·exact Wv
   rintro q ⟨hq,hall⟩
   have eF:((l[k].index).map T.row).length=(l[k].index).length:=List.length_map _
   by_cases hltq:q < (l[k].index).length
   ·have hltq2:(q:Int) < (((l[k].index).map T.row).length:Int):=by omega
    have hrd:=rd_eq 20 (l[k].index)[q] (Nat.le_refl _)
    by_cases hd:8 < (l[k].index)[q].dep
    ·have hd2:(8:Int) < (rd 20 (l[k].index)[q]:Int):=by omega
     have hyes:(l[k].index).any dpx=true:=any_yes hltq (by unfold dpx; exact decide_eq_true hd)
     have hres:dpF (n+1) l=true:=any_yes hlt (by unfold dpS; rw [hyes]; simp)
     refine am_ (R_ (M_ O (ZW ?_)))
     refine Zb (fun hlen=>?_)
     refine R_ ?_
     refine ZW ?_
     refine M_ O (Zy ?_)
     refine o_ O (bm_ O (RDepth_c _) (o_ O (bz_ O O (T_ (aq_ O u_ (R_ (E_ O (T_ (ar_ ?_)))))))))
     refine az_ (aw_ (aw_ (az_ (aw_ (az_ (aw_ (aw_ (az_ (aw_ (jq_ret1 O O [] O (fun K h=>by rw [hres] at h; exact h)))))))))))
    ·have hd2:¬ (8:Int) < (rd 20 (l[k].index)[q]:Int):=by omega
     refine am_ (R_ (M_ O (ZW ?_)))
     refine Zb (fun hlen=>?_)
     refine R_ ?_
     refine ZW ?_
     refine M_ O (Zy ?_)
     refine o_ O (bm_ O (RDepth_c _) (Wr ?_))
     refine ay_ (al_ (an_ ?_))
     refine YM ?_
     refine jq_againS (q+1) ⟨hltq,any_snoc hltq hall (by unfold dpx; exact decide_eq_false hd)⟩ g_ ?_ ?_
     ·exact sub_end
     ·exact Wv
   ·have hltq2:¬ (q:Int) < (((l[k].index).map T.row).length:Int):=by omega
    refine am_ (R_ (M_ O (ZW ?_)))
    refine Zh (fun hlen=>?_)
    refine jq_cutS () (by rw [List.take_of_length_le g_] at hall; exact hall) ?_ ?_
    ·exact sub_end
    ·exact Wv
  intro _ hi1
  refine R_ (E_ O (T_ (au_ (jc_loopS (ι:=Nat) [] (fun q=>q≤(l[k].value).length∧((l[k].value).take q).any dpx=false) (fun q=>(7,In .i64 (q:Int)) :: [(0,.cell (.list (l.map Sm.row))),(1,In .i64 d),(5,In .i64 (k:Int))]) (fun _=>[]) (fun q=>(l[k].value).length - q) 0 ⟨Nat.zero_le _,rfl⟩ ?_ ?_ ?_))))
  ·exact sub_end
  ·exact Wv
  rintro q ⟨hq,hall⟩
  have eF:((l[k].value).map T.row).length=(l[k].value).length:=List.length_map _
  by_cases hltq:q < (l[k].value).length
  ·have hltq2:(q:Int) < (((l[k].value).map T.row).length:Int):=by omega
   have hrd:=rd_eq 20 (l[k].value)[q] (Nat.le_refl _)
   by_cases hd:8 < (l[k].value)[q].dep
   ·have hd2:(8:Int) < (rd 20 (l[k].value)[q]:Int):=by omega
    have hyes:(l[k].value).any dpx=true:=any_yes hltq (by unfold dpx; exact decide_eq_true hd)
    have hres:dpF (n+1) l=true:=any_yes hlt (by unfold dpS; rw [hyes]; simp)
    refine am_ (R_ (M_ O (ZW ?_)))
    refine Zb (fun hlen=>?_)
    refine R_ ?_
    refine ZW ?_
    refine M_ O (Zy ?_)
    refine o_ O (bm_ O (RDepth_c _) (o_ O (bz_ O O (T_ (aq_ O u_ (R_ (E_ O (T_ (ar_ ?_)))))))))
    refine az_ (aw_ (aw_ (az_ (az_ (aw_ (aw_ (az_ (aw_ (jq_ret1 O O [] O (fun K h=>by rw [hres] at h; exact h))))))))))
   ·have hd2:¬ (8:Int) < (rd 20 (l[k].value)[q]:Int):=by omega
    refine am_ (R_ (M_ O (ZW ?_)))
    refine Zb (fun hlen=>?_)
    refine R_ ?_
    refine ZW ?_
    refine M_ O (Zy ?_)
    refine o_ O (bm_ O (RDepth_c _) (Wr ?_))
    refine ay_ (al_ (an_ ?_))
    refine YM ?_
    refine jq_againS (q+1) ⟨hltq,any_snoc hltq hall (by unfold dpx; exact decide_eq_false hd)⟩ g_ ?_ ?_
    ·exact sub_end
    ·exact Wv
  ·have hltq2:¬ (q:Int) < (((l[k].value).map T.row).length:Int):=by omega
   refine am_ (R_ (M_ O (ZW ?_)))
   refine Zh (fun hlen=>?_)
   refine Zj ?_
   rw [List.take_of_length_le (by omega)] at hall
   have hS:dpS (dpF n) l[k]=false:=by unfold dpS; rw [hn,hi1,hall]; rfl
   refine jq_againS (k+1) ⟨hlt,any_snoc hlt hallS hS⟩ g_ ?_ ?_
   ·exact sub_end
   ·exact Wv
 ·have hlt2:¬ (k:Int) < ((l.map Sm.row).length:Int):=by omega
  have hres:dpF (n+1) l=false:=by rw [List.take_of_length_le (by omega)] at hallS; exact hallS
  refine YG ?_
  refine Zh (fun hlen=>?_)
  refine al_ (R_ (E_ O (T_ ?_)))
  refine ar_ (jq_ret1 O O [] O (fun K h=>by rw [hres] at h; exact h))
theorem rdeep_c:∀ n:Nat,n≤8→RDeepP n
 | 0,_=>rdeep_zero
 | n+1,h=>rdeep_succ n h (rdeep_c n (by omega))
theorem rDeep_c (l:List Sm):Con Tryz.prog 161 [.cell (.list (l.map Sm.row))] [] (fun K=>K (Bl (dpF 8 l)) []):=by
 have h:=rdeep_c 8 (Nat.le_refl _) l
 refine con_intro Tryz.func161 O O b_ (fun c hc=>R_ (E_ O (T_ (R_ (M_ O (o_ O (bm_ O (h) (E_ O (T_ (ar_ (jq_ret1 O O [] O (fun K h=>h))))))))))))
end Go.Proofs.YtalkkcfojplmdaaGreatDoor
end
section
namespace Go.Proofs.YtalkkcfojplmdaaGreatDoor
open Go.Vc
attribute [local irreducible] JL JC JQ OpWp Con ConN
attribute [local irreducible] byteAt runLen isL isD isName hasW rd fineS numS textT hdT stsT stT
set_option maxHeartbeats 4000000
abbrev Bw (v:Value) (X:ByteArray):Ch:=.own v 5 1 ((bytesI X).map Brow)
def RBody (n:Nat):Prop:=∀ (l:List Sm) (sp X:ByteArray) (v:Value),(∀ s ∈ l,fineS n s)→sp.size+2 * n≤100→X.size+60000 * Sm.szs l≤100000000000000 →
 Con Tryz.prog 163 [.cell (.val v),.cell (.list (l.map Sm.row)),Str sp] [Bw v X] (fun K=>∀ v':Value,True→K (.cell (.val v')) [Bw v' (X ++ stsT sp l)])
theorem hdT1 {s:Sm} {x:T} (hk:s.kind=1) (hv:s.value=[x]):hdT s=((s.name ++ Kst) ++ textT x) ++ Knl:=by unfold hdT; rw [if_pos hk,hv]; rfl
theorem hdT2 {s:Sm} {x y:T} (hk:s.kind=2) (hi:s.index=[y]) (hv:s.value=[x]):hdT s=((((s.name ++ Kx1) ++ textT y) ++ Kx2) ++ textT x) ++ Knl:=by unfold hdT; rw [if_neg (by omega),if_pos hk,hv,hi]; rfl
theorem hdT3 {s:Sm} {x:T} (hk:s.kind=3) (hv:s.value=[x]):hdT s=(((Kif2 ++ textT x) ++ Klab) ++ numS s.label) ++ Kopen:=by unfold hdT; rw [if_neg (by omega),if_neg (by omega),if_pos hk,hv]; rfl
theorem hdT4 {s:Sm} {x:T} (hk:s.kind=4) (hv:s.value=[x]):hdT s=(((((Kwh ++ textT x) ++ Kmx) ++ numS s.max) ++ Klab) ++ numS s.label) ++ Kopen:=by unfold hdT; rw [if_neg (by omega),if_neg (by omega),if_neg (by omega),if_pos hk,hv]; rfl
theorem hdT5 {s:Sm} (hk:s.kind=5):hdT s=(Klk ++ s.name) ++ Kopen:=by unfold hdT; rw [if_neg (by omega),if_neg (by omega),if_neg (by omega),if_neg (by omega)]
theorem row1 {s:Sm} {x:T} (h:s.value=[x]):s.row'=[.val (.int .i64 s.kind),.val (.string s.name),.list (s.index.map T.row),.list ([x].map T.row),.val (.int .i64 s.max),.val (.int .i64 s.label),.list (s.thn.map Sm.row),.list (s.els.map Sm.row)]:=by
 rw [← h]
theorem row2 {s:Sm} {x y:T} (hi:s.index=[y]) (h:s.value=[x]):s.row'=[.val (.int .i64 s.kind),.val (.string s.name),.list ([y].map T.row),.list ([x].map T.row),.val (.int .i64 s.max),.val (.int .i64 s.label),.list (s.thn.map Sm.row),.list (s.els.map Sm.row)]:=by
 rw [← h,← hi]
theorem rtextF_c {t:T} (h:Fx t):Con Tryz.prog 202 [.row t.row'] [] (fun K=>K (Str (textT t)) []):=rtext_c t h.1 (text_small h.1 h.2)
theorem rnumF_c {n:Int} (h:Pl n):Con Tryz.prog 162 [In .i64 n] [] (fun K=>K (Str (numS n)) []):=refNumber_c n ⟨by have:=h.1; omega,h.2⟩
theorem rbody_step (n:Nat) (hrec:∀ n',n=n'+1→RBody n'):RBody n:=by
 intro l sp X v0 hfine hsp hX
 have eL:(l.map Sm.row).length=l.length:=List.length_map _
 refine con_intro Tryz.func163 O O b_ (fun c hc=>ZK ?_)
 refine jc_loopS (ι:=Nat × Value) [] (fun i=>i.1≤l.length) (fun i=>[(0,.cell (.val i.2)),(1,.cell (.list (l.map Sm.row))),(2,Str sp),(7,In .i64 (i.1:Int))]) (fun i=>[Bw i.2 (X ++ stsT sp (l.take i.1))]) (fun i=>l.length - i.1) (0,v0) (Nat.zero_le _) ?_ ?_ ?_
 ·rw [show X ++ stsT sp (l.take 0)=X by rw [List.take_zero,stsT,ba_nil]]
  exact Wx
 ·exact Wv
 rintro ⟨k,v⟩ hk
 dsimp only at hk ⊢
 by_cases hlt:k < l.length
 ·have hlt2:(k:Int) < ((l.map Sm.row).length:Int):=by omega
  have hfk:=hfine l[k] (List.getElem_mem hlt)
  have hszk:=szs_take_succ hlt
  have hs0:=sts_size (l:=l.take k) (fun s hs=>hfine s (List.mem_of_mem_take hs)) hsp
  have hsk:=st_size n sp l[k] hfk hsp
  have hYs:(X ++ stsT sp (l.take k)).size+60000 * l[k].sz≤100000000000000:=by rw [ByteArray.size_append]; omega
  have hnext:X ++ stsT sp (l.take (k+1))=(X ++ stsT sp (l.take k)) ++ stT sp l[k]:=by rw [stsT_take sp hlt,ByteArray.append_assoc]
  generalize X ++ stsT sp (l.take k)=Y at hYs hnext ⊢
  have hz1:1≤l[k].sz:=by rw [Sm.sz_eq]; omega
  refine YG ?_
  refine Zb (fun hlen=>?_)
  refine R_ (M_ O (M_ O (Zq ?_)))
  refine Yn (fun bl=>?_)
  refine R_ (M_ O (M_ O (o_ O (ow_appendS 1 O O O O O O O O g_ (fun v1 _=>E_ O (T_ (am_ ?_)))))))
  obtain ⟨s,hs⟩:∃ s,s=l[k]:=⟨_,rfl⟩
  rw [← hs] at hfk hsk hYs hnext hz1 ⊢
  have hhd:=hd_size hfk
  have hY2:(Y ++ sp).size=Y.size+sp.size:=ByteArray.size_append ..
  obtain ⟨n',rfl⟩:∃ n',n=n'+1:=by
   cases n with
   | zero=>exact absurd hfk (by unfold fineS; exact id)
   | succ n=>exact ⟨n,rfl⟩
  have hrec:=hrec n' rfl
  unfold fineS at hfk
  refine jc_cut (ι:=Value) [] (fun _=>3≤s.kind) (fun v=>[(0,.cell (.val v)),(1,.cell (.list (l.map Sm.row))),(2,Str sp),(7,In .i64 (k:Int)),(8,.cell (.val (.pointer (some ⟨bl,0,none⟩))))]) (fun v=>[Bw v ((Y ++ sp) ++ hdT s),.blk bl 66 s.row']) ?_ ?_
  ·rcases hfk with ⟨hk1,hn,x,hv,fx⟩ | ⟨hk1,hn,y,x,hi,hv,fy,fx⟩ | ⟨hk1,⟨x,hv,fx⟩,hl,_⟩ | ⟨hk1,⟨x,hv,fx⟩,hm,hl,_⟩ | ⟨hk1,hn,_⟩
   ·rw [row1 hv]
    have ehd:=hdT1 hk1 hv
    have e1:[x].length=1:=rfl
    have hxs:=fx.size
    have hns:=name_size hn
    have ht:=rtextF_c fx
    refine R_ (F_ O (L_ 1 O (T_ (au_ (Zu ?_)))))
    refine aq_ O u_ (am_ (jc_anyB 11 none O k_ k_ (yM_ O (yF_ O (yL_ 1 O (aa_ (fun c=>ow_strcat rfl O (by simp only [ba_lit,List.length_cons,List.length_nil];omega) p_) ?_))))))
    refine yF_ O (yL_ 1 O (ZC ?_))
    refine aa_ (fun c=>bm_ O (ht) p_) (Zf ?_)
    refine ae_ (afin_none ?_)
    refine o_ O (ow_appendS 0 O O O O O O O O (by rw [← ehd];omega) (fun v1 _=>E_ O (T_ (av_ (bb_ O (ax_ (ba_ (al_ (an_ (YM ?_))))))))))
    rw [← ehd]
    refine jq_againS (i:=(k,v)) (k+1,v1) hlt (by dsimp only; omega) ?_ ?_
    ·dsimp only
     rw [hnext,stT_leaf sp (.inl hk1),← ByteArray.append_assoc]
     exact Wx
    ·exact Wv
   ·rw [row2 hi hv]
    have ehd:=hdT2 hk1 hi hv
    have e1:[x].length=1:=rfl
    have e2:[y].length=1:=rfl
    have hxs:=fx.size
    have hys:=fy.size
    have hns:=name_size hn
    have ht:=rtextF_c fx
    have ht2:=rtextF_c fy
    refine R_ (F_ O (L_ 1 O (T_ (au_ (Zu ?_)))))
    refine ap_ O v_ (Zu ?_)
    refine aq_ O u_ (am_ ?_)
    refine jc_anyB 18 none O k_ k_ (yM_ O (yF_ O (yL_ 1 O (aa_ (fun c=>ow_strcat rfl O (by simp only [ba_lit,List.length_cons,List.length_nil];omega) p_) (yF_ O (yL_ 1 O (ZC ?_)))))))
    refine aa_ (fun c=>bm_ O (ht2) p_) ?_
    refine Zf ?_
    refine yF_ O (yL_ 1 O (ZC ?_))
    refine aa_ (fun c=>bm_ O (ht) p_) ?_
    refine Zf ?_
    refine ae_ (afin_none (o_ O (ow_appendS 0 O O O O O O O O (by rw [← ehd];omega) (fun v1 _=>E_ O (T_ (av_ (bb_ O (ax_ (ba_ (al_ (an_ ?_)))))))))))
    refine YM ?_
    rw [← ehd]
    refine jq_againS (i:=(k,v)) (k+1,v1) hlt (by dsimp only; omega) ?_ ?_
    ·dsimp only
     rw [hnext,stT_leaf sp (.inr hk1),← ByteArray.append_assoc]
     exact Wx
    ·exact Wv
   ·rw [row1 hv]
    have ehd:=hdT3 hk1 hv
    have e1:[x].length=1:=rfl
    have hxs:=fx.size
    have hls:=hl.size
    have ht:=rtextF_c fx
    have hN:=rnumF_c hl
    refine R_ (F_ O (L_ 1 O (T_ (au_ (Zu ?_)))))
    refine ap_ O v_ (Zu ?_)
    refine ap_ O v_ (R_ ?_)
    refine o_ O (bn_ O O (E_ O (T_ (aq_ O u_ (jc_anyB 13 none O k_ k_ (yM_ O (yF_ O (yL_ 1 O (ZC ?_)))))))))
    refine aa_ (fun c=>bm_ O (ht) p_) (aa_ (fun c=>ow_strcat rfl O (by simp only [ba_lit,List.length_cons,List.length_nil];omega) p_) ?_)
    refine YJ ?_
    refine yL_ 1 O (aa_ (fun c=>bm_ O (hN) p_) (aa_ (fun c=>ow_strcat rfl O (by simp only [ByteArray.size_append,ba_lit,List.length_cons,List.length_nil];omega) p_) ?_))
    refine Yc ?_
    refine o_ O (ow_appendS 0 O O O O O O O O (by rw [← ehd];omega) (fun v1 _=>E_ O (ak_ (ay_ ?_))))
    rw [← ehd,← row1 hv]
    refine jq_cutS v1 g_ ?_ ?_
    ·exact Ww
    ·exact Wv
   ·rw [row1 hv]
    have ehd:=hdT4 hk1 hv
    have e1:[x].length=1:=rfl
    have hxs:=fx.size
    have hls:=hl.size
    have hms:=hm.size
    have ht:=rtextF_c fx
    have hN:=rnumF_c hl
    have hM:=rnumF_c hm
    refine R_ (F_ O (L_ 1 O (T_ (au_ (Zu ?_)))))
    refine ap_ O v_ (Zu ?_)
    refine ap_ O v_ (R_ ?_)
    refine o_ O (bn_ O O (E_ O (T_ (ap_ O v_ (Zu ?_)))))
    refine aq_ O u_ (jc_anyB 18 none O k_ k_ (yM_ O (yF_ O (yL_ 1 O (ZC ?_)))))
    refine aa_ (fun c=>bm_ O (ht) p_) ?_
    refine Zw ?_
    refine yF_ O (yL_ 1 O (aa_ (fun c=>bm_ O (hM) p_) ?_))
    refine Zf ?_
    refine yF_ O (yL_ 1 O (aa_ (fun c=>bm_ O (hN) p_) ?_))
    refine Zf ?_
    refine ae_ (afin_none (o_ O (ow_appendS 0 O O O O O O O O (by rw [← ehd];omega) (fun v1 _=>E_ O (ak_ (ay_ ?_))))))
    rw [← ehd,← row1 hv]
    refine jq_cutS v1 g_ ?_ ?_
    ·exact Ww
    ·exact Wv
   ·have ehd:=hdT5 hk1
    have hns:=name_size hn
    refine R_ (F_ O (L_ 1 O (T_ (au_ (Zu ?_)))))
    refine ap_ O v_ (Zu ?_)
    refine ap_ O v_ (R_ ?_)
    refine o_ O (bn_ O O (E_ O (T_ (ap_ O v_ (Zu ?_)))))
    refine ap_ O v_ (an_ (M_ O (F_ O (L_ 1 O (Yp ?_)))))
    refine Wi ?_
    refine o_ O (ow_appendS 0 O O O O O O O O (by rw [← ehd];omega) (fun v1 _=>E_ O (ak_ (ay_ ?_))))
    rw [← ehd]
    refine jq_cutS v1 g_ ?_ ?_
    ·exact Ww
    ·exact Wv
  intro v3 hk3
  have hk12:¬ (s.kind=1 ∨ s.kind=2):=by omega
  have hthn:∀ t ∈ s.thn,fineS n' t:=by
   rcases hfk with h | h | h | h | h
   ·exact absurd (.inl h.1) hk12
   ·exact absurd (.inr h.1) hk12
   ·exact h.2.2.2.1
   ·exact h.2.2.2.2.1
   ·exact h.2.2.1
  have hels:∀ t ∈ s.els,fineS n' t:=by
   rcases hfk with h | h | h | h | h
   ·exact absurd (.inl h.1) hk12
   ·exact absurd (.inr h.1) hk12
   ·exact h.2.2.2.2
   ·rw [h.2.2.2.2.2]; simp
   ·rw [h.2.2.2]; simp
  have ez:=Sm.sz_eq s
  have hsp2:(sp ++ Ksp).size=sp.size+2:=by rw [ByteArray.size_append]; rfl
  have hZ:((Y ++ sp) ++ hdT s).size=(Y ++ sp).size+(hdT s).size:=ByteArray.size_append ..
  have e1:stT sp s=(sp ++ hdT s) ++ stsT (sp ++ Ksp) s.thn ++ (if s.els=[] then ⟨#[]⟩ else (sp ++ Kelse2) ++ stsT (sp ++ Ksp) s.els) ++ (sp ++ Kclose):=stT_node sp hk12
  have hT:=sts_size hthn (sp:=sp ++ Ksp) (by omega)
  have hE:=sts_size hels (sp:=sp ++ Ksp) (by omega)
  clear hfk
  generalize hZe:(Y ++ sp) ++ hdT s=Zt at hZ ⊢
  have con1:=hrec s.thn (sp ++ Ksp) Zt v3 hthn (by omega) (by omega)
  have hZ2:(Zt ++ stsT (sp ++ Ksp) s.thn).size=Zt.size+(stsT (sp ++ Ksp) s.thn).size:=ByteArray.size_append ..
  have eE:(s.els.map Sm.row).length=s.els.length:=List.length_map _
  refine R_ (M_ O (F_ O (L_ 1 O (M_ O (Yp ?_)))))
  refine o_ O (bt_ [0] O O (con1) (fun pp hpp=>E_ O (T_ (am_ ?_))))
  generalize hZ2e:Zt ++ stsT (sp ++ Ksp) s.thn=Z2 at hZ2 ⊢
  by_cases hnil:s.els=[]
  ·have hz:¬ (0:Int) < ((s.els.map Sm.row).length:Int):=by rw [hnil]; simp
   refine R_ (F_ O (L_ 1 O (o_ O (br_ O (fun hlen=>Wr ?_)))))
   refine al_ (an_ (M_ O (M_ O (Yp ?_))))
   refine o_ O (ow_appendS 0 O O O O O O O O (by simp only [ByteArray.size_append,ba_lit,List.length_cons,List.length_nil];omega) (fun v1 _=>E_ O (ak_ ?_)))
   refine Zj ?_
   refine jq_againS (i:=(k,v)) (k+1,v1) hlt (by dsimp only; omega) ?_ ?_
   ·dsimp only
    rw [hnext,e1,if_pos hnil,ba_nil,← hZ2e,← hZe]
    simp only [ByteArray.append_assoc]
    exact Wx
   ·exact Wv
  ·have hz:(0:Int) < ((s.els.map Sm.row).length:Int):=by
    have:=List.length_pos_iff.2 hnil
    omega
   have hsp3:(sp ++ Kelse2).size=sp.size+9:=by rw [ByteArray.size_append]; rfl
   have hZ3:(Z2 ++ (sp ++ Kelse2)).size=Z2.size+(sp ++ Kelse2).size:=ByteArray.size_append ..
   have con2:=fun v=>hrec s.els (sp ++ Ksp) (Z2 ++ (sp ++ Kelse2)) v hels (by omega) (by omega)
   refine R_ (F_ O (L_ 1 O (o_ O (br_ O (fun hlen=>o_ O (bz_ O O (T_ (aq_ O u_ (R_ (M_ O (M_ O (Yp ?_))))))))))))
   refine o_ O (ow_appendS 0 O O O O O O O O (by simp only [ByteArray.size_append,ba_lit,List.length_cons,List.length_nil];omega) (fun v1 _=>E_ O (T_ (an_ (M_ O ?_)))))
   refine F_ O (L_ 1 O (M_ O (Yp ?_)))
   refine o_ O (bt_ [0] O O (con2 _) (fun pp hpp=>E_ O (T_ (an_ (M_ O (M_ O (Yp ?_)))))))
   refine o_ O (ow_appendS 0 O O O O O O O O (by simp only [ByteArray.size_append,ba_lit,List.length_cons,List.length_nil];omega) (fun v1 _=>E_ O (ak_ (Zj ?_))))
   refine jq_againS (i:=(k,v)) (k+1,v1) hlt (by dsimp only; omega) ?_ ?_
   ·dsimp only
    rw [hnext,e1,if_neg hnil,← hZ2e,← hZe]
    simp only [ByteArray.append_assoc]
    exact Wx
   ·exact Wv
 ·have hlt2:¬ (k:Int) < ((l.map Sm.row).length:Int):=by omega
  rw [List.take_of_length_le (by omega)]
  refine YG ?_
  refine Zh (fun hlen=>?_)
  refine al_ (R_ (M_ O (E_ O ?_)))
  refine T_ (ar_ (jq_ret1 O O [0] O (fun K h=>h v trivial)))
theorem rbody_c : ∀ n : Nat, RBody n
  | 0 => rbody_step 0 (fun n' h => by omega)
  | n + 1 => rbody_step (n + 1) (fun n' h => by obtain rfl : n' = n := by omega
                                                exact rbody_c n')
end Go.Proofs.YtalkkcfojplmdaaGreatDoor
end
section
namespace Go.Proofs.YtalkkcfojplmdaaGreatDoor
open Go.Vc
attribute [local irreducible] JL JC JQ OpWp Con ConN
attribute [local irreducible] byteAt runLen isL isD isName hasW rd fineS numS textT hdT stsT stT okSs
set_option maxHeartbeats 8000000
def catL {α:Type} (f:α→ByteArray):List α→ByteArray
 | []=>⟨#[]⟩
 | a :: l=>f a ++ catL f l
theorem catL_app {α:Type} (f:α→ByteArray):∀ l m:List α,catL f (l ++ m)=catL f l ++ catL f m
 | [],m=>by rw [List.nil_append,catL,nil_ba]
 | a :: l,m=>by rw [List.cons_append,catL,catL,catL_app f l m,ByteArray.append_assoc]
theorem catL_take {α:Type} (f:α→ByteArray) (Y:ByteArray) {l:List α} {k:Nat} (h:k < l.length):Y ++ catL f (l.take (k+1))=(Y ++ catL f (l.take k)) ++ f l[k]:=by
 rw [List.take_succ_eq_append_getElem h,catL_app,catL,catL,ba_nil,ByteArray.append_assoc]
theorem catL_size {α:Type} {f:α→ByteArray} {B:Nat}:∀ {l:List α},(∀ a ∈ l,(f a).size≤B)→(catL f l).size≤l.length * B
 | [],_=>by simp [catL]; rfl
 | a :: l,h=>by
  have h1:=h a (by simp)
  have h2:=catL_size (l:=l) (fun x hx=>h x (by simp [hx]))
  rw [catL,ByteArray.size_append,List.length_cons,Nat.add_mul]
  omega
theorem catL_takeS {α:Type} {f:α→ByteArray} {B:Nat} {l:List α} (h:∀ a ∈ l,(f a).size≤B) (k:Nat):(catL f (l.take k)).size≤l.length * B:=by
 have h1:=catL_size (l:=l.take k) (fun a ha=>h a (List.mem_of_mem_take ha))
 have h2:(l.take k).length * B≤l.length * B:=Nat.mul_le_mul_right _ (by rw [List.length_take]; omega)
 omega
def resT (x:ByteArray):ByteArray:=(((⟨#[114,101,115,111,117,114,99,101,32]⟩:ByteArray) ++ x) ++ (⟨#[10]⟩:ByteArray))
def shT (x:Shd):ByteArray:=(((((((⟨#[115,104,97,114,101,100,32]⟩:ByteArray) ++ x.1) ++ (⟨#[32]⟩:ByteArray)) ++ numS x.2.1) ++ (⟨#[32]⟩:ByteArray)) ++ x.2.2) ++ (⟨#[10]⟩:ByteArray))
def inT (x:Inp):ByteArray:=(((((((⟨#[105,110,112,117,116,32]⟩:ByteArray) ++ x.1) ++ (⟨#[32]⟩:ByteArray)) ++ numS x.2.1) ++ (⟨#[32]⟩:ByteArray)) ++ numS x.2.2) ++ (⟨#[10]⟩:ByteArray))
def vaT (x:ByteArray):ByteArray:=(((⟨#[118,97,114,32]⟩:ByteArray) ++ x) ++ (⟨#[10]⟩:ByteArray))
def arT (x:Arr):ByteArray:=(((((⟨#[97,114,114,97,121,32]⟩:ByteArray) ++ x.1) ++ (⟨#[32]⟩:ByteArray)) ++ numS x.2) ++ (⟨#[10]⟩:ByteArray))
def mdT (x:Md):ByteArray:=(((((((((⟨#[109,111,100,101,32]⟩:ByteArray) ++ x.1) ++ (⟨#[32]⟩:ByteArray)) ++ x.2.1) ++ (⟨#[32]⟩:ByteArray)) ++ numS x.2.2.1) ++ (⟨#[32]⟩:ByteArray)) ++ numS x.2.2.2) ++ (⟨#[10]⟩:ByteArray))
def clT (x:Clm):ByteArray:=(((((⟨#[110,101,118,101,114,32]⟩:ByteArray) ++ numS x.1) ++ (⟨#[32]⟩:ByteArray)) ++ numS x.2) ++ (⟨#[10]⟩:ByteArray))
def tkHd (x:Tk):ByteArray:=(((((((((((⟨#[116,97,115,107,32]⟩:ByteArray) ++ x.name) ++ (⟨#[32,112,101,114,105,111,100,32]⟩:ByteArray)) ++ numS x.period) ++ (⟨#[32,100,101,97,100,108,105,110,101,32]⟩:ByteArray)) ++ numS x.deadline) ++ (⟨#[32,112,114,105,111,114,105,116,121,32]⟩:ByteArray)) ++ numS x.priority) ++ (⟨#[32,106,105,116,116,101,114,32]⟩:ByteArray)) ++ numS x.jitter) ++ (⟨#[10]⟩:ByteArray))
def tkT (t:Tk):ByteArray:=((((((((tkHd t ++ catL inT t.inputs) ++ catL vaT t.vars) ++ catL arT t.arrays) ++ catL mdT t.modes) ++ catL clT t.claims) ++ (⟨#[98,111,100,121,10]⟩:ByteArray)) ++ stsT Ksp t.body) ++ (⟨#[101,110,100,10]⟩:ByteArray))
def progT (p:Pg):ByteArray:=(catL resT p.res ++ catL shT p.shared) ++ catL tkT p.tasks
def progF (p:Pg):ByteArray × Int:=if okPg p=false then (⟨#[]⟩,10) else if p.tasks.any (fun t=>dpF 8 t.body)=true then (⟨#[]⟩,4) else if 8192 < (progT p).size then (⟨#[]⟩,4) else (progT p,0)
structure TkSz (t:Tk):Prop where
 inputs:t.inputs.length≤1000
 vars:t.vars.length≤1000
 arrays:t.arrays.length≤1000
 modes:t.modes.length≤1000
 claims:t.claims.length≤1000
 body:Sm.szs t.body≤1000000
structure PgSz (p:Pg):Prop where
 res:p.res.length≤1000
 shared:p.shared.length≤1000
 len:p.tasks.length≤1000
 tasks:∀ t ∈ p.tasks,TkSz t
theorem resT_ok {x:ByteArray} (h:nameB x=true):nmOk (x):=by
 exact nameB_ok.1 h
theorem resT_size {x:ByteArray} (h:nameB x=true):(resT x).size≤200:=by
 have h:=resT_ok h
 have:=name_size h
 simp only [resT,ByteArray.size_append,ba_lit,List.length_cons,List.length_nil]
 omega
theorem shT_ok {x:Shd} (h:shB x=true):nmOk (x.1)∧Pl (x.2.1)∧nmOk (x.2.2):=by
 unfold shB at h
 simp only [Bool.and_eq_true,and_assoc] at h
 obtain ⟨h0,h1,h2⟩:=h
 exact ⟨nameB_ok.1 h0,plainB_ok.1 h1,nameB_ok.1 h2⟩
theorem shT_size {x:Shd} (h:shB x=true):(shT x).size≤200:=by
 have h:=shT_ok h
 obtain ⟨h0,h1,h2⟩:=h
 have:=name_size h0
 have:=h1.size
 have:=name_size h2
 simp only [shT,ByteArray.size_append,ba_lit,List.length_cons,List.length_nil]
 omega
theorem inT_ok {x:Inp} (h:inB x=true):nmOk (x.1)∧(-2147483647≤x.2.1∧x.2.1≤2147483647)∧(-2147483647≤x.2.2∧x.2.2≤2147483647):=by
 unfold inB at h
 simp only [Bool.and_eq_true,and_assoc] at h
 obtain ⟨h0,h1,h2⟩:=h
 exact ⟨nameB_ok.1 h0,smallB_ok.1 h1,smallB_ok.1 h2⟩
theorem inT_size {x:Inp} (h:inB x=true):(inT x).size≤200:=by
 have h:=inT_ok h
 obtain ⟨h0,h1,h2⟩:=h
 have:=name_size h0
 have:=numS_size _ h1.1 h1.2
 have:=numS_size _ h2.1 h2.2
 simp only [inT,ByteArray.size_append,ba_lit,List.length_cons,List.length_nil]
 omega
theorem vaT_ok {x:ByteArray} (h:nameB x=true):nmOk (x):=by
 exact nameB_ok.1 h
theorem vaT_size {x:ByteArray} (h:nameB x=true):(vaT x).size≤200:=by
 have h:=vaT_ok h
 have:=name_size h
 simp only [vaT,ByteArray.size_append,ba_lit,List.length_cons,List.length_nil]
 omega
theorem arT_ok {x:Arr} (h:arB x=true):nmOk (x.1)∧Pl (x.2):=by
 unfold arB at h
 simp only [Bool.and_eq_true] at h
 obtain ⟨h0,h1⟩:=h
 exact ⟨nameB_ok.1 h0,plainB_ok.1 h1⟩
theorem arT_size {x:Arr} (h:arB x=true):(arT x).size≤200:=by
 have h:=arT_ok h
 obtain ⟨h0,h1⟩:=h
 have:=name_size h0
 have:=h1.size
 simp only [arT,ByteArray.size_append,ba_lit,List.length_cons,List.length_nil]
 omega
theorem mdT_ok {x:Md} (h:mdB x=true):nmOk (x.1)∧nmOk (x.2.1)∧(-2147483647≤x.2.2.1∧x.2.2.1≤2147483647)∧(-2147483647≤x.2.2.2∧x.2.2.2≤2147483647):=by
 unfold mdB at h
 simp only [Bool.and_eq_true,and_assoc] at h
 obtain ⟨h0,h1,h2,h3⟩:=h
 exact ⟨nameB_ok.1 h0,nameB_ok.1 h1,smallB_ok.1 h2,smallB_ok.1 h3⟩
theorem mdT_size {x:Md} (h:mdB x=true):(mdT x).size≤200:=by
 have h:=mdT_ok h
 obtain ⟨h0,h1,h2,h3⟩:=h
 have:=name_size h0
 have:=name_size h1
 have:=numS_size _ h2.1 h2.2
 have:=numS_size _ h3.1 h3.2
 simp only [mdT,ByteArray.size_append,ba_lit,List.length_cons,List.length_nil]
 omega
theorem clT_ok {x:Clm} (h:clB x=true):Pl (x.1)∧Pl (x.2):=by
 unfold clB at h
 simp only [Bool.and_eq_true] at h
 obtain ⟨h0,h1⟩:=h
 exact ⟨plainB_ok.1 h0,plainB_ok.1 h1⟩
theorem clT_size {x:Clm} (h:clB x=true):(clT x).size≤200:=by
 have h:=clT_ok h
 obtain ⟨h0,h1⟩:=h
 have:=h0.size
 have:=h1.size
 simp only [clT,ByteArray.size_append,ba_lit,List.length_cons,List.length_nil]
 omega
theorem tk1_ok {x:Tk} (h:hdB x=true):nmOk (x.name)∧Pl (x.period)∧Pl (x.deadline)∧Pl (x.priority)∧Pl (x.jitter):=by
 unfold hdB at h
 simp only [Bool.and_eq_true,and_assoc] at h
 obtain ⟨h0,h1,h2,h3,h4⟩:=h
 exact ⟨nameB_ok.1 h0,plainB_ok.1 h1,plainB_ok.1 h2,plainB_ok.1 h3,plainB_ok.1 h4⟩
theorem tk1_size {x:Tk} (h:hdB x=true):(tkHd x).size≤200:=by
 have h:=tk1_ok h
 obtain ⟨h0,h1,h2,h3,h4⟩:=h
 have:=name_size h0
 have:=h1.size
 have:=h2.size
 have:=h3.size
 have:=h4.size
 simp only [tkHd,ByteArray.size_append,ba_lit,List.length_cons,List.length_nil]
 omega
theorem hd_of {t:Tk} (h:okTk t=true):hdB t=true∧okSs 20 t.body=true∧(∀ x ∈ t.inputs,inB x=true)∧(∀ x ∈ t.vars,nameB x=true)∧(∀ x ∈ t.arrays,arB x=true)∧(∀ x ∈ t.modes,mdB x=true)∧∀ x ∈ t.claims,clB x=true:=by
 unfold okTk at h
 simp only [Bool.and_eq_true,and_assoc,List.all_eq_true] at h
 exact h
theorem tkT_size {t:Tk} (h:okTk t=true) (hd:dpF 8 t.body=false) (hs:TkSz t):(tkT t).size≤60002000000:=by
 obtain ⟨h0,hb,h1,h2,h3,h4,h5⟩:=hd_of h
 have e0:=tk1_size h0
 have e1:=catL_size (f:=inT) (fun x hx=>inT_size (h1 x hx))
 have e2:=catL_size (f:=vaT) (fun x hx=>vaT_size (h2 x hx))
 have e3:=catL_size (f:=arT) (fun x hx=>arT_size (h3 x hx))
 have e4:=catL_size (f:=mdT) (fun x hx=>mdT_size (h4 x hx))
 have e5:=catL_size (f:=clT) (fun x hx=>clT_size (h5 x hx))
 have e6:=sts_size (sp:=Ksp) (fine_of 8 20 t.body (by omega) hb hd) (by show 2+2 * 8≤100; omega)
 have:=hs.inputs
 have:=hs.vars
 have:=hs.arrays
 have:=hs.modes
 have:=hs.claims
 have:=hs.body
 simp only [tkT,ByteArray.size_append,ba_lit,List.length_cons,List.length_nil]
 omega
theorem rProg_c (p:Pg) (hz:PgSz p):Con Tryz.prog 112 [.row p.row] [] (fun K=>K (.tup [Str (progF p).1,In .i64 (progF p).2]) []):=by
 refine con_intro Tryz.func112 O O b_ (fun c hc=>R_ (o_ O (ci_ O (fun bx=>E_ O (E_ O (T_ (am_ (R_ (A_ 0 O (o_ O (bm_ O (rprintableB_c _) (o_ O (cd_ O (T_ ?_))))))))))))))
 by_cases hok:okPg p=false
 ·have hN:(!okPg p)=true:=by rw [hok]; rfl
  have e1:progF p=(⟨#[]⟩,10):=by unfold progF; rw [if_pos hok]
  refine aq_ O h_ (R_ (E_ O (E_ O (T_ (ar_ (aw_ (jq_ret2 O O O [] O (fun K h=>by rw [e1] at h; exact h))))))))
 have hok:okPg p=true:=by simpa using hok
 have hN:(!okPg p)=false:=by rw [hok]; rfl
 have hokb:¬ okPg p=false:=by rw [hok]; simp
 refine ap_ O h_ (as_ (al_ ?_))
 -- none is too deep
 have eT:(p.tasks.map Tk.row).length=p.tasks.length:=List.length_map _
 refine am_ (jc_cut (ι:=Unit) [] (fun _=>p.tasks.any (fun t=>dpF 8 t.body)=false) (fun _=>[(1,.cell (.val (.pointer (some ⟨bx,0,none⟩))))]) (fun _=>[.blk bx 31 p.row]) ?_ ?_)
 ·refine R_ (E_ O (T_ (au_ (jc_loopS (ι:=Nat) [] (fun k=>k≤p.tasks.length∧(p.tasks.take k).any (fun t=>dpF 8 t.body)=false) (fun k=>(4,In .i64 (k:Int)) :: [(1,.cell (.val (.pointer (some ⟨bx,0,none⟩))))]) (fun _=>[.blk bx 31 p.row]) (fun k=>p.tasks.length - k) 0 ⟨Nat.zero_le _,rfl⟩ ?_ ?_ ?_))))
  ·exact Wx
  ·exact Wv
  rintro k ⟨hk,hall⟩
  by_cases hlt:k < p.tasks.length
  ·have hlt2:(k:Int) < ((p.tasks.map Tk.row).length:Int):=by omega
   by_cases hd:dpF 8 p.tasks[k].body=true
   ·have hany:p.tasks.any (fun t=>dpF 8 t.body)=true:=any_yes hlt hd
    have e1:progF p=(⟨#[]⟩,4):=by unfold progF; rw [if_neg hokb,if_pos hany]
    refine ZA ?_
    refine Zb (fun hlen=>?_)
    refine YY ?_
    refine ZI ?_
    refine Yt ?_
    refine bm_ O (rDeep_c _) (T_ (aq_ O h_ (R_ (E_ O (E_ O (T_ (ar_ (az_ (aw_ (aw_ (az_ (aw_ ?_))))))))))))
    refine jq_ret2 O O O [] O (fun K h=>by rw [e1] at h; exact h)
   ·have hd:dpF 8 p.tasks[k].body=false:=by simpa using hd
    refine ZA ?_
    refine Zb (fun hlen=>?_)
    refine YY ?_
    refine ZI ?_
    refine Yt ?_
    refine bm_ O (rDeep_c _) (T_ (ap_ O h_ (as_ (Zj ?_))))
    refine jq_againS (k+1) ⟨hlt,any_snoc hlt hall hd⟩ g_ ?_ ?_
    ·exact Wx
    ·exact Wv
  ·have hlt2:¬ (k:Int) < ((p.tasks.map Tk.row).length:Int):=by omega
   refine ZA ?_
   refine Zh (fun hlen=>?_)
   refine jq_cutS () (by rw [List.take_of_length_le g_] at hall; exact hall) ?_ ?_
   ·exact Wx
   ·exact Wv
 intro _ hdeep
 have hok2:=hok
 unfold okPg at hok2
 simp only [Bool.and_eq_true,List.all_eq_true,and_assoc] at hok2
 obtain ⟨hR,hSh,hTk⟩:=hok2
 have zr:=hz.res
 have zs:=hz.shared
 have zl:=hz.len
 refine jc_ownNil 5 1 g_ (R_ (E_ O (T_ (am_ ?_))))
 have hY0:((⟨#[]⟩:ByteArray)).size≤0:=Nat.le_refl _
 refine jc_cut (ι:=Value) [] (fun _=>True) (fun v=>(5,.cell (.val v)) :: [(1,.cell (.val (.pointer (some ⟨bx,0,none⟩))))]) (fun v=>[Bw v ((⟨#[]⟩:ByteArray) ++ catL resT (p.res)),.blk bx 31 p.row]) ?_ ?_
 ·refine R_ (E_ O (T_ (au_ (jc_loopS (ι:=Nat × Value) [] (fun i=>i.1≤(p.res).length) (fun i=>(6,In .i64 (i.1:Int)) :: (5,.cell (.val i.2)) :: [(1,.cell (.val (.pointer (some ⟨bx,0,none⟩))))]) (fun i=>[Bw i.2 ((⟨#[]⟩:ByteArray) ++ catL resT ((p.res).take i.1)),.blk bx 31 p.row]) (fun i=>(p.res).length - i.1) (0,(.slice none 0 0)) (Nat.zero_le _) ?_ ?_ ?_))))
  ·rw [show (⟨#[]⟩:ByteArray) ++ catL resT ((p.res).take 0)=(⟨#[]⟩:ByteArray) by rw [List.take_zero,catL,ba_nil]]
   exact Ww
  ·exact Wv
  rintro ⟨k,v⟩ hk
  dsimp only at hk ⊢
  have eL:((p.res).map Wrow).length=(p.res).length:=List.length_map _
  by_cases hlt:k < (p.res).length
  ·have hlt2:(k:Int) < (((p.res).map Wrow).length:Int):=by omega
   have hsz:=catL_takeS (f:=resT) (l:=p.res) (fun x hx=>resT_size (hR x hx)) k
   have hnx:=catL_take resT ((⟨#[]⟩:ByteArray)) hlt
   have hfs:=resT_size (hR _ (List.getElem_mem hlt))
   have hYs:((⟨#[]⟩:ByteArray) ++ catL resT ((p.res).take k)).size≤0+200000:=by rw [ByteArray.size_append]; omega
   generalize (⟨#[]⟩:ByteArray) ++ catL resT ((p.res).take k)=Z at hYs hnx ⊢
   have gk:=resT_ok (hR _ (List.getElem_mem hlt))
   have g0:=gk
   have:=name_size g0
   refine Z6 ?_
   refine Zb (fun hlen=>?_)
   refine an_ (M_ O (F_ O (L_ 1 O ?_)))
   refine M_ O (ZI ?_)
   refine cb_ O O (Yp ?_)
   refine Wi ?_
   refine o_ O (ow_appendS 0 O O O O O O O O (by show _+(resT (p.res)[k]).size≤_;omega) (fun v1 _=>?_))
   refine E_ O (ak_ (Zj ?_))
   refine jq_againS (i:=(k,v)) (k+1,v1) hlt (by dsimp only; omega) ?_ ?_
   ·dsimp only
    rw [hnx]
    exact Ww
   ·exact Wv
  ·have hlt2:¬ (k:Int) < (((p.res).map Wrow).length:Int):=by omega
   rw [List.take_of_length_le (show (p.res).length≤k by omega)]
   refine Z6 ?_
   refine Zh (fun hlen=>?_)
   refine jq_cutS v trivial ?_ ?_
   ·exact Ww
   ·exact Wv
 intro vA _
 rw [nil_ba]
 have hY1:=catL_size (f:=resT) (fun x hx=>resT_size (hR x hx))
 refine am_ (jc_cut (ι:=Value) [] (fun _=>True) (fun v=>(5,.cell (.val v)) :: [(1,.cell (.val (.pointer (some ⟨bx,0,none⟩))))]) (fun v=>[Bw v (catL resT p.res ++ catL shT (p.shared)),.blk bx 31 p.row]) ?_ ?_)
 ·refine R_ (E_ O (T_ (au_ (jc_loopS (ι:=Nat × Value) [] (fun i=>i.1≤(p.shared).length) (fun i=>(7,In .i64 (i.1:Int)) :: (5,.cell (.val i.2)) :: [(1,.cell (.val (.pointer (some ⟨bx,0,none⟩))))]) (fun i=>[Bw i.2 (catL resT p.res ++ catL shT ((p.shared).take i.1)),.blk bx 31 p.row]) (fun i=>(p.shared).length - i.1) (0,vA) (Nat.zero_le _) ?_ ?_ ?_))))
  ·rw [show catL resT p.res ++ catL shT ((p.shared).take 0)=catL resT p.res by rw [List.take_zero,catL,ba_nil]]
   exact Ww
  ·exact Wv
  rintro ⟨k,v⟩ hk
  dsimp only at hk ⊢
  have eL:((p.shared).map ShRow).length=(p.shared).length:=List.length_map _
  by_cases hlt:k < (p.shared).length
  ·have hlt2:(k:Int) < (((p.shared).map ShRow).length:Int):=by omega
   have hsz:=catL_takeS (f:=shT) (l:=p.shared) (fun x hx=>shT_size (hSh x hx)) k
   have hnx:=catL_take shT (catL resT p.res) hlt
   have hfs:=shT_size (hSh _ (List.getElem_mem hlt))
   have hYs:(catL resT p.res ++ catL shT ((p.shared).take k)).size≤200000+200000:=by rw [ByteArray.size_append]; omega
   generalize catL resT p.res ++ catL shT ((p.shared).take k)=Z at hYs hnx ⊢
   have gk:=shT_ok (hSh _ (List.getElem_mem hlt))
   obtain ⟨g0,g1,g2⟩:=gk
   have:=name_size g0
   have:=g1.size
   have:=name_size g2
   refine Z6 ?_
   refine Zb (fun hlen=>?_)
   refine R_ (F_ O (L_ 1 O (M_ O ?_)))
   refine Zm (fun bl=>?_)
   refine jc_anyB 16 none O k_ k_ (yM_ O (yF_ O (yF_ O (yL_ 0 O (aa_ (fun c=>ow_strcat rfl O (by simp only [ba_lit,List.length_cons,List.length_nil];omega) p_) ?_)))))
   refine YJ ?_
   refine yF_ O (yL_ 0 O (aa_ (fun c=>bm_ O (rnumF_c g1) p_) (aa_ (fun c=>ow_strcat rfl O (by simp only [ByteArray.size_append,ba_lit,List.length_cons,List.length_nil];omega) p_) ?_)))
   refine YJ ?_
   refine yL_ 0 O (Zf ?_)
   refine ae_ ?_
   refine afin_none (o_ O (ow_appendS 1 O O O O O O O O (by show _+(shT (p.shared)[k]).size≤_;omega) (fun v1 _=>E_ O (ak_ (Zj ?_)))))
   refine jq_againS (i:=(k,v)) (k+1,v1) hlt (by dsimp only; omega) ?_ ?_
   ·dsimp only
    rw [hnx]
    exact bc_ 0 O (bc_ 1 O sub_end)
   ·exact Wv
  ·have hlt2:¬ (k:Int) < (((p.shared).map ShRow).length:Int):=by omega
   rw [List.take_of_length_le (show (p.shared).length≤k by omega)]
   refine Z6 ?_
   refine Zh (fun hlen=>?_)
   refine jq_cutS v trivial ?_ ?_
   ·exact Ww
   ·exact Wv
 intro vB _
 have hY2:(catL resT p.res ++ catL shT p.shared).size≤400000:=by
  have:=catL_size (f:=shT) (fun x hx=>shT_size (hSh x hx))
  rw [ByteArray.size_append]; omega
 generalize hX2:catL resT p.res ++ catL shT p.shared=X2 at hY2 ⊢
 have hdk:∀ t ∈ p.tasks,dpF 8 t.body=false:=fun t ht=>by simpa using List.any_eq_false.1 hdeep t ht
 have htz:∀ t ∈ p.tasks,(tkT t).size≤60002000000:=fun t ht=>tkT_size (hTk t ht) (hdk t ht) (hz.tasks t ht)
 refine am_ (jc_cut (ι:=Value) [] (fun _=>True) (fun v=>(5,.cell (.val v)) :: [(1,.cell (.val (.pointer (some ⟨bx,0,none⟩))))]) (fun v=>[Bw v (X2 ++ catL tkT p.tasks),.blk bx 31 p.row]) ?_ ?_)
 ·refine R_ (E_ O (T_ (au_ (jc_loopS (ι:=Nat × Value) [] (fun i=>i.1≤p.tasks.length) (fun i=>(9,In .i64 (i.1:Int)) :: (5,.cell (.val i.2)) :: [(1,.cell (.val (.pointer (some ⟨bx,0,none⟩))))]) (fun i=>[Bw i.2 (X2 ++ catL tkT (p.tasks.take i.1)),.blk bx 31 p.row]) (fun i=>p.tasks.length - i.1) (0,vB) (Nat.zero_le _) ?_ ?_ ?_))))
  ·rw [show X2 ++ catL tkT (p.tasks.take 0)=X2 by rw [List.take_zero,catL,ba_nil]]
   exact Ww
  ·exact Wv
  rintro ⟨kt,v⟩ hkt
  dsimp only at hkt ⊢
  by_cases hltt:kt < p.tasks.length
  ·have hlt2:(kt:Int) < ((p.tasks.map Tk.row).length:Int):=by omega
   have hsz:=catL_takeS (f:=tkT) (l:=p.tasks) htz kt
   have hnx:=catL_take tkT X2 hltt
   have hmt:=List.getElem_mem hltt
   have htk:=htz _ hmt
   have hYs:(X2 ++ catL tkT (p.tasks.take kt)).size≤60002000400000:=by
    have:p.tasks.length * 60002000000≤1000 * 60002000000:=Nat.mul_le_mul_right _ zl
    rw [ByteArray.size_append]; omega
   generalize X2 ++ catL tkT (p.tasks.take kt)=Z0 at hYs hnx ⊢
   obtain ⟨h0,hb,h1,h2,h3,h4,h5⟩:=hd_of (hTk _ hmt)
   have tz:=hz.tasks _ hmt
   have zi:=tz.inputs
   have zv:=tz.vars
   have za:=tz.arrays
   have zm:=tz.modes
   have zc:=tz.claims
   have zb:=tz.body
   have hdt:=hdk _ hmt
   refine Z6 ?_
   refine Zb (fun hlen=>?_)
   refine R_ (F_ O (L_ 1 O (M_ O ?_)))
   refine Zm (fun bl=>?_)
   generalize p.tasks[kt]=t at *
   have gk:=tk1_ok h0
   obtain ⟨g0,g1,g2,g3,g4⟩:=gk
   have:=name_size g0
   have:=g1.size
   have:=g2.size
   have:=g3.size
   have:=g4.size
   have hts:=tk1_size h0
   refine am_ (jc_anyB 25 none O k_ k_ (yM_ O (yF_ O (yL_ 0 O (Zw ?_)))))
   refine yF_ O (yL_ 0 O (aa_ (fun c=>bm_ O (rnumF_c g1) p_) ?_))
   refine Zf ?_
   refine yF_ O (yL_ 0 O (aa_ (fun c=>bm_ O (rnumF_c g2) p_) ?_))
   refine Zf ?_
   refine yF_ O (yL_ 0 O (aa_ (fun c=>bm_ O (rnumF_c g3) p_) ?_))
   refine Zf ?_
   refine yF_ O (yL_ 0 O (aa_ (fun c=>bm_ O (rnumF_c g4) p_) ?_))
   refine Zf ?_
   refine ae_ (afin_none (o_ O (ow_appendS 1 O O O O O O O O (by show _+(tkHd t).size≤_;omega) (fun v1 _=>E_ O (T_ (am_ ?_))))))
   rw [show (((((((((((⟨#[116,97,115,107,32]⟩:ByteArray) ++ t.name) ++ (⟨#[32,112,101,114,105,111,100,32]⟩:ByteArray)) ++ numS t.period) ++ (⟨#[32,100,101,97,100,108,105,110,101,32]⟩:ByteArray)) ++ numS t.deadline) ++ (⟨#[32,112,114,105,111,114,105,116,121,32]⟩:ByteArray)) ++ numS t.priority) ++ (⟨#[32,106,105,116,116,101,114,32]⟩:ByteArray)) ++ numS t.jitter) ++ (⟨#[10]⟩:ByteArray))=tkHd t from rfl]
   generalize hE0:Z0 ++ tkHd t=Y0 at *
   have hY0:Y0.size≤60002000400200:=by rw [← hE0,ByteArray.size_append]; omega
   refine jc_cut (ι:=Value) [] (fun _=>True) (fun v=>(5,.cell (.val v)) :: [(1,.cell (.val (.pointer (some ⟨bx,0,none⟩)))),(9,In .i64 (kt:Int)),(10,.cell (.val (.pointer (some ⟨bl,0,none⟩))))]) (fun v=>[Bw v (Y0 ++ catL inT (t.inputs)),.blk bl 39 t.row,.blk bx 31 p.row]) ?_ ?_
   ·refine R_ (E_ O (T_ (au_ ?_)))
    refine jc_loopS (ι:=Nat × Value) [] (fun i=>i.1≤(t.inputs).length) (fun i=>(11,In .i64 (i.1:Int)) :: (5,.cell (.val i.2)) :: [(1,.cell (.val (.pointer (some ⟨bx,0,none⟩)))),(9,In .i64 (kt:Int)),(10,.cell (.val (.pointer (some ⟨bl,0,none⟩))))]) (fun i=>[Bw i.2 (Y0 ++ catL inT ((t.inputs).take i.1)),.blk bl 39 t.row,.blk bx 31 p.row]) (fun i=>(t.inputs).length - i.1) (0,v1) (Nat.zero_le _) ?_ ?_ ?_
    ·rw [show Y0 ++ catL inT ((t.inputs).take 0)=Y0 by rw [List.take_zero,catL,ba_nil]]
     exact WF
    ·exact Wv
    rintro ⟨k,v⟩ hk
    dsimp only at hk ⊢
    have eL:((t.inputs).map InRow).length=(t.inputs).length:=List.length_map _
    by_cases hlt:k < (t.inputs).length
    ·have hlt2:(k:Int) < (((t.inputs).map InRow).length:Int):=by omega
     have hsz:=catL_takeS (f:=inT) (l:=t.inputs) (fun x hx=>inT_size (h1 x hx)) k
     have hnx:=catL_take inT (Y0) hlt
     have hfs:=inT_size (h1 _ (List.getElem_mem hlt))
     have hYs:(Y0 ++ catL inT ((t.inputs).take k)).size≤60002000400200+200000:=by rw [ByteArray.size_append]; omega
     generalize Y0 ++ catL inT ((t.inputs).take k)=Z at hYs hnx ⊢
     have gk:=inT_ok (h1 _ (List.getElem_mem hlt))
     obtain ⟨g0,g1,g2⟩:=gk
     have:=name_size g0
     have:=numS_size _ g1.1 g1.2
     have:=numS_size _ g2.1 g2.2
     refine Z6 ?_
     refine Zb (fun hlen=>?_)
     refine jc_anyB 27 none O k_ k_ (yM_ O (yF_ O (yL_ 1 O ?_)))
     refine yM_ O (Zl ?_)
     refine Zw ?_
     refine yF_ O (yL_ 1 O (yM_ O ?_))
     refine Zl ?_
     refine aa_ (fun c=>bm_ O (refNumber_c _ g1) p_) (Zf ?_)
     refine yF_ O (yL_ 1 O (yM_ O (Zl ?_)))
     refine aa_ (fun c=>bm_ O (refNumber_c _ g2) p_) (aa_ (fun c=>ow_strcat rfl O (by simp only [ByteArray.size_append,ba_lit,List.length_cons,List.length_nil];omega) p_) ?_)
     refine Yc ?_
     refine o_ O (ow_appendS 0 O O O O O O O O (by show _+(inT (t.inputs)[k]).size≤_;omega) (fun v1 _=>E_ O (ak_ (Zj ?_))))
     refine jq_againS (i:=(k,v)) (k+1,v1) hlt (by dsimp only; omega) ?_ ?_
     ·dsimp only
      rw [hnx]
      exact WF
     ·exact Wv
    ·have hlt2:¬ (k:Int) < (((t.inputs).map InRow).length:Int):=by omega
     rw [List.take_of_length_le (show (t.inputs).length≤k by omega)]
     refine Z6 ?_
     refine Zh (fun hlen=>?_)
     refine jq_cutS v trivial ?_ ?_
     ·exact WF
     ·exact Wv
   intro vN0 _
   have hS0:=catL_size (f:=inT) (l:=t.inputs) (fun x hx=>inT_size (h1 x hx))
   generalize hE1:Y0 ++ catL inT (t.inputs)=Y1 at *
   have hY1:Y1.size≤60002000600200:=by rw [← hE1,ByteArray.size_append]; omega
   clear hS0 hY0
   refine am_ (jc_cut (ι:=Value) [] (fun _=>True) (fun v=>(5,.cell (.val v)) :: [(1,.cell (.val (.pointer (some ⟨bx,0,none⟩)))),(9,In .i64 (kt:Int)),(10,.cell (.val (.pointer (some ⟨bl,0,none⟩))))]) (fun v=>[Bw v (Y1 ++ catL vaT (t.vars)),.blk bl 39 t.row,.blk bx 31 p.row]) ?_ ?_)
   ·refine R_ (E_ O (T_ (au_ ?_)))
    refine jc_loopS (ι:=Nat × Value) [] (fun i=>i.1≤(t.vars).length) (fun i=>(12,In .i64 (i.1:Int)) :: (5,.cell (.val i.2)) :: [(1,.cell (.val (.pointer (some ⟨bx,0,none⟩)))),(9,In .i64 (kt:Int)),(10,.cell (.val (.pointer (some ⟨bl,0,none⟩))))]) (fun i=>[Bw i.2 (Y1 ++ catL vaT ((t.vars).take i.1)),.blk bl 39 t.row,.blk bx 31 p.row]) (fun i=>(t.vars).length - i.1) (0,vN0) (Nat.zero_le _) ?_ ?_ ?_
    ·rw [show Y1 ++ catL vaT ((t.vars).take 0)=Y1 by rw [List.take_zero,catL,ba_nil]]
     exact WF
    ·exact Wv
    rintro ⟨k,v⟩ hk
    dsimp only at hk ⊢
    have eL:((t.vars).map Wrow).length=(t.vars).length:=List.length_map _
    by_cases hlt:k < (t.vars).length
    ·have hlt2:(k:Int) < (((t.vars).map Wrow).length:Int):=by omega
     have hsz:=catL_takeS (f:=vaT) (l:=t.vars) (fun x hx=>vaT_size (h2 x hx)) k
     have hnx:=catL_take vaT (Y1) hlt
     have hfs:=vaT_size (h2 _ (List.getElem_mem hlt))
     have hYs:(Y1 ++ catL vaT ((t.vars).take k)).size≤60002000600200+200000:=by rw [ByteArray.size_append]; omega
     generalize Y1 ++ catL vaT ((t.vars).take k)=Z at hYs hnx ⊢
     have gk:=vaT_ok (h2 _ (List.getElem_mem hlt))
     have g0:=gk
     have:=name_size g0
     refine Z6 ?_
     refine Zb (fun hlen=>?_)
     refine an_ (M_ O (F_ O (L_ 1 O ?_)))
     refine M_ O (ZI ?_)
     refine cb_ O O (Yp ?_)
     refine Wi ?_
     refine o_ O (ow_appendS 0 O O O O O O O O (by show _+(vaT (t.vars)[k]).size≤_;omega) (fun v1 _=>?_))
     refine E_ O (ak_ (Zj ?_))
     refine jq_againS (i:=(k,v)) (k+1,v1) hlt (by dsimp only; omega) ?_ ?_
     ·dsimp only
      rw [hnx]
      exact WF
     ·exact Wv
    ·have hlt2:¬ (k:Int) < (((t.vars).map Wrow).length:Int):=by omega
     rw [List.take_of_length_le (show (t.vars).length≤k by omega)]
     refine Z6 ?_
     refine Zh (fun hlen=>?_)
     refine jq_cutS v trivial ?_ ?_
     ·exact WF
     ·exact Wv
   intro vN1 _
   have hS1:=catL_size (f:=vaT) (l:=t.vars) (fun x hx=>vaT_size (h2 x hx))
   generalize hE2:Y1 ++ catL vaT (t.vars)=Y2 at *
   have hY2:Y2.size≤60002000800200:=by rw [← hE2,ByteArray.size_append]; omega
   clear hS1 hY1
   refine am_ (jc_cut (ι:=Value) [] (fun _=>True) (fun v=>(5,.cell (.val v)) :: [(1,.cell (.val (.pointer (some ⟨bx,0,none⟩)))),(9,In .i64 (kt:Int)),(10,.cell (.val (.pointer (some ⟨bl,0,none⟩))))]) (fun v=>[Bw v (Y2 ++ catL arT (t.arrays)),.blk bl 39 t.row,.blk bx 31 p.row]) ?_ ?_)
   ·refine R_ (E_ O (T_ (au_ ?_)))
    refine jc_loopS (ι:=Nat × Value) [] (fun i=>i.1≤(t.arrays).length) (fun i=>(13,In .i64 (i.1:Int)) :: (5,.cell (.val i.2)) :: [(1,.cell (.val (.pointer (some ⟨bx,0,none⟩)))),(9,In .i64 (kt:Int)),(10,.cell (.val (.pointer (some ⟨bl,0,none⟩))))]) (fun i=>[Bw i.2 (Y2 ++ catL arT ((t.arrays).take i.1)),.blk bl 39 t.row,.blk bx 31 p.row]) (fun i=>(t.arrays).length - i.1) (0,vN1) (Nat.zero_le _) ?_ ?_ ?_
    ·rw [show Y2 ++ catL arT ((t.arrays).take 0)=Y2 by rw [List.take_zero,catL,ba_nil]]
     exact WF
    ·exact Wv
    rintro ⟨k,v⟩ hk
    dsimp only at hk ⊢
    have eL:((t.arrays).map ArRow).length=(t.arrays).length:=List.length_map _
    by_cases hlt:k < (t.arrays).length
    ·have hlt2:(k:Int) < (((t.arrays).map ArRow).length:Int):=by omega
     have hsz:=catL_takeS (f:=arT) (l:=t.arrays) (fun x hx=>arT_size (h3 x hx)) k
     have hnx:=catL_take arT (Y2) hlt
     have hfs:=arT_size (h3 _ (List.getElem_mem hlt))
     have hYs:(Y2 ++ catL arT ((t.arrays).take k)).size≤60002000800200+200000:=by rw [ByteArray.size_append]; omega
     generalize Y2 ++ catL arT ((t.arrays).take k)=Z at hYs hnx ⊢
     have gk:=arT_ok (h3 _ (List.getElem_mem hlt))
     obtain ⟨g0,g1⟩:=gk
     have:=name_size g0
     have:=g1.size
     refine Z6 ?_
     refine Zb (fun hlen=>?_)
     refine jc_anyB 18 none O k_ k_ (yM_ O (yF_ O (yL_ 1 O ?_)))
     refine yM_ O (Zl ?_)
     refine Zw ?_
     refine yF_ O (yL_ 1 O (yM_ O ?_))
     refine Zl ?_
     refine aa_ (fun c=>bm_ O (rnumF_c g1) p_) (Zf ?_)
     refine ae_ ?_
     refine afin_none (o_ O (ow_appendS 0 O O O O O O O O (by show _+(arT (t.arrays)[k]).size≤_;omega) (fun v1 _=>E_ O (ak_ (Zj ?_)))))
     refine jq_againS (i:=(k,v)) (k+1,v1) hlt (by dsimp only; omega) ?_ ?_
     ·dsimp only
      rw [hnx]
      exact WF
     ·exact Wv
    ·have hlt2:¬ (k:Int) < (((t.arrays).map ArRow).length:Int):=by omega
     rw [List.take_of_length_le (show (t.arrays).length≤k by omega)]
     refine Z6 ?_
     refine Zh (fun hlen=>?_)
     refine jq_cutS v trivial ?_ ?_
     ·exact WF
     ·exact Wv
   intro vN2 _
   have hS2:=catL_size (f:=arT) (l:=t.arrays) (fun x hx=>arT_size (h3 x hx))
   generalize hE3:Y2 ++ catL arT (t.arrays)=Y3 at *
   have hY3:Y3.size≤60002001000200:=by rw [← hE3,ByteArray.size_append]; omega
   clear hS2 hY2
   refine am_ (jc_cut (ι:=Value) [] (fun _=>True) (fun v=>(5,.cell (.val v)) :: [(1,.cell (.val (.pointer (some ⟨bx,0,none⟩)))),(9,In .i64 (kt:Int)),(10,.cell (.val (.pointer (some ⟨bl,0,none⟩))))]) (fun v=>[Bw v (Y3 ++ catL mdT (t.modes)),.blk bl 39 t.row,.blk bx 31 p.row]) ?_ ?_)
   ·refine R_ (E_ O (T_ (au_ ?_)))
    refine jc_loopS (ι:=Nat × Value) [] (fun i=>i.1≤(t.modes).length) (fun i=>(14,In .i64 (i.1:Int)) :: (5,.cell (.val i.2)) :: [(1,.cell (.val (.pointer (some ⟨bx,0,none⟩)))),(9,In .i64 (kt:Int)),(10,.cell (.val (.pointer (some ⟨bl,0,none⟩))))]) (fun i=>[Bw i.2 (Y3 ++ catL mdT ((t.modes).take i.1)),.blk bl 39 t.row,.blk bx 31 p.row]) (fun i=>(t.modes).length - i.1) (0,vN2) (Nat.zero_le _) ?_ ?_ ?_
    ·rw [show Y3 ++ catL mdT ((t.modes).take 0)=Y3 by rw [List.take_zero,catL,ba_nil]]
     exact WF
    ·exact Wv
    rintro ⟨k,v⟩ hk
    dsimp only at hk ⊢
    have eL:((t.modes).map MdRow).length=(t.modes).length:=List.length_map _
    by_cases hlt:k < (t.modes).length
    ·have hlt2:(k:Int) < (((t.modes).map MdRow).length:Int):=by omega
     have hsz:=catL_takeS (f:=mdT) (l:=t.modes) (fun x hx=>mdT_size (h4 x hx)) k
     have hnx:=catL_take mdT (Y3) hlt
     have hfs:=mdT_size (h4 _ (List.getElem_mem hlt))
     have hYs:(Y3 ++ catL mdT ((t.modes).take k)).size≤60002001000200+200000:=by rw [ByteArray.size_append]; omega
     generalize Y3 ++ catL mdT ((t.modes).take k)=Z at hYs hnx ⊢
     have gk:=mdT_ok (h4 _ (List.getElem_mem hlt))
     obtain ⟨g0,g1,g2,g3⟩:=gk
     have:=name_size g0
     have:=name_size g1
     have:=numS_size _ g2.1 g2.2
     have:=numS_size _ g3.1 g3.2
     refine Z6 ?_
     refine Zb (fun hlen=>?_)
     refine R_ (F_ O (L_ 1 O (M_ O ?_)))
     refine Zm (fun bl=>?_)
     refine jc_anyB 19 none O k_ k_ (yM_ O (yF_ O (yL_ 0 O (Zw ?_))))
     refine yF_ O (yL_ 0 O (Zf ?_))
     refine yF_ O (yL_ 0 O (aa_ (fun c=>bm_ O (refNumber_c _ g2) p_) ?_))
     refine Zf ?_
     refine yF_ O (yL_ 0 O (aa_ (fun c=>bm_ O (refNumber_c _ g3) p_) ?_))
     refine Zf ?_
     refine ae_ (afin_none (o_ O (ow_appendS 1 O O O O O O O O (by show _+(mdT (t.modes)[k]).size≤_;omega) (fun v1 _=>E_ O (ak_ (ay_ (al_ ?_)))))))
     refine an_ (YM ?_)
     refine jq_againS (i:=(k,v)) (k+1,v1) hlt (by dsimp only; omega) ?_ ?_
     ·dsimp only
      rw [hnx]
      exact bc_ 0 O (bc_ 1 O (bc_ 1 O sub_end))
     ·exact Wv
    ·have hlt2:¬ (k:Int) < (((t.modes).map MdRow).length:Int):=by omega
     rw [List.take_of_length_le (show (t.modes).length≤k by omega)]
     refine Z6 ?_
     refine Zh (fun hlen=>?_)
     refine jq_cutS v trivial ?_ ?_
     ·exact WF
     ·exact Wv
   intro vN3 _
   have hS3:=catL_size (f:=mdT) (l:=t.modes) (fun x hx=>mdT_size (h4 x hx))
   generalize hE4:Y3 ++ catL mdT (t.modes)=Y4 at *
   have hY4:Y4.size≤60002001200200:=by rw [← hE4,ByteArray.size_append]; omega
   clear hS3 hY3
   refine am_ (jc_cut (ι:=Value) [] (fun _=>True) (fun v=>(5,.cell (.val v)) :: [(1,.cell (.val (.pointer (some ⟨bx,0,none⟩)))),(9,In .i64 (kt:Int)),(10,.cell (.val (.pointer (some ⟨bl,0,none⟩))))]) (fun v=>[Bw v (Y4 ++ catL clT (t.claims)),.blk bl 39 t.row,.blk bx 31 p.row]) ?_ ?_)
   ·refine R_ (E_ O (T_ (au_ ?_)))
    refine jc_loopS (ι:=Nat × Value) [] (fun i=>i.1≤(t.claims).length) (fun i=>(16,In .i64 (i.1:Int)) :: (5,.cell (.val i.2)) :: [(1,.cell (.val (.pointer (some ⟨bx,0,none⟩)))),(9,In .i64 (kt:Int)),(10,.cell (.val (.pointer (some ⟨bl,0,none⟩))))]) (fun i=>[Bw i.2 (Y4 ++ catL clT ((t.claims).take i.1)),.blk bl 39 t.row,.blk bx 31 p.row]) (fun i=>(t.claims).length - i.1) (0,vN3) (Nat.zero_le _) ?_ ?_ ?_
    ·rw [show Y4 ++ catL clT ((t.claims).take 0)=Y4 by rw [List.take_zero,catL,ba_nil]]
     exact WF
    ·exact Wv
    rintro ⟨k,v⟩ hk
    dsimp only at hk ⊢
    have eL:((t.claims).map ClRow).length=(t.claims).length:=List.length_map _
    by_cases hlt:k < (t.claims).length
    ·have hlt2:(k:Int) < (((t.claims).map ClRow).length:Int):=by omega
     have hsz:=catL_takeS (f:=clT) (l:=t.claims) (fun x hx=>clT_size (h5 x hx)) k
     have hnx:=catL_take clT (Y4) hlt
     have hfs:=clT_size (h5 _ (List.getElem_mem hlt))
     have hYs:(Y4 ++ catL clT ((t.claims).take k)).size≤60002001200200+200000:=by rw [ByteArray.size_append]; omega
     generalize Y4 ++ catL clT ((t.claims).take k)=Z at hYs hnx ⊢
     have gk:=clT_ok (h5 _ (List.getElem_mem hlt))
     obtain ⟨g0,g1⟩:=gk
     have:=g0.size
     have:=g1.size
     refine Z6 ?_
     refine Zb (fun hlen=>?_)
     refine jc_anyB 19 none O k_ k_ (yM_ O (yF_ O (yL_ 1 O ?_)))
     refine yM_ O (Zl ?_)
     refine aa_ (fun c=>bm_ O (rnumF_c g0) p_) (Zw ?_)
     refine yF_ O (yL_ 1 O (yM_ O (Zl ?_)))
     refine aa_ (fun c=>bm_ O (rnumF_c g1) p_) (aa_ (fun c=>ow_strcat rfl O (by simp only [ByteArray.size_append,ba_lit,List.length_cons,List.length_nil];omega) p_) ?_)
     refine Yc ?_
     refine o_ O (ow_appendS 0 O O O O O O O O (by show _+(clT (t.claims)[k]).size≤_;omega) (fun v1 _=>E_ O (ak_ (Zj ?_))))
     refine jq_againS (i:=(k,v)) (k+1,v1) hlt (by dsimp only; omega) ?_ ?_
     ·dsimp only
      rw [hnx]
      exact WF
     ·exact Wv
    ·have hlt2:¬ (k:Int) < (((t.claims).map ClRow).length:Int):=by omega
     rw [List.take_of_length_le (show (t.claims).length≤k by omega)]
     refine Z6 ?_
     refine Zh (fun hlen=>?_)
     refine jq_cutS v trivial ?_ ?_
     ·exact WF
     ·exact Wv
   intro vN4 _
   have hS4:=catL_size (f:=clT) (l:=t.claims) (fun x hx=>clT_size (h5 x hx))
   generalize hE5:Y4 ++ catL clT (t.claims)=Y5 at *
   have hY5:Y5.size≤60002001400200:=by rw [← hE5,ByteArray.size_append]; omega
   clear hS4 hY4
   have hfine:=fine_of 8 20 t.body (by omega) hb hdt
   have hbs:=sts_size (sp:=Ksp) hfine (by show 2+2 * 8≤100; omega)
   have hX1:(Y5 ++ (⟨#[98,111,100,121,10]⟩:ByteArray)).size=Y5.size+5:=by rw [ByteArray.size_append]; rfl
   have con1:=fun v=>rbody_c 8 t.body Ksp (Y5 ++ (⟨#[98,111,100,121,10]⟩:ByteArray)) v hfine (by show 2+2 * 8≤100; omega) (by omega)
   have hX3:((Y5 ++ (⟨#[98,111,100,121,10]⟩:ByteArray)) ++ stsT Ksp t.body).size=(Y5 ++ (⟨#[98,111,100,121,10]⟩:ByteArray)).size+(stsT Ksp t.body).size:=ByteArray.size_append ..
   refine R_ (M_ O (o_ O (ow_appendS 0 O O O O O O O O (by simp only [ba_lit,List.length_cons,List.length_nil];omega) (fun v1 _=>E_ O (T_ (R_ (M_ O (F_ O (L_ 1 O (o_ O (bt_ [0] O O (con1 _) (fun pp hpp=>E_ O (T_ (an_ (M_ O (o_ O (ow_appendS 0 O O O O O O O O (by simp only [ba_lit,List.length_cons,List.length_nil];omega) (fun v1 _=>E_ O ?_))))))))))))))))))
   refine ak_ (Zj ?_)
   refine jq_againS (i:=(kt,v)) (kt+1,v1) hltt (by dsimp only; omega) ?_ ?_
   ·dsimp only
    rw [hnx,show Z0 ++ tkT t=((Y5 ++ (⟨#[98,111,100,121,10]⟩:ByteArray)) ++ stsT Ksp t.body) ++ (⟨#[101,110,100,10]⟩:ByteArray) by rw [← hE5,← hE4,← hE3,← hE2,← hE1,← hE0]; simp only [tkT,ByteArray.append_assoc]]
    exact bc_ 0 O (bc_ 1 O sub_end)
   ·exact Wv
  ·have hlt2:¬ (kt:Int) < ((p.tasks.map Tk.row).length:Int):=by omega
   rw [List.take_of_length_le (show p.tasks.length≤kt by omega)]
   refine Z6 ?_
   refine Zh (fun hlen=>?_)
   refine jq_cutS v trivial ?_ ?_
   ·exact Ww
   ·exact Wv
 intro vC _
 have hprog:X2 ++ catL tkT p.tasks=progT p:=by rw [← hX2]; rfl
 rw [hprog]
 have hPs:(progT p).size≤60002000400000:=by
  have h1:=catL_size (f:=tkT) htz
  have:p.tasks.length * 60002000000≤1000 * 60002000000:=Nat.mul_le_mul_right _ zl
  rw [← hprog,ByteArray.size_append]; omega
 have ePn:((bytesI (progT p)).map Brow).length=(progT p).size:=by rw [List.length_map,bytesI_len]
 have e0:progF p=if 8192 < (progT p).size then (⟨#[]⟩,4) else (progT p,0):=by unfold progF; rw [if_neg hokb,if_neg (by rw [hdeep]; simp)]
 by_cases hbig:8192 < (progT p).size
 ·have hbig2:(8192:Int) < (((bytesI (progT p)).map Brow).length:Int):=by omega
  rw [if_pos hbig] at e0
  refine am_ (R_ (M_ O (o_ O (cw_ 0 O O (fun hlen=>o_ O (bz_ O O (T_ (aq_ O u_ (R_ (E_ O (E_ O (T_ (ar_ (aw_ (jq_ret2 O O O [] O (fun K h=>by rw [e0] at h; exact h))))))))))))))))
 ·have hbig2:¬ (8192:Int) < (((bytesI (progT p)).map Brow).length:Int):=by omega
  rw [if_neg hbig] at e0
  refine am_ (R_ (M_ O (o_ O (cw_ 0 O O (fun hlen=>Wr ?_)))))
  refine al_ (R_ (M_ O (jl_freeze 264 0 O O (by rw [hc]; simp [hb]) (o_ O (ow_bytesToString O O O ?_)))))
  rw [bytesOf_bytesI]
  refine E_ O (E_ O (T_ (ar_ (jq_ret2 O O O [] O (fun K h=>by rw [e0] at h; exact h)))))
end Go.Proofs.YtalkkcfojplmdaaGreatDoor
end