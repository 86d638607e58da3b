import Derived.Test.YtalkkcfojplmdaaGreatDoorMy3
import Derived.Test.YtalkkcfojplmdaaGreatDoorProg
import Derived.Shelf.Strconv.Itoa3
import Derived.Lib.ItoaLen
section
namespace Go.Proofs.YtalkkcfojplmdaaGreatDoor
open Go.Vc
attribute [local irreducible] JL JC JQ OpWp Con ConN
attribute [local irreducible] byteAt runLen isL isD isName hasW
set_option maxHeartbeats 4000000
def nameB (s:ByteArray):Bool:=isName s && !hasW s
def smallB (n:Int):Bool:=decide (-2147483648 < n) && decide (n < 2147483648)
def plainB (n:Int):Bool:=decide (0≤n) && decide (n < 2147483648)
def shpF:Nat→T→Bool
 | 0,_=>true
 | F+1,t=>match t with
  | .nu n=>smallB n
  | .nm s=>nameB s
  | .ix s x=>nameB s && shpF F x
  | .bn o a b=>decide (1≤o) && decide (o≤14) && shpF F a && shpF F b
def oneB:List T→Bool
 | [x]=>shpF 20 x
 | _=>false
def okOne (rec:List Sm→Bool) (s:Sm):Bool :=
 if s.kind=1 then nameB s.name && decide (s.index.length=0) && oneB s.value && decide (s.max=0) && decide (s.label=0) && decide (s.thn.length=0) && decide (s.els.length=0)
 else if s.kind=2 then nameB s.name && oneB s.index && oneB s.value && decide (s.max=0) && decide (s.label=0) && decide (s.thn.length=0) && decide (s.els.length=0)
 else if s.kind=3 then decide (s.name=⟨#[]⟩) && decide (s.index.length=0) && oneB s.value && decide (s.max=0) && plainB s.label && rec s.thn && rec s.els
 else if s.kind=4 then decide (s.name=⟨#[]⟩) && decide (s.index.length=0) && oneB s.value && plainB s.max && plainB s.label && rec s.thn && decide (s.els.length=0)
 else if s.kind=5 then nameB s.name && decide (s.index.length=0) && decide (s.value.length=0) && decide (s.max=0) && decide (s.label=0) && rec s.thn && decide (s.els.length=0)
 else false
def okSs:Nat→List Sm→Bool
 | 0,_=>true
 | F+1,l=>l.all (okOne (okSs F))
theorem rnameB_c (s:ByteArray):Con Tryz.prog 197 [Str s] [] (fun K=>K (Bl (nameB s)) []):=by
 refine con_intro Tryz.func197 O O b_ (fun c hc=>R_ (YX ?_))
 refine bm_ O (rName_c _) (M_ O (jl_and 3 2 O O O O (nb O) ?_))
 apply Exists.intro
 refine ⟨fun hb1=>?_,?_⟩
 refine Z8 ?_
 exact bm_ O (RKeyword_c _) (ah_ O h_ b_ (cd_ O (ak_ (jq_seg 3 O O O (List.Perm.refl _)))))
 refine E_ O (T_ (ar_ (jq_ret1 O O [] O (fun K h=>h))))
theorem rsmallB_c (n:Int):Con Tryz.prog 238 [In .i64 n] [] (fun K=>K (Bl (smallB n)) []):=by
 refine con_intro Tryz.func238 O O b_ (fun c hc=>R_ (YX ?_))
 refine bz_ O O (M_ O (jl_and 2 2 O O O O (nb O) ?_))
 apply Exists.intro
 refine ⟨fun hb1=>?_,?_⟩
 refine Z8 ?_
 exact bw_ O O (ak_ (jq_seg 2 O O O (List.Perm.refl _)))
 refine E_ O (T_ (ar_ (jq_ret1 O O [] O (fun K h=>h))))
theorem rplainB_c (n:Int):Con Tryz.prog 198 [In .i64 n] [] (fun K=>K (Bl (plainB n)) []):=by
 refine con_intro Tryz.func198 O O b_ (fun c hc=>R_ (YX ?_))
 refine cn_ O O (M_ O (jl_and 2 2 O O O O (nb O) ?_))
 apply Exists.intro
 refine ⟨fun hb1=>?_,?_⟩
 refine Z8 ?_
 exact bw_ O O (ak_ (jq_seg 2 O O O (List.Perm.refl _)))
 refine E_ O (T_ (ar_ (jq_ret1 O O [] O (fun K h=>h))))
theorem rshapedB_c:∀ (F:Nat) (t:T),F≤20→Con Tryz.prog 260 [.row t.row',In .i64 (21 - (F:Int))] [] (fun K=>K (Bl (shpF F t)) []):=by
 intro F
 induction F with
 | zero =>
  intro t _
  refine con_intro Tryz.func260 O O b_ (fun c hc=>ZD (fun bx=>?_))
  refine M_ O (o_ O (bz_ O O (ZK ?_)))
  refine aw_ ?_
  refine jq_ret1 O O [] O (fun K h=>h)
 | succ F ih =>
  intro t hF
  have hF1:(21 - ((F+1:Nat):Int)+1)=21 - (F:Int):=by omega
  have hF2:¬ 20 < (21 - ((F+1:Nat):Int)):=by omega
  have hF3:0≤(21 - ((F+1:Nat):Int))∧(21 - ((F+1:Nat):Int))≤20:=by omega
  generalize (21 - ((F+1:Nat):Int))=d at hF1 hF2 hF3 ⊢
  cases t with
  | nu n =>
   refine con_intro Tryz.func260 O O b_ (fun c hc=>ZD (fun bx=>?_))
   refine YD ?_
   refine L_ 0 O (T_ (au_ (Zu ?_)))
   refine aq_ O x_ (Yh ?_)
   refine bm_ O (rsmallB_c _) (M_ O (jl_and 3 3 O O O O (nb O) ?_))
   apply Exists.intro
   refine ⟨fun hb1=>?_,?_⟩
   refine Za ?_
   exact cs_ O O (ak_ (jq_seg 3 O O O (List.Perm.refl _)))
   refine M_ O (jl_and 3 8 O O O O (nb O) ?_)
   apply Exists.intro
   refine ⟨fun hb1=>?_,?_⟩
   refine Za ?_
   exact Wz
   refine M_ O (jl_and 4 13 O O O O (nb O) ?_)
   apply Exists.intro
   refine ⟨fun hb1=>?_,?_⟩
   refine Za ?_
   refine YH (fun hlen=>?_)
   exact WA
   refine E_ O (T_ (ar_ (az_ (aw_ (jq_bl 4 O (b':=smallB n) ?_ ?_)))))
   ·simp [T.num,T.name,T.op,T.args]
   refine jq_ret1 O O [] O (fun K h=>h)
  | nm s =>
   refine con_intro Tryz.func260 O O b_ (fun c hc=>ZD (fun bx=>?_))
   refine YD ?_
   refine L_ 0 O (T_ (au_ (Zu ?_)))
   refine ap_ O O (Zu ?_)
   refine aq_ O x_ (R_ (F_ O (L_ 0 O ?_)))
   refine o_ O (bm_ O (rnameB_c _) (M_ O (jl_and 3 3 O O O O (nb O) ?_)))
   apply Exists.intro
   refine ⟨fun hb1=>?_,?_⟩
   refine Za ?_
   exact Wz
   refine M_ O (jl_and 3 8 O O O O (nb O) ?_)
   apply Exists.intro
   refine ⟨fun hb1=>?_,?_⟩
   refine Za ?_
   exact Wz
   refine M_ O (jl_and 4 13 O O O O (nb O) ?_)
   apply Exists.intro
   refine ⟨fun hb1=>?_,?_⟩
   refine Za ?_
   refine YH (fun hlen=>?_)
   exact WA
   refine E_ O (T_ (ar_ (az_ (aw_ (jq_bl 4 O (b':=nameB s) ?_ ?_)))))
   ·simp [T.num,T.name,T.op,T.args]
   refine jq_ret1 O O [] O (fun K h=>h)
  | ix s t =>
   have hI:=ih t (by omega)
   rw [← hF1] at hI
   have e1:[t].length=1:=rfl
   show Con _ _ [.row [.val (.int .i64 3),.val (.int .i64 0),.val (.string s),.val (.int .i64 0),.list ([t].map T.row)],In .i64 d] [] _
   refine con_intro Tryz.func260 O O b_ (fun c hc=>ZD (fun bx=>?_))
   refine YD ?_
   refine L_ 0 O (T_ (au_ (Zu ?_)))
   refine ap_ O O (Zu ?_)
   refine ap_ O O (R_ (o_ O (bn_ O O (E_ O ?_))))
   refine T_ (aq_ O x_ (Yh ?_))
   refine bm_ O (rnameB_c _) (M_ O (jl_and 3 3 O O O O (nb O) ?_))
   apply Exists.intro
   refine ⟨fun hb1=>?_,?_⟩
   refine Za ?_
   exact Wz
   refine M_ O (jl_and 3 8 O O O O (nb O) ?_)
   apply Exists.intro
   refine ⟨fun hb1=>?_,?_⟩
   refine Za ?_
   exact Wz
   refine M_ O (jl_and 4 13 O O O O (nb O) ?_)
   apply Exists.intro
   refine ⟨fun hb1=>?_,?_⟩
   refine Za ?_
   refine YH (fun hlen=>?_)
   exact WA
   refine M_ O (jl_and 7 19 O O O O (nb O) ?_)
   apply Exists.intro
   refine ⟨fun hb1=>?_,?_⟩
   refine Za ?_
   refine cv_ O O g_ g_ (T.row_eq _) O b_ (ah_ O h_ b_ (cr_ O O O (Z8 ?_)))
   exact bj_ O O g_ (ah_ O h_ b_ (bm_ O (hI) (ak_ (jq_seg 7 O O O (List.Perm.refl _)))))
   refine E_ O (T_ (ar_ (az_ (aw_ (jq_bl 4 O (b':=nameB s && shpF F t) ?_ ?_)))))
   ·simp
   refine jq_ret1 O O [] O (fun K h=>h)
  | bn o a b =>
   have h1:=ih a (by omega)
   have h2:=ih b (by omega)
   rw [← hF1] at h1 h2
   have e1:[a,b].length=2:=rfl
   show Con _ _ [.row [.val (.int .i64 4),.val (.int .i64 0),.val (.string ⟨#[]⟩),.val (.int .i64 o),.list ([a,b].map T.row)],In .i64 d] [] _
   refine con_intro Tryz.func260 O O b_ (fun c hc=>ZD (fun bx=>?_))
   refine YD ?_
   refine L_ 0 O (T_ (au_ (Zu ?_)))
   refine ap_ O O (Zu ?_)
   refine ap_ O O (R_ (o_ O (bn_ O O (E_ O ?_))))
   refine T_ (ap_ O O (Zu ?_))
   refine aq_ O x_ (Yh ?_)
   refine cs_ O O (M_ O (Ze ?_))
   refine bn_ O O (o_ O (bp_ O x_ O ?_))
   refine M_ O (Ze ?_)
   refine cn_ O O (o_ O (bp_ O x_ O (M_ O (jl_and 3 13 O O O O (nb O) ?_))))
   apply Exists.intro
   refine ⟨fun hb1=>?_,?_⟩
   refine Za ?_
   exact cu_ O O (ak_ (jq_seg 3 O O O (List.Perm.refl _)))
   refine M_ O (jl_and 4 18 O O O O (nb O) ?_)
   apply Exists.intro
   refine ⟨fun hb1=>?_,?_⟩
   refine Za ?_
   refine YH (fun hlen=>?_)
   exact WA
   refine M_ O (jl_and 7 24 O O O O (nb O) ?_)
   apply Exists.intro
   refine ⟨fun hb1=>?_,?_⟩
   refine Za ?_
   refine cv_ O O g_ g_ (T.row_eq _) O b_ (ah_ O h_ b_ (cr_ O O O (Z8 ?_)))
   exact bj_ O O g_ (ah_ O h_ b_ (bm_ O (h1) (ak_ (jq_seg 7 O O O (List.Perm.refl _)))))
   refine M_ O (jl_and 7 33 O O O O (nb O) ?_)
   apply Exists.intro
   refine ⟨fun hb1=>?_,?_⟩
   refine Za ?_
   refine cv_ O O g_ g_ (T.row_eq _) O b_ (ah_ O h_ b_ (cr_ O O O (Z8 ?_)))
   exact bj_ O O g_ (ah_ O h_ b_ (bm_ O (h2) (ak_ (jq_seg 7 O O O (List.Perm.refl _)))))
   refine E_ O (T_ (ar_ (az_ (aw_ (jq_bl 4 O (b':=decide (1≤o) && decide (o≤14) && shpF F a && shpF F b) ?_ ?_)))))
   ·simp
   refine jq_ret1 O O [] O (fun K h=>h)
end Go.Proofs.YtalkkcfojplmdaaGreatDoor
end
section
namespace Go.Proofs.YtalkkcfojplmdaaGreatDoor
open Go.Vc
attribute [local irreducible] JL JC JQ OpWp Con ConN
attribute [local irreducible] byteAt runLen isL isD isName hasW nameB smallB plainB shpF
set_option maxHeartbeats 4000000
theorem roneB_c (l:List T):Con Tryz.prog 253 [.cell (.list (l.map T.row))] [] (fun K=>K (Bl (oneB l)) []):=by
 match l with
 | [] =>
  refine con_intro Tryz.func253 O O b_ (fun c hc=>?_)
  have e1:([]:List T).length=0:=rfl
  refine R_ (YX ?_)
  refine br_ O (fun hlen=>o_ O (bn_ O O (M_ O (Zd ?_))))
  refine o_ O (bv_ O O O (E_ O (T_ (ar_ ?_))))
  refine jq_ret1 O O [] O (fun K h=>h)
 | [x] =>
  have e1:[x].length=1:=rfl
  have h1:=rshapedB_c 20 x (by omega)
  refine con_intro Tryz.func253 O O b_ (fun c hc=>R_ (YX ?_))
  refine br_ O (fun hlen=>o_ O (bn_ O O (M_ O (Zs ?_))))
  refine cv_ O O g_ g_ (T.row_eq _) O b_ (ah_ O O b_ (cr_ O O O (ah_ O O b_ (bm_ O (h1) (o_ O (bp_ O x_ O (E_ O (T_ ?_))))))))
  refine ar_ (jq_ret1 O O [] O (fun K h=>h))
 | x :: y :: r =>
  have e1:(((x :: y :: r).map T.row).length:Int)≠1:=by simp; omega
  refine con_intro Tryz.func253 O O b_ (fun c hc=>R_ (YX ?_))
  refine br_ O (fun hlen=>o_ O (bn_ O O (M_ O (Zd ?_))))
  refine o_ O (bv_ O O O (E_ O (T_ ?_)))
  refine ar_ (jq_ret1 O O [] O (fun K h=>h))
theorem all_snoc {α:Type} {p:α→Bool} {l:List α} {k:Nat} (h:k < l.length) (h1:(l.take k).all p=true) (h2:p l[k]=true):(l.take (k+1)).all p=true:=by
 rw [List.take_succ_eq_append_getElem h,List.all_append,h1]
 simp [h2]
theorem all_no {α:Type} {p:α→Bool} {l:List α} {k:Nat} (h:k < l.length) (h2:p l[k]=false):l.all p=false:=by
 rw [Bool.eq_false_iff]
 intro h3
 have:=List.all_eq_true.1 h3 l[k] (List.getElem_mem h)
 rw [h2] at this
 cases this
theorem rstmtsB_c:∀ (F:Nat) (l:List Sm),F≤20→Con Tryz.prog 237 [.cell (.list (l.map Sm.row)),In .i64 (21 - (F:Int))] [] (fun K=>K (Bl (okSs F l)) []):=by
 intro F
 induction F with
 | zero =>
  intro l _
  refine con_intro Tryz.func237 O O b_ (fun c hc=>ZO ?_)
  refine jc_loopS (ι:=Unit) [] (fun _=>True) (fun _=>[(0,.cell (.list (l.map Sm.row))),(1,In .i64 (21 - ((0:Nat):Int))),(5,In .i64 0)]) (fun _=>[]) (fun _=>0) () trivial ?_ ?_ ?_
  ·exact sub_end
  ·exact Ww
  intro _ _
  refine Yr (fun hlen=>?_)
  refine M_ O (jl_and 2 4 O O O O (nb O) ?_)
  apply Exists.intro
  refine ⟨fun hb1=>?_,?_⟩
  refine Z8 ?_
  exact cu_ O O (ak_ (jq_seg 2 O O O (List.Perm.refl _)))
  refine T_ (jc_cond O (fun h=>by simp at h) (fun _=>av_ (ax_ (ax_ (ba_ (al_ (R_ (E_ O (T_ (ar_ (jq_ret1 O O [] O (fun K h=>h))))))))))))
 | succ F ih =>
  intro l hF
  have hF1:(21 - ((F+1:Nat):Int)+1)=21 - (F:Int):=by omega
  have hF3:0≤(21 - ((F+1:Nat):Int))∧(21 - ((F+1:Nat):Int))≤20:=by omega
  generalize (21 - ((F+1:Nat):Int))=d at hF1 hF3 ⊢
  have hI:=fun m=>ih m (by omega)
  rw [← hF1] at hI
  clear ih
  have eL:(l.map Sm.row).length=l.length:=List.length_map _
  refine con_intro Tryz.func237 O O b_ (fun c hc=>ZO ?_)
  refine jc_loopS (ι:=Nat) [] (fun k=>k≤l.length∧(l.take k).all (okOne (okSs F))=true) (fun k=>[(0,.cell (.list (l.map Sm.row))),(1,In .i64 d),(5,In .i64 (k:Int))]) (fun _=>[]) (fun k=>l.length - k) 0 ⟨Nat.zero_le _,rfl⟩ ?_ ?_ ?_
  ·exact sub_end
  ·exact Ww
  rintro k ⟨hk,hall⟩
  by_cases hlt:k < l.length
  ·have hlt2:(k:Int) < ((l.map Sm.row).length:Int):=by omega
   have hd20:d≤20:=hF3.2
   refine Yr (fun hlen=>?_)
   refine M_ O (Yq ?_)
   refine cu_ O O (o_ O (bp_ O u_ O (T_ (aq_ O u_ (as_ (al_ (B_ (R_ ?_))))))))
   refine M_ O (M_ O (Zq ?_))
   refine Yt (fun bl=>?_)
   refine R_ (E_ O (T_ (am_ (jc_cut (ι:=Unit) [] (fun _=>True) (fun _=>(7,Bl (okOne (okSs F) l[k])) :: [(0,.cell (.list (l.map Sm.row))),(1,In .i64 d),(5,In .i64 (k:Int))]) (fun _=>[.blk bl 66 (l[k]).row']) ?_ ?_))))
   ·have eI:(l[k].index.map T.row).length=l[k].index.length:=List.length_map _
    have eV:(l[k].value.map T.row).length=l[k].value.length:=List.length_map _
    by_cases h1:l[k].kind=1
    ·refine YB ?_
     refine Zu ?_
     refine aq_ O u_ (an_ (F_ O (L_ 0 O (o_ O (bm_ O (rnameB_c _) (M_ O (jl_and 4 3 O O O O (nb O) ?_)))))))
     apply Exists.intro
     refine ⟨fun hb1=>?_,?_⟩
     refine Za ?_
     refine YH (fun hlen=>?_)
     exact WA
     refine M_ O (jl_and 3 9 O O O O (nb O) ?_)
     apply Exists.intro
     refine ⟨fun hb1=>?_,?_⟩
     refine Za ?_
     exact WB
     refine M_ O (jl_and 3 14 O O O O (nb O) ?_)
     apply Exists.intro
     refine ⟨fun hb1=>?_,?_⟩
     refine Za ?_
     exact Wz
     refine M_ O (jl_and 3 19 O O O O (nb O) ?_)
     apply Exists.intro
     refine ⟨fun hb1=>?_,?_⟩
     refine Za ?_
     exact Wz
     refine M_ O (jl_and 4 24 O O O O (nb O) ?_)
     apply Exists.intro
     refine ⟨fun hb1=>?_,?_⟩
     refine Za ?_
     refine YH (fun hlen=>?_)
     exact WA
     refine M_ O (jl_and 4 30 O O O O (nb O) ?_)
     apply Exists.intro
     refine ⟨fun hb1=>?_,?_⟩
     refine Za ?_
     refine YH (fun hlen=>?_)
     exact WA
     refine E_ O (ak_ (ay_ (jq_bl 7 O (b':=okOne (okSs F) l[k]) (by simp [okOne,h1]) (jq_cutS () trivial ?_ ?_))))
     ·exact Wy
     ·exact Ww
    by_cases h2:l[k].kind=2
    ·refine YB ?_
     refine Zc ?_
     refine E_ O (T_ (aq_ O u_ (an_ ?_)))
     refine F_ O (L_ 0 O (o_ O (bm_ O (rnameB_c _) (M_ O (jl_and 3 3 O O O O (nb O) ?_)))))
     apply Exists.intro
     refine ⟨fun hb1=>?_,?_⟩
     refine Za ?_
     exact WB
     refine M_ O (jl_and 3 8 O O O O (nb O) ?_)
     apply Exists.intro
     refine ⟨fun hb1=>?_,?_⟩
     refine Za ?_
     exact WB
     refine M_ O (jl_and 3 13 O O O O (nb O) ?_)
     apply Exists.intro
     refine ⟨fun hb1=>?_,?_⟩
     refine Za ?_
     exact Wz
     refine M_ O (jl_and 3 18 O O O O (nb O) ?_)
     apply Exists.intro
     refine ⟨fun hb1=>?_,?_⟩
     refine Za ?_
     exact Wz
     refine M_ O (jl_and 4 23 O O O O (nb O) ?_)
     apply Exists.intro
     refine ⟨fun hb1=>?_,?_⟩
     refine Za ?_
     refine YH (fun hlen=>?_)
     exact WA
     refine M_ O (jl_and 4 29 O O O O (nb O) ?_)
     apply Exists.intro
     refine ⟨fun hb1=>?_,?_⟩
     refine Za ?_
     refine YH (fun hlen=>?_)
     exact WA
     refine E_ O (ak_ (ay_ (jq_bl 7 O (b':=okOne (okSs F) l[k]) (by simp [okOne,h2]) (jq_cutS () trivial ?_ ?_))))
     ·exact Wy
     ·exact Ww
    by_cases h3:l[k].kind=3
    ·refine YB ?_
     refine Zc ?_
     refine E_ O (T_ (ap_ O w_ (R_ ?_)))
     refine o_ O (bn_ O O (E_ O (T_ (aq_ O u_ (an_ (F_ O (L_ 0 O (o_ O (cs_ O O (M_ O (jl_and 4 3 O O O O (nb O) ?_)))))))))))
     apply Exists.intro
     refine ⟨fun hb1=>?_,?_⟩
     refine Za ?_
     refine YH (fun hlen=>?_)
     exact WA
     refine M_ O (jl_and 3 9 O O O O (nb O) ?_)
     apply Exists.intro
     refine ⟨fun hb1=>?_,?_⟩
     refine Za ?_
     exact WB
     refine M_ O (jl_and 3 14 O O O O (nb O) ?_)
     apply Exists.intro
     refine ⟨fun hb1=>?_,?_⟩
     refine Za ?_
     exact Wz
     refine M_ O (jl_and 3 19 O O O O (nb O) ?_)
     apply Exists.intro
     refine ⟨fun hb1=>?_,?_⟩
     refine Za ?_
     exact bm_ O (rplainB_c _) (ak_ (jq_seg 3 O O O (List.Perm.refl _)))
     refine M_ O (jl_and 5 24 O O O O (nb O) ?_)
     apply Exists.intro
     refine ⟨fun hb1=>?_,?_⟩
     refine Za ?_
     refine Wi ?_
     exact WC
     refine M_ O (jl_and 5 31 O O O O (nb O) ?_)
     apply Exists.intro
     refine ⟨fun hb1=>?_,?_⟩
     refine Za ?_
     refine Wi ?_
     exact WC
     refine E_ O (ak_ (ay_ (jq_bl 7 O (b':=okOne (okSs F) l[k]) (by simp [okOne,h3]) (jq_cutS () trivial ?_ ?_))))
     ·exact Wy
     ·exact Ww
    by_cases h4:l[k].kind=4
    ·refine YB ?_
     refine Zc ?_
     refine E_ O (T_ (ap_ O w_ (R_ ?_)))
     refine o_ O (bn_ O O (E_ O (T_ (ap_ O w_ (Zu ?_)))))
     refine aq_ O u_ (an_ (F_ O (L_ 0 O (o_ O (cs_ O O (M_ O (jl_and 4 3 O O O O (nb O) ?_)))))))
     apply Exists.intro
     refine ⟨fun hb1=>?_,?_⟩
     refine Za ?_
     refine YH (fun hlen=>?_)
     exact WA
     refine M_ O (jl_and 3 9 O O O O (nb O) ?_)
     apply Exists.intro
     refine ⟨fun hb1=>?_,?_⟩
     refine Za ?_
     exact WB
     refine M_ O (jl_and 3 14 O O O O (nb O) ?_)
     apply Exists.intro
     refine ⟨fun hb1=>?_,?_⟩
     refine Za ?_
     exact bm_ O (rplainB_c _) (ak_ (jq_seg 3 O O O (List.Perm.refl _)))
     refine M_ O (jl_and 3 19 O O O O (nb O) ?_)
     apply Exists.intro
     refine ⟨fun hb1=>?_,?_⟩
     refine Za ?_
     exact bm_ O (rplainB_c _) (ak_ (jq_seg 3 O O O (List.Perm.refl _)))
     refine M_ O (jl_and 5 24 O O O O (nb O) ?_)
     apply Exists.intro
     refine ⟨fun hb1=>?_,?_⟩
     refine Za ?_
     refine Wi ?_
     exact WC
     refine M_ O (jl_and 4 31 O O O O (nb O) ?_)
     apply Exists.intro
     refine ⟨fun hb1=>?_,?_⟩
     refine Za ?_
     refine YH (fun hlen=>?_)
     exact WA
     refine E_ O (ak_ (ay_ (jq_bl 7 O (b':=okOne (okSs F) l[k]) (by simp [okOne,h4]) (jq_cutS () trivial ?_ ?_))))
     ·exact Wy
     ·exact Ww
    by_cases h5:l[k].kind=5
    ·refine YB ?_
     refine Zc ?_
     refine E_ O (T_ (ap_ O w_ (R_ ?_)))
     refine o_ O (bn_ O O (E_ O (T_ (ap_ O w_ (Zc ?_)))))
     refine E_ O (T_ (aq_ O u_ (an_ (F_ O ?_))))
     refine L_ 0 O (o_ O (bm_ O (rnameB_c _) (M_ O (jl_and 4 3 O O O O (nb O) ?_))))
     apply Exists.intro
     refine ⟨fun hb1=>?_,?_⟩
     refine Za ?_
     refine YH (fun hlen=>?_)
     exact WA
     refine M_ O (jl_and 4 9 O O O O (nb O) ?_)
     apply Exists.intro
     refine ⟨fun hb1=>?_,?_⟩
     refine Za ?_
     refine YH (fun hlen=>?_)
     exact WA
     refine M_ O (jl_and 3 15 O O O O (nb O) ?_)
     apply Exists.intro
     refine ⟨fun hb1=>?_,?_⟩
     refine Za ?_
     exact Wz
     refine M_ O (jl_and 3 20 O O O O (nb O) ?_)
     apply Exists.intro
     refine ⟨fun hb1=>?_,?_⟩
     refine Za ?_
     exact Wz
     refine M_ O (jl_and 5 25 O O O O (nb O) ?_)
     apply Exists.intro
     refine ⟨fun hb1=>?_,?_⟩
     refine Za ?_
     refine Wi ?_
     exact WC
     refine M_ O (jl_and 4 32 O O O O (nb O) ?_)
     apply Exists.intro
     refine ⟨fun hb1=>?_,?_⟩
     refine Za ?_
     refine YH (fun hlen=>?_)
     exact WA
     refine E_ O (ak_ (ay_ (jq_bl 7 O (b':=okOne (okSs F) l[k]) (by simp [okOne,h5]) (jq_cutS () trivial ?_ ?_))))
     ·exact Wy
     ·exact Ww
    ·refine YB ?_
     refine Zc ?_
     refine E_ O (T_ (ap_ O w_ (R_ ?_)))
     refine o_ O (bn_ O O (E_ O (T_ (ap_ O w_ (Zc ?_)))))
     refine E_ O (T_ (ap_ O w_ (as_ (ay_ ?_))))
     refine jq_bl 7 O (b':=okOne (okSs F) l[k]) (by simp [okOne,h1,h2,h3,h4,h5]) (jq_cutS () trivial ?_ ?_)
     ·exact Wy
     ·exact Ww
   intro _ _
   by_cases hok:okOne (okSs F) l[k]=true
   ·have hokN:(!okOne (okSs F) l[k])=false:=by rw [hok]; rfl
    refine R_ (M_ O (o_ O (cd_ O (T_ (ap_ O h_ (as_ (Zk ?_)))))))
    refine jq_againS (k+1) ⟨hlt,all_snoc hlt hall hok⟩ g_ ?_ ?_
    ·exact sub_end
    ·exact Ww
   ·have hok:okOne (okSs F) l[k]=false:=by simpa using hok
    have hno:okSs (F+1) l=false:=all_no hlt hok
    have hokN:(!okOne (okSs F) l[k])=true:=by rw [hok]; rfl
    refine R_ (M_ O (o_ O (cd_ O (T_ (aq_ O h_ (Zr ?_))))))
    refine aw_ (jq_ret1 O O [] O (fun K h=>by rw [hno] at h; exact h))
  ·have hlt2:¬ (k:Int) < ((l.map Sm.row).length:Int):=by omega
   have hyes:okSs (F+1) l=true:=by rw [List.take_of_length_le (by omega)] at hall; exact hall
   refine Yr (fun hlen=>?_)
   refine M_ O (ai_ O w_ b_ (YA ?_))
   refine T_ (ap_ O O (av_ (ax_ (ax_ (ba_ ?_)))))
   refine al_ (R_ (E_ O (T_ (ar_ (jq_ret1 O O [] O (fun K h=>by rw [hyes] at h; exact h))))))
end Go.Proofs.YtalkkcfojplmdaaGreatDoor
end
section
namespace Go.Proofs.YtalkkcfojplmdaaGreatDoor
open Go.Vc
attribute [local irreducible] JL JC JQ OpWp Con ConN
attribute [local irreducible] byteAt runLen isL isD isName hasW nameB smallB plainB shpF
set_option maxHeartbeats 4000000
def inB (x:Inp):Bool:=nameB x.1 && smallB x.2.1 && smallB x.2.2
def arB (x:Arr):Bool:=nameB x.1 && plainB x.2
def mdB (x:Md):Bool:=nameB x.1 && nameB x.2.1 && smallB x.2.2.1 && smallB x.2.2.2
def clB (x:Clm):Bool:=plainB x.1 && plainB x.2
def shB (x:Shd):Bool:=nameB x.1 && plainB x.2.1 && nameB x.2.2
def hdB (t:Tk):Bool:=nameB t.name && plainB t.period && plainB t.deadline && plainB t.priority && plainB t.jitter
def okTk (t:Tk):Bool:=hdB t && okSs 20 t.body && t.inputs.all inB && t.vars.all nameB && t.arrays.all arB && t.modes.all mdB && t.claims.all clB
def okPg (p:Pg):Bool:=p.res.all nameB && p.shared.all shB && p.tasks.all okTk
theorem rtaskB_c (t:Tk):Con Tryz.prog 199 [.row t.row] [] (fun K=>K (Bl (okTk t)) []):=by
 have hS:=rstmtsB_c 20 t.body (by omega)
 refine con_intro Tryz.func199 O O b_ (fun c hc=>ZD (fun bx=>?_))
 refine F_ O (L_ 0 O (o_ O (bm_ O (rnameB_c _) (o_ O (cd_ O (M_ O (jl_or 4 4 O O O O (nb O) ?_)))))))
 apply Exists.intro
 refine ⟨fun hb1=>?_,?_⟩
 refine Za ?_
 exact WD
 refine M_ O (jl_or 4 10 O O O O (nb O) ?_)
 apply Exists.intro
 refine ⟨fun hb1=>?_,?_⟩
 refine Za ?_
 exact WD
 refine M_ O (jl_or 4 16 O O O O (nb O) ?_)
 apply Exists.intro
 refine ⟨fun hb1=>?_,?_⟩
 refine Za ?_
 exact WD
 refine M_ O (jl_or 4 22 O O O O (nb O) ?_)
 apply Exists.intro
 refine ⟨fun hb1=>?_,?_⟩
 refine Za ?_
 exact WD
 refine M_ O (jl_or 4 28 O O O O (nb O) ?_)
 apply Exists.intro
 refine ⟨fun hb1=>?_,?_⟩
 refine Za ?_
 exact bm_ O (hS) (ah_ O h_ b_ (cd_ O (ak_ (jq_seg 4 O O O (List.Perm.refl _)))))
 refine T_ (jc_cond O (fun hn=>?_) (fun hy=>?_))
 ·have hp:(hdB t && okSs 20 t.body)=false:=by
   cases hcs:(hdB t && okSs 20 t.body) with
   | false=>rfl
   | true =>
    exfalso
    simp only [hdB,Bool.and_eq_true] at hcs
    simp [hcs] at hn
  have hres:okTk t=false:=by unfold okTk; rw [hp]; rfl
  refine R_ (E_ O (T_ (ar_ (aw_ (jq_ret1 O O [] O (fun K h=>by rw [hres] at h; exact h))))))
 have h0:(hdB t && okSs 20 t.body)=true:=by simpa [hdB,and_assoc] using hy
 clear hy
 refine as_ (al_ (am_ (jc_cut (ι:=Unit) [] (fun _=>(t.inputs).all inB=true) (fun _=>[(1,.cell (.val (.pointer (some ⟨bx,0,none⟩))))]) (fun _=>[.blk bx 39 t.row]) ?_ ?_)))
 ·refine R_ (E_ O (T_ (au_ (jc_loopS (ι:=Nat) [] (fun k=>k≤(t.inputs).length∧((t.inputs).take k).all inB=true) (fun k=>(3,In .i64 (k:Int)) :: [(1,.cell (.val (.pointer (some ⟨bx,0,none⟩))))]) (fun _=>[.blk bx 39 t.row]) (fun k=>(t.inputs).length - k) 0 ⟨Nat.zero_le _,rfl⟩ ?_ ?_ ?_))))
  ·exact Wy
  ·exact Ww
  rintro k ⟨hk,hall⟩
  have eL:((t.inputs).map InRow).length=(t.inputs).length:=List.length_map _
  by_cases hlt:k < (t.inputs).length
  ·have hlt2:(k:Int) < (((t.inputs).map InRow).length:Int):=by omega
   refine ZB ?_
   refine Zb (fun hlen=>?_)
   refine Y6 ?_
   refine ZI ?_
   refine Yo ?_
   refine bm_ O (rnameB_c _) (o_ O (cd_ O (M_ O (jl_or 8 8 O O O O (nb O) ?_))))
   apply Exists.intro
   refine ⟨fun hb1=>?_,?_⟩
   refine Za ?_
   refine Yk ?_
   exact bm_ O (rsmallB_c _) (ah_ O h_ b_ (cd_ O (ak_ (jq_seg 8 O O O (List.Perm.refl _)))))
   refine M_ O (jl_or 8 18 O O O O (nb O) ?_)
   apply Exists.intro
   refine ⟨fun hb1=>?_,?_⟩
   refine Za ?_
   refine Yk ?_
   exact bm_ O (rsmallB_c _) (ah_ O h_ b_ (cd_ O (ak_ (jq_seg 8 O O O (List.Perm.refl _)))))
   refine T_ (jc_cond O (fun hn=>?_) (fun hy=>?_))
   ·have hp:inB (t.inputs)[k]=false:=by
     cases hcs:inB (t.inputs)[k] with
     | false=>rfl
     | true =>
      exfalso
      try simp only [inB,Bool.and_eq_true] at hcs
      simp [hcs] at hn
    have hno:(t.inputs).all inB=false:=all_no hlt hp
    have hres:okTk t=false:=by unfold okTk; simp [hno]
    refine Zr ?_
    refine aw_ (jq_ret1 O O [] O (fun K h=>by rw [hres] at h; exact h))
   ·have hp:inB (t.inputs)[k]=true:=by simpa [inB,and_assoc] using hy
    refine as_ (Zk ?_)
    refine jq_againS (k+1) ⟨hlt,all_snoc hlt hall hp⟩ g_ ?_ ?_
    ·exact Wy
    ·exact Ww
  ·have hlt2:¬ (k:Int) < (((t.inputs).map InRow).length:Int):=by omega
   refine ZB ?_
   refine Zh (fun hlen=>?_)
   refine jq_cutS () (by rw [List.take_of_length_le g_] at hall; exact hall) ?_ ?_
   ·exact Wy
   ·exact Ww
 intro _ h1
 refine am_ (jc_cut (ι:=Unit) [] (fun _=>(t.vars).all nameB=true) (fun _=>[(1,.cell (.val (.pointer (some ⟨bx,0,none⟩))))]) (fun _=>[.blk bx 39 t.row]) ?_ ?_)
 ·refine R_ (E_ O (T_ (au_ (jc_loopS (ι:=Nat) [] (fun k=>k≤(t.vars).length∧((t.vars).take k).all nameB=true) (fun k=>(4,In .i64 (k:Int)) :: [(1,.cell (.val (.pointer (some ⟨bx,0,none⟩))))]) (fun _=>[.blk bx 39 t.row]) (fun k=>(t.vars).length - k) 0 ⟨Nat.zero_le _,rfl⟩ ?_ ?_ ?_))))
  ·exact Wy
  ·exact Ww
  rintro k ⟨hk,hall⟩
  have eL:((t.vars).map Wrow).length=(t.vars).length:=List.length_map _
  by_cases hlt:k < (t.vars).length
  ·have hlt2:(k:Int) < (((t.vars).map Wrow).length:Int):=by omega
   refine ZB ?_
   refine Zb (fun hlen=>?_)
   refine Y6 ?_
   refine ZI ?_
   refine cb_ O O (o_ O (bm_ O (rnameB_c _) (o_ O (cd_ O (T_ (jc_cond O (fun hn=>?_) (fun hy=>?_)))))))
   ·have hp:nameB (t.vars)[k]=false:=by
     cases hcs:nameB (t.vars)[k] with
     | false=>rfl
     | true =>
      exfalso
      skip
      simp [hcs] at hn
    have hno:(t.vars).all nameB=false:=all_no hlt hp
    have hres:okTk t=false:=by unfold okTk; simp [hno]
    refine Zr ?_
    refine aw_ (jq_ret1 O O [] O (fun K h=>by rw [hres] at h; exact h))
   ·have hp:nameB (t.vars)[k]=true:=by simpa [and_assoc] using hy
    refine as_ (Zk ?_)
    refine jq_againS (k+1) ⟨hlt,all_snoc hlt hall hp⟩ g_ ?_ ?_
    ·exact Wy
    ·exact Ww
  ·have hlt2:¬ (k:Int) < (((t.vars).map Wrow).length:Int):=by omega
   refine ZB ?_
   refine Zh (fun hlen=>?_)
   refine jq_cutS () (by rw [List.take_of_length_le g_] at hall; exact hall) ?_ ?_
   ·exact Wy
   ·exact Ww
 intro _ h2
 refine am_ (jc_cut (ι:=Unit) [] (fun _=>(t.arrays).all arB=true) (fun _=>[(1,.cell (.val (.pointer (some ⟨bx,0,none⟩))))]) (fun _=>[.blk bx 39 t.row]) ?_ ?_)
 ·refine R_ (E_ O (T_ (au_ (jc_loopS (ι:=Nat) [] (fun k=>k≤(t.arrays).length∧((t.arrays).take k).all arB=true) (fun k=>(5,In .i64 (k:Int)) :: [(1,.cell (.val (.pointer (some ⟨bx,0,none⟩))))]) (fun _=>[.blk bx 39 t.row]) (fun k=>(t.arrays).length - k) 0 ⟨Nat.zero_le _,rfl⟩ ?_ ?_ ?_))))
  ·exact Wy
  ·exact Ww
  rintro k ⟨hk,hall⟩
  have eL:((t.arrays).map ArRow).length=(t.arrays).length:=List.length_map _
  by_cases hlt:k < (t.arrays).length
  ·have hlt2:(k:Int) < (((t.arrays).map ArRow).length:Int):=by omega
   refine ZB ?_
   refine Zb (fun hlen=>?_)
   refine Y6 ?_
   refine ZI ?_
   refine Yo ?_
   refine bm_ O (rnameB_c _) (o_ O (cd_ O (M_ O (jl_or 8 8 O O O O (nb O) ?_))))
   apply Exists.intro
   refine ⟨fun hb1=>?_,?_⟩
   refine Za ?_
   refine Yk ?_
   exact bm_ O (rplainB_c _) (ah_ O h_ b_ (cd_ O (ak_ (jq_seg 8 O O O (List.Perm.refl _)))))
   refine T_ (jc_cond O (fun hn=>?_) (fun hy=>?_))
   ·have hp:arB (t.arrays)[k]=false:=by
     cases hcs:arB (t.arrays)[k] with
     | false=>rfl
     | true =>
      exfalso
      try simp only [arB,Bool.and_eq_true] at hcs
      simp [hcs] at hn
    have hno:(t.arrays).all arB=false:=all_no hlt hp
    have hres:okTk t=false:=by unfold okTk; simp [hno]
    refine Zr ?_
    refine aw_ (jq_ret1 O O [] O (fun K h=>by rw [hres] at h; exact h))
   ·have hp:arB (t.arrays)[k]=true:=by simpa [arB,and_assoc] using hy
    refine as_ (Zk ?_)
    refine jq_againS (k+1) ⟨hlt,all_snoc hlt hall hp⟩ g_ ?_ ?_
    ·exact Wy
    ·exact Ww
  ·have hlt2:¬ (k:Int) < (((t.arrays).map ArRow).length:Int):=by omega
   refine ZB ?_
   refine Zh (fun hlen=>?_)
   refine jq_cutS () (by rw [List.take_of_length_le g_] at hall; exact hall) ?_ ?_
   ·exact Wy
   ·exact Ww
 intro _ h3
 refine am_ (jc_cut (ι:=Unit) [] (fun _=>(t.modes).all mdB=true) (fun _=>[(1,.cell (.val (.pointer (some ⟨bx,0,none⟩))))]) (fun _=>[.blk bx 39 t.row]) ?_ ?_)
 ·refine R_ (E_ O (T_ (au_ (jc_loopS (ι:=Nat) [] (fun k=>k≤(t.modes).length∧((t.modes).take k).all mdB=true) (fun k=>(6,In .i64 (k:Int)) :: [(1,.cell (.val (.pointer (some ⟨bx,0,none⟩))))]) (fun _=>[.blk bx 39 t.row]) (fun k=>(t.modes).length - k) 0 ⟨Nat.zero_le _,rfl⟩ ?_ ?_ ?_))))
  ·exact Wy
  ·exact Ww
  rintro k ⟨hk,hall⟩
  have eL:((t.modes).map MdRow).length=(t.modes).length:=List.length_map _
  by_cases hlt:k < (t.modes).length
  ·have hlt2:(k:Int) < (((t.modes).map MdRow).length:Int):=by omega
   refine ZB ?_
   refine Zb (fun hlen=>?_)
   refine Y6 ?_
   refine Zm (fun bl=>?_)
   refine Yh ?_
   refine bm_ O (rnameB_c _) (o_ O (cd_ O (M_ O (jl_or 4 4 O O O O (nb O) ?_))))
   apply Exists.intro
   refine ⟨fun hb1=>?_,?_⟩
   refine Za ?_
   exact bm_ O (rnameB_c _) (ah_ O h_ b_ (cd_ O (ak_ (jq_seg 4 O O O (List.Perm.refl _)))))
   refine M_ O (jl_or 4 10 O O O O (nb O) ?_)
   apply Exists.intro
   refine ⟨fun hb1=>?_,?_⟩
   refine Za ?_
   exact bm_ O (rsmallB_c _) (ah_ O h_ b_ (cd_ O (ak_ (jq_seg 4 O O O (List.Perm.refl _)))))
   refine M_ O (jl_or 4 16 O O O O (nb O) ?_)
   apply Exists.intro
   refine ⟨fun hb1=>?_,?_⟩
   refine Za ?_
   exact bm_ O (rsmallB_c _) (ah_ O h_ b_ (cd_ O (ak_ (jq_seg 4 O O O (List.Perm.refl _)))))
   refine T_ (jc_cond O (fun hn=>?_) (fun hy=>?_))
   ·have hp:mdB (t.modes)[k]=false:=by
     cases hcs:mdB (t.modes)[k] with
     | false=>rfl
     | true =>
      exfalso
      try simp only [mdB,Bool.and_eq_true] at hcs
      simp [hcs] at hn
    have hno:(t.modes).all mdB=false:=all_no hlt hp
    have hres:okTk t=false:=by unfold okTk; simp [hno]
    refine Zr ?_
    refine aw_ (jq_ret1 O O [] O (fun K h=>by rw [hres] at h; exact h))
   ·have hp:mdB (t.modes)[k]=true:=by simpa [mdB,and_assoc] using hy
    refine as_ (Zk ?_)
    refine jq_againS (k+1) ⟨hlt,all_snoc hlt hall hp⟩ g_ ?_ ?_
    ·exact WE
    ·exact Ww
  ·have hlt2:¬ (k:Int) < (((t.modes).map MdRow).length:Int):=by omega
   refine ZB ?_
   refine Zh (fun hlen=>?_)
   refine jq_cutS () (by rw [List.take_of_length_le g_] at hall; exact hall) ?_ ?_
   ·exact Wy
   ·exact Ww
 intro _ h4
 refine am_ (jc_cut (ι:=Unit) [] (fun _=>(t.claims).all clB=true) (fun _=>[(1,.cell (.val (.pointer (some ⟨bx,0,none⟩))))]) (fun _=>[.blk bx 39 t.row]) ?_ ?_)
 ·refine R_ (E_ O (T_ (au_ (jc_loopS (ι:=Nat) [] (fun k=>k≤(t.claims).length∧((t.claims).take k).all clB=true) (fun k=>(8,In .i64 (k:Int)) :: [(1,.cell (.val (.pointer (some ⟨bx,0,none⟩))))]) (fun _=>[.blk bx 39 t.row]) (fun k=>(t.claims).length - k) 0 ⟨Nat.zero_le _,rfl⟩ ?_ ?_ ?_))))
  ·exact Wy
  ·exact Ww
  rintro k ⟨hk,hall⟩
  have eL:((t.claims).map ClRow).length=(t.claims).length:=List.length_map _
  by_cases hlt:k < (t.claims).length
  ·have hlt2:(k:Int) < (((t.claims).map ClRow).length:Int):=by omega
   refine ZB ?_
   refine Zb (fun hlen=>?_)
   refine Y6 ?_
   refine ZI ?_
   refine Yo ?_
   refine bm_ O (rplainB_c _) (o_ O (cd_ O (M_ O (jl_or 8 8 O O O O (nb O) ?_))))
   apply Exists.intro
   refine ⟨fun hb1=>?_,?_⟩
   refine Za ?_
   refine Yk ?_
   exact bm_ O (rplainB_c _) (ah_ O h_ b_ (cd_ O (ak_ (jq_seg 8 O O O (List.Perm.refl _)))))
   refine T_ (jc_cond O (fun hn=>?_) (fun hy=>?_))
   ·have hp:clB (t.claims)[k]=false:=by
     cases hcs:clB (t.claims)[k] with
     | false=>rfl
     | true =>
      exfalso
      try simp only [clB,Bool.and_eq_true] at hcs
      simp [hcs] at hn
    have hno:(t.claims).all clB=false:=all_no hlt hp
    have hres:okTk t=false:=by unfold okTk; simp [hno]
    refine Zr ?_
    refine aw_ (jq_ret1 O O [] O (fun K h=>by rw [hres] at h; exact h))
   ·have hp:clB (t.claims)[k]=true:=by simpa [clB,and_assoc] using hy
    refine as_ (Zk ?_)
    refine jq_againS (k+1) ⟨hlt,all_snoc hlt hall hp⟩ g_ ?_ ?_
    ·exact Wy
    ·exact Ww
  ·have hlt2:¬ (k:Int) < (((t.claims).map ClRow).length:Int):=by omega
   refine ZB ?_
   refine Zh (fun hlen=>?_)
   refine jq_cutS () (by rw [List.take_of_length_le g_] at hall; exact hall) ?_ ?_
   ·exact Wy
   ·exact Ww
 intro _ h5
 have hres:okTk t=true:=by unfold okTk; rw [h0,h1,h2,h3,h4,h5]; rfl
 refine R_ (E_ O (T_ (ar_ (jq_ret1 O O [] O (fun K h=>by rw [hres] at h; exact h)))))
theorem rprintableB_c (p:Pg):Con Tryz.prog 160 [.row p.row] [] (fun K=>K (Bl (okPg p)) []):=by
 refine con_intro Tryz.func160 O O b_ (fun c hc=>?_)
 skip
 refine Wv (fun bx=>?_)
 refine am_ (jc_cut (ι:=Unit) [] (fun _=>(p.res).all nameB=true) (fun _=>[(1,.cell (.val (.pointer (some ⟨bx,0,none⟩))))]) (fun _=>[.blk bx 31 p.row]) ?_ ?_)
 ·refine R_ (E_ O (T_ (au_ (jc_loopS (ι:=Nat) [] (fun k=>k≤(p.res).length∧((p.res).take k).all nameB=true) (fun k=>(3,In .i64 (k:Int)) :: [(1,.cell (.val (.pointer (some ⟨bx,0,none⟩))))]) (fun _=>[.blk bx 31 p.row]) (fun k=>(p.res).length - k) 0 ⟨Nat.zero_le _,rfl⟩ ?_ ?_ ?_))))
  ·exact Wy
  ·exact Ww
  rintro k ⟨hk,hall⟩
  have eL:((p.res).map Wrow).length=(p.res).length:=List.length_map _
  by_cases hlt:k < (p.res).length
  ·have hlt2:(k:Int) < (((p.res).map Wrow).length:Int):=by omega
   refine ZB ?_
   refine Zb (fun hlen=>?_)
   refine Y6 ?_
   refine ZI ?_
   refine cb_ O O (o_ O (bm_ O (rnameB_c _) (o_ O (cd_ O (T_ (jc_cond O (fun hn=>?_) (fun hy=>?_)))))))
   ·have hp:nameB (p.res)[k]=false:=by
     cases hcs:nameB (p.res)[k] with
     | false=>rfl
     | true =>
      exfalso
      skip
      simp [hcs] at hn
    have hno:(p.res).all nameB=false:=all_no hlt hp
    have hres:okPg p=false:=by unfold okPg; simp [hno]
    refine Zr ?_
    refine aw_ (jq_ret1 O O [] O (fun K h=>by rw [hres] at h; exact h))
   ·have hp:nameB (p.res)[k]=true:=by simpa [and_assoc] using hy
    refine as_ (Zk ?_)
    refine jq_againS (k+1) ⟨hlt,all_snoc hlt hall hp⟩ g_ ?_ ?_
    ·exact Wy
    ·exact Ww
  ·have hlt2:¬ (k:Int) < (((p.res).map Wrow).length:Int):=by omega
   refine ZB ?_
   refine Zh (fun hlen=>?_)
   refine jq_cutS () (by rw [List.take_of_length_le g_] at hall; exact hall) ?_ ?_
   ·exact Wy
   ·exact Ww
 intro _ h1
 refine am_ (jc_cut (ι:=Unit) [] (fun _=>(p.shared).all shB=true) (fun _=>[(1,.cell (.val (.pointer (some ⟨bx,0,none⟩))))]) (fun _=>[.blk bx 31 p.row]) ?_ ?_)
 ·refine R_ (E_ O (T_ (au_ (jc_loopS (ι:=Nat) [] (fun k=>k≤(p.shared).length∧((p.shared).take k).all shB=true) (fun k=>(4,In .i64 (k:Int)) :: [(1,.cell (.val (.pointer (some ⟨bx,0,none⟩))))]) (fun _=>[.blk bx 31 p.row]) (fun k=>(p.shared).length - k) 0 ⟨Nat.zero_le _,rfl⟩ ?_ ?_ ?_))))
  ·exact Wy
  ·exact Ww
  rintro k ⟨hk,hall⟩
  have eL:((p.shared).map ShRow).length=(p.shared).length:=List.length_map _
  by_cases hlt:k < (p.shared).length
  ·have hlt2:(k:Int) < (((p.shared).map ShRow).length:Int):=by omega
   refine ZB ?_
   refine Zb (fun hlen=>?_)
   refine Y6 ?_
   refine Zm (fun bl=>?_)
   refine R_ (F_ O (F_ O (L_ 0 O (o_ O (bm_ O (rnameB_c _) (o_ O (cd_ O (M_ O (jl_or 5 5 O O O O (nb O) ?_)))))))))
   apply Exists.intro
   refine ⟨fun hb1=>?_,?_⟩
   refine ah_ O h_ b_ (bf_ O O O b_ (Za ?_))
   exact bm_ O (rplainB_c _) (ah_ O h_ b_ (cd_ O (ak_ (jq_seg 5 O O O (List.Perm.refl _)))))
   refine M_ O (jl_or 4 12 O O O O (nb O) ?_)
   apply Exists.intro
   refine ⟨fun hb1=>?_,?_⟩
   refine Za ?_
   exact bm_ O (rnameB_c _) (ah_ O h_ b_ (cd_ O (ak_ (jq_seg 4 O O O (List.Perm.refl _)))))
   refine T_ (jc_cond O (fun hn=>?_) (fun hy=>?_))
   ·have hp:shB (p.shared)[k]=false:=by
     cases hcs:shB (p.shared)[k] with
     | false=>rfl
     | true =>
      exfalso
      try simp only [shB,Bool.and_eq_true] at hcs
      simp [hcs] at hn
    have hno:(p.shared).all shB=false:=all_no hlt hp
    have hres:okPg p=false:=by unfold okPg; simp [hno]
    refine Zr ?_
    refine aw_ (jq_ret1 O O [] O (fun K h=>by rw [hres] at h; exact h))
   ·have hp:shB (p.shared)[k]=true:=by simpa [shB,and_assoc] using hy
    refine as_ (Zk ?_)
    refine jq_againS (k+1) ⟨hlt,all_snoc hlt hall hp⟩ g_ ?_ ?_
    ·exact WE
    ·exact Ww
  ·have hlt2:¬ (k:Int) < (((p.shared).map ShRow).length:Int):=by omega
   refine ZB ?_
   refine Zh (fun hlen=>?_)
   refine jq_cutS () (by rw [List.take_of_length_le g_] at hall; exact hall) ?_ ?_
   ·exact Wy
   ·exact Ww
 intro _ h2
 refine am_ (jc_cut (ι:=Unit) [] (fun _=>(p.tasks).all okTk=true) (fun _=>[(1,.cell (.val (.pointer (some ⟨bx,0,none⟩))))]) (fun _=>[.blk bx 31 p.row]) ?_ ?_)
 ·refine R_ (E_ O (T_ (au_ (jc_loopS (ι:=Nat) [] (fun k=>k≤(p.tasks).length∧((p.tasks).take k).all okTk=true) (fun k=>(6,In .i64 (k:Int)) :: [(1,.cell (.val (.pointer (some ⟨bx,0,none⟩))))]) (fun _=>[.blk bx 31 p.row]) (fun k=>(p.tasks).length - k) 0 ⟨Nat.zero_le _,rfl⟩ ?_ ?_ ?_))))
  ·exact Wy
  ·exact Ww
  rintro k ⟨hk,hall⟩
  have eL:((p.tasks).map Tk.row).length=(p.tasks).length:=List.length_map _
  by_cases hlt:k < (p.tasks).length
  ·have hlt2:(k:Int) < (((p.tasks).map Tk.row).length:Int):=by omega
   refine ZB ?_
   refine Zb (fun hlen=>?_)
   refine Y6 ?_
   refine ZI ?_
   refine cr_ O O O (o_ O (bm_ O (rtaskB_c _) (o_ O (cd_ O (T_ (jc_cond O (fun hn=>?_) (fun hy=>?_)))))))
   ·have hp:okTk (p.tasks)[k]=false:=by
     cases hcs:okTk (p.tasks)[k] with
     | false=>rfl
     | true =>
      exfalso
      skip
      simp [hcs] at hn
    have hno:(p.tasks).all okTk=false:=all_no hlt hp
    have hres:okPg p=false:=by unfold okPg; simp [hno]
    refine Zr ?_
    refine aw_ (jq_ret1 O O [] O (fun K h=>by rw [hres] at h; exact h))
   ·have hp:okTk (p.tasks)[k]=true:=by simpa [and_assoc] using hy
    refine as_ (Zk ?_)
    refine jq_againS (k+1) ⟨hlt,all_snoc hlt hall hp⟩ g_ ?_ ?_
    ·exact Wy
    ·exact Ww
  ·have hlt2:¬ (k:Int) < (((p.tasks).map Tk.row).length:Int):=by omega
   refine ZB ?_
   refine Zh (fun hlen=>?_)
   refine jq_cutS () (by rw [List.take_of_length_le g_] at hall; exact hall) ?_ ?_
   ·exact Wy
   ·exact Ww
 intro _ h3
 have hres:okPg p=true:=by unfold okPg; rw [h1,h2,h3]; rfl
 refine R_ (E_ O (T_ (ar_ (jq_ret1 O O [] O (fun K h=>by rw [hres] at h; exact h)))))
end Go.Proofs.YtalkkcfojplmdaaGreatDoor
end
section
namespace Go.Proofs.YtalkkcfojplmdaaGreatDoor
open Go.Vc
set_option maxHeartbeats 4000000
attribute [local irreducible] JL JC JQ OpWp Con ConN
theorem flat_take {f:Sm→List Int} {l:List Sm} {k:Nat} (h:k < l.length):(l.take (k+1)).flatMap f=(l.take k).flatMap f ++ f l[k]:=by
 rw [List.take_succ_eq_append_getElem h,List.flatMap_append]; simp
theorem flat_le {f:Sm→List Int} {l:List Sm} {k:Nat} (h:k < l.length):((l.take k).flatMap f).length+(f l[k]).length≤(l.flatMap f).length:=by
 have h1:l=l.take k ++ l[k] :: l.drop (k+1):=by rw [List.getElem_cons_drop,List.take_append_drop]
 have h2:(l.flatMap f).length=((l.take k ++ l[k] :: l.drop (k+1)).flatMap f).length:=by rw [← h1]
 rw [h2]
 simp only [List.flatMap_append,List.flatMap_cons,List.length_append]
 omega
def rlSelf (s:Sm):List Int:=if s.kind=3 then [s.label] else []
def rlOne:Nat→Sm→List Int
 | 0,_=>[]
 | f+1,s=>rlSelf s ++ s.thn.flatMap (rlOne f) ++ s.els.flatMap (rlOne f)
theorem rl_zero (l:List Sm):l.flatMap (rlOne 0)=[]:=by
 induction l with
 | nil=>rfl
 | cons s l ih=>simp [rlOne]
theorem rlabels_c:∀ (f:Nat) (l:List Sm) (depth:Int),0≤depth→depth+f=21→(l.flatMap (rlOne f)).length≤1000000 →
 Con Tryz.prog 74 [.cell (.list (l.map Sm.row)),In .i64 depth,In .i64 3] [] (fun K=>K (.cell (.list ((l.flatMap (rlOne f)).map Irow))) []):=by
 intro f
 induction f with
 | zero =>
  intro l depth h0 h1 hlim
  refine con_intro Tryz.func74 O O b_ (fun c hc=>R_ (E_ O (T_ (ZO ?_))))
  refine jc_loop [0,1,2,6,7] (fun _:Nat=>True) (fun _=>[(8,In .i64 0)]) (fun _=>[]) (fun _=>0) 0 [] trivial O ?_ ?_
  ·exact Ww
  ·intro k _
   refine am_ (am_ (jc_cut (ι:=Unit) [6,7] (fun _=>True) (fun _=>[(17,Bl false)]) (fun _=>[]) ?_ ?_))
   ·by_cases hl:(0:Int) < ((l.map Sm.row).length:Int)
    ·refine an_ (M_ O (M_ O (o_ O (br_ O (fun hlen=>o_ O (bw_ O O (M_ O (Yq ?_))))))))
     refine cu_ O O (o_ O (bp_ O u_ O (ak_ (jq_cut () [] trivial O ?_))))
     rw [show decide (depth≤20)=false from decide_eq_false (by omega)]
     exact Ww
    ·refine an_ (M_ O (M_ O (o_ O (br_ O (fun hlen=>o_ O (bw_ O O (M_ O (ai_ O w_ b_ (YA ?_)))))))))
     refine ak_ (jq_cut () [] trivial O ?_)
     exact Ww
   ·intro _ _
    skip
    refine jc_cond rfl (fun h=>by cases h) (fun _=>Yp ?_)
    refine ar_ ?_
    rw [rl_zero]
    refine jq_sle 6 O (SLe.cell CLe.nil) (jq_ret1 O O [] O (fun K h=>h))
 | succ f ih =>
  intro l depth h0 h1 hlim
  refine con_intro Tryz.func74 O O b_ (fun c hc=>R_ (E_ O (T_ (ZO ?_))))
  refine jc_ownNil 3 1 g_ ?_
  refine jc_loop (ι:=Nat × Value) [0,1,2] (fun i=>i.1≤l.length) (fun i=>[(7,.cell (.val i.2)),(8,In .i64 (i.1:Int))]) (fun i=>[.own i.2 3 1 (((l.take i.1).flatMap (rlOne (f+1))).map Irow)]) (fun i=>l.length - i.1) (0,.slice none 0 0) [0] (Nat.zero_le _) O ?_ ?_
  ·exact Ww
  ·rintro ⟨k,v⟩ hk
   dsimp only at hk ⊢
   by_cases hlt:(k:Int) < ((l.map Sm.row).length:Int)
   ·refine Yr (fun hlen=>?_)
    refine M_ O (Yq ?_)
    refine cu_ O O (o_ O (bp_ O u_ O (T_ (jc_condd O (fun _=>?_) (fun h=>absurd (show depth≤20 by omega) h)))))
    have hmax:l.length≤9223372036854775807:=by simpa using hlen
    simp only [List.length_map,Int.ofNat_lt] at hlt
    have hle:=flat_le (f:=rlOne (f+1)) hlt
    have e2:rlOne (f+1) l[k]=rlSelf l[k] ++ l[k].thn.flatMap (rlOne f) ++ l[k].els.flatMap (rlOne f):=rfl
    have hl2:=congrArg List.length e2
    simp only [List.length_append] at hl2
    refine as_ (al_ (B_ (R_ (M_ O (M_ O (Zq ?_))))))
    refine Yt (fun bl=>?_)
    refine am_ (am_ (jc_cut (ι:=Unit) [0,1,2,7,8,9] (fun _=>True) (fun _=>[(41,Bl (decide (l[k].kind=3)))]) (fun _=>[.own v 3 1 (((l.take k).flatMap (rlOne (f+1))).map Irow),.blk bl 66 l[k].row']) ?_ ?_))
    ·by_cases h3:l[k].kind=3
     ·refine an_ (YT ?_)
      refine Yg ?_
      refine o_ O (bp_ O u_ O (M_ O (Zs ?_)))
      refine Yf ?_
      refine Ze ?_
      refine bd_ O ?_
      refine ah_ O O b_ (bn_ O O (ah_ O O b_ (bv_ O O O (o_ O (bp_ O O O (ak_ (jq_cut () [1,0] trivial O ?_)))))))
      exact Ww
     ·by_cases h4:l[k].kind=4
      ·refine an_ (F_ O (L_ 0 O (o_ O (bn_ O O (ZJ ?_)))))
       refine ah_ O w_ b_ (bn_ O O (o_ O (bv_ O w_ O (M_ O (Yq ?_)))))
       refine bn_ O O (ah_ O u_ b_ (bd_ O (Ze ?_)))
       refine bd_ O ?_
       refine ah_ O O b_ (bn_ O O (ah_ O u_ b_ (bv_ O O O (o_ O (bp_ O u_ O (ak_ (jq_cut () [1,0] trivial O ?_)))))))
       exact Ww
      ·refine an_ (F_ O (L_ 0 O (o_ O (bn_ O O (ZJ ?_)))))
       refine ah_ O w_ b_ (bn_ O O (o_ O (bv_ O w_ O (M_ O (ai_ O w_ b_ (ai_ O w_ b_ (ai_ O w_ b_ (Wd ?_))))))))
       refine aj_ O b_ (YA ?_)
       refine ak_ ?_
       rw [show decide (l[k].kind=3)=false from decide_eq_false h3]
       refine jq_cut () [1,0] trivial O ?_
       exact Ww
    intro _ _
    refine jc_cut (ι:=Value) [0,1,2,8,9] (fun _=>True) (fun v=>[(7,.cell (.val v))]) (fun v=>[.own v 3 1 (((l.take k).flatMap (rlOne (f+1)) ++ rlSelf l[k]).map Irow),.blk bl 66 l[k].row']) ?_ ?_
    ·have hself:(rlSelf l[k]).length≤(rlOne (f+1) l[k]).length:=by rw [e2]; simp only [List.length_append]; omega
     refine jc_condd O (fun hw=>?_) (fun hw=>?_)
     ·have e1:rlSelf l[k]=[l[k].label]:=by simp [rlSelf,hw]
      rw [e1] at hself ⊢
      simp only [List.length_cons,List.length_nil] at hself
      refine an_ (M_ O (F_ O (L_ 1 O (YK ?_))))
      refine ow_append1 0 (l[k].label) O O O O O O O (fun _=>O) (by show (_+_) * 8≤_; first | omega | (simp only [List.length_append]; omega)) (by first | omega | (simp only [List.length_append]; omega)) (fun v1 hv1=>E_ O (ak_ (jq_cut v1 [0,0] trivial O ?_)))
      exact Ww
     ·have e1:rlSelf l[k]=[]:=by simp [rlSelf,hw]
      rw [e1,List.append_nil]
      refine as_ (jq_cut v [0,0] trivial O ?_)
      exact Ww
    ·intro v1 _
     refine R_ (M_ O (F_ O (L_ 1 O (M_ O (Wr ?_)))))
     refine o_ O (bm_ O (ih _ _ g_ g_ g_) (o_ O (YL (fun v2 hv2=>?_))))
     refine Wr ?_
     refine o_ O (bm_ O (ih _ _ g_ g_ g_) (o_ O (Z4 (fun v3 hv3=>?_))))
     refine Zk ?_
     refine jq_again (i:=(k,v)) (k+1,v3) [0] hlt (by dsimp only; omega) (own_eq (congrArg (List.map Irow) ?_)) ?_
     ·rw [flat_take hlt,e2]
      simp only [List.append_assoc]
     ·exact Ww
   ·refine Yr (fun hlen=>?_)
    refine M_ O (ai_ O w_ b_ (YA ?_))
    refine T_ (jc_cond rfl (fun h=>by cases h) (fun _=>av_ (ax_ (ax_ (ba_ ?_)))))
    refine al_ (R_ (M_ O (E_ O (T_ (ar_ ?_)))))
    simp only [List.length_map,Int.ofNat_lt] at hlt
    rw [List.take_of_length_le (Nat.le_of_not_lt hlt)]
    refine jq_freeze 6 0 O O (by rw [hc]; simp [hb]) (jq_ret1 O O [] O (fun K h=>h))
def ifsOf (l:List Sm):List Int:=l.flatMap (rlOne 20)
theorem Ifs_c (l:List Sm) (h:(ifsOf l).length≤1000000):Con Tryz.prog 33 [.cell (.list (l.map Sm.row))] [] (fun K=>K (.cell (.list ((ifsOf l).map Irow))) []):=by
 refine con_intro Tryz.func33 O O b_ (fun c hc=>R_ (E_ O (T_ (R_ (M_ O (o_ O (bm_ O (rlabels_c 20 _ _ g_ g_ h) (E_ O (T_ (ar_ (jq_ret1 O O [] O (fun K h=>h))))))))))))
end Go.Proofs.YtalkkcfojplmdaaGreatDoor
end
section
namespace Go.Proofs.YtalkkcfojplmdaaGreatDoor
open Go.Vc
attribute [local irreducible] JL JC JQ OpWp Con ConN HOk
attribute [local irreducible] byteAt runLen isL isD isName hasW
set_option maxHeartbeats 4000000
theorem T.ind {P:T→Prop} (h:∀ t,(∀ u ∈ t.args,P u)→P t):∀ t,P t:=by
 intro t
 induction t with
 | nu n=>exact h _ (by simp [T.args])
 | nm s=>exact h _ (by simp [T.args])
 | ix s t ih=>exact h _ (by simpa [T.args] using ih)
 | bn o a b ia ib=>exact h _ (by simpa [T.args] using ⟨ia,ib⟩)
theorem sz_mem:∀ {l:List Sm} {s:Sm},s ∈ l→s.sz≤Sm.szs l
 | u :: l,s,h=>by
  rcases List.mem_cons.1 h with rfl | h
  ·simp only [Sm.szs]; omega
  ·have:=sz_mem h
   simp only [Sm.szs]; omega
theorem Sms.ind {P:List Sm→Prop} (h:∀ l,(∀ s ∈ l,P s.thn∧P s.els)→P l):∀ l,P l:=by
 have key:∀ n l,Sm.szs l≤n→P l:=by
  intro n
  induction n with
  | zero =>
   intro l hl
   refine h l (fun s hs=>?_)
   have:=sz_mem hs
   have:=Sm.sz_eq s
   omega
  | succ n ih =>
   intro l hl
   refine h l (fun s hs=>?_)
   have h1:=sz_mem hs
   have h2:=Sm.sz_eq s
   exact ⟨ih _ g_,ih _ g_⟩
 exact fun l=>key _ l (Nat.le_refl _)
theorem any_snoc {α:Type} {p:α→Bool} {l:List α} {k:Nat} (h:k < l.length) (h1:(l.take k).any p=false) (h2:p l[k]=false):(l.take (k+1)).any p=false:=by
 rw [List.take_succ_eq_append_getElem h,List.any_append,h1]
 simp [h2]
theorem any_yes2 {α:Type} {p:α→Bool} {l:List α} {k:Nat} (h:k < l.length) (h2:p l[k]=true):l.any p=true:=List.any_eq_true.2 ⟨_,List.getElem_mem h,h2⟩
theorem rhas_c (l:List ByteArray) (s:ByteArray):Con Tryz.prog 166 [.cell (.list (l.map Wrow)),Str s] [] (fun K=>K (Bl (hasB l s)) []):=by
 refine con_intro Tryz.func166 O O b_ (fun c hc=>ZO ?_)
 refine jc_loopS (ι:=Nat) [] (fun k=>k≤(l).length∧hasB (l.take k) s=false) (fun k=>(5,In .i64 (k:Int)) :: [(0,.cell (.list (l.map Wrow))),(1,Str s)]) (fun _=>[]) (fun k=>(l).length - k) 0 ⟨Nat.zero_le _,rfl⟩ ?_ ?_ ?_
 ·exact sub_end
 ·exact Ww
 rintro k ⟨hk,hIk⟩
 have eLk:((l).map Wrow).length=(l).length:=List.length_map _
 by_cases hltk:k < (l).length
 ·have hlt2k:(k:Int) < (((l).map Wrow).length:Int):=by omega
  by_cases he:l[k]=s
  ·have hres:hasB l s=true:=any_yes2 hltk (decide_eq_true he)
   refine Yu ?_
   refine Zb (fun hlen=>?_)
   refine R_ (M_ O (M_ O (ZI ?_)))
   refine cb_ O O ?_
   refine M_ O (o_ O (cs_ O O (T_ (aq_ O u_ (Zr ?_)))))
   refine aw_ (jq_ret1 O O [] O (fun K h=>by rw [hres] at h; exact h))
  ·refine Yu ?_
   refine Zb (fun hlen=>?_)
   refine R_ (M_ O (M_ O (ZI ?_)))
   refine cb_ O O ?_
   refine M_ O (o_ O (cs_ O O (T_ (ap_ O w_ (as_ (Zk ?_))))))
   refine jq_againS (k+1) ⟨hltk,any_snoc hltk hIk (decide_eq_false he)⟩ g_ ?_ ?_
   ·exact sub_end
   ·exact Ww
 ·have hlt2k:¬ (k:Int) < (((l).map Wrow).length:Int):=by omega
  rw [List.take_of_length_le (by omega)] at hIk
  refine Yu ?_
  refine Zh (fun hlen=>?_)
  refine al_ (R_ (E_ O (T_ ?_)))
  refine ar_ (jq_ret1 O O [] O (fun K h=>by rw [hIk] at h; exact h))
theorem rhasI_c (l:List Int) (s:Int):Con Tryz.prog 172 [.cell (.list (l.map Irow)),In .i64 s] [] (fun K=>K (Bl (hasI l s)) []):=by
 refine con_intro Tryz.func172 O O b_ (fun c hc=>ZO ?_)
 refine jc_loopS (ι:=Nat) [] (fun k=>k≤(l).length∧hasI (l.take k) s=false) (fun k=>(5,In .i64 (k:Int)) :: [(0,.cell (.list (l.map Irow))),(1,In .i64 s)]) (fun _=>[]) (fun k=>(l).length - k) 0 ⟨Nat.zero_le _,rfl⟩ ?_ ?_ ?_
 ·exact sub_end
 ·exact Ww
 rintro k ⟨hk,hIk⟩
 have eLk:((l).map Irow).length=(l).length:=List.length_map _
 by_cases hltk:k < (l).length
 ·have hlt2k:(k:Int) < (((l).map Irow).length:Int):=by omega
  by_cases he:l[k]=s
  ·have hres:hasI l s=true:=any_yes2 hltk (decide_eq_true he)
   refine Yu ?_
   refine Zb (fun hlen=>?_)
   refine R_ (M_ O (M_ O (ZI ?_)))
   refine cb_ O O ?_
   refine M_ O (o_ O (bn_ O O (T_ (aq_ O u_ (Zr ?_)))))
   refine aw_ (jq_ret1 O O [] O (fun K h=>by rw [hres] at h; exact h))
  ·refine Yu ?_
   refine Zb (fun hlen=>?_)
   refine R_ (M_ O (M_ O (ZI ?_)))
   refine cb_ O O ?_
   refine M_ O (o_ O (bn_ O O (T_ (ap_ O w_ (as_ (Zk ?_))))))
   refine jq_againS (k+1) ⟨hltk,any_snoc hltk hIk (decide_eq_false he)⟩ g_ ?_ ?_
   ·exact sub_end
   ·exact Ww
 ·have hlt2k:¬ (k:Int) < (((l).map Irow).length:Int):=by omega
  rw [List.take_of_length_le (by omega)] at hIk
  refine Yu ?_
  refine Zh (fun hlen=>?_)
  refine al_ (R_ (E_ O (T_ ?_)))
  refine ar_ (jq_ret1 O O [] O (fun K h=>by rw [hIk] at h; exact h))
theorem rtwice_c (l:List ByteArray):Con Tryz.prog 165 [.cell (.list (l.map Wrow))] [] (fun K=>K (Bl (dupB l)) []):=by
 refine con_intro Tryz.func165 O O b_ (fun c hc=>ZO ?_)
 refine jc_loopS (ι:=Nat) [] (fun k=>k≤(l).length∧dupB (l.take k)=false) (fun k=>(3,In .i64 (k:Int)) :: [(0,.cell (.list (l.map Wrow)))]) (fun _=>[]) (fun k=>(l).length - k) 0 ⟨Nat.zero_le _,rfl⟩ ?_ ?_ ?_
 ·exact sub_end
 ·exact Ww
 rintro k ⟨hk,hIk⟩
 have eLk:((l).map Wrow).length=(l).length:=List.length_map _
 by_cases hltk:k < (l).length
 ·have hlt2k:(k:Int) < (((l).map Wrow).length:Int):=by omega
  refine Yu ?_
  refine Zb (fun hlen=>?_)
  refine R_ (E_ O (T_ (au_ (jc_loopS (ι:=Nat) [] (fun j=>j≤k∧hasB ((l.take k).take j) l[k]=false) (fun j=>[(4,In .i64 (j:Int)),(3,In .i64 (k:Int)),(0,.cell (.list (l.map Wrow)))]) (fun _=>[]) (fun j=>k - j) 0 ⟨Nat.zero_le _,rfl⟩ ?_ ?_ ?_))))
  ·exact sub_end
  ·exact Ww
  rintro j ⟨hj,hIj⟩
  have elt:(l.take k).length=k:=by rw [List.length_take]; omega
  by_cases hltj:j < k
  ·have hjl:j < l.length:=by omega
   have hjl2:(j:Int) < ((l.map Wrow).length:Int):=by omega
   have hltj2:(j:Int) < (k:Int):=by omega
   have hg:(l.take k)[j]'(by omega)=l[j]:=List.getElem_take
   by_cases he:l[k]=l[j]
   ·have hres:dupB l=true:=dupB_yes hltk (any_yes2 (k:=j) (by omega) (decide_eq_true (by rw [hg]; exact he.symm)))
    refine Yu ?_
    refine o_ O (bw_ O O (T_ (aq_ O u_ (as_ (al_ (B_ (ZM ?_)))))))
    refine aa_ (fun c=>cb_ O O p_) ?_
    refine yM_ O (yM_ O (YG ?_))
    refine aa_ (fun c=>cs_ O O p_) (ae_ (al_ (aq_ O u_ (Zr ?_))))
    refine az_ (aw_ (aw_ (az_ (aw_ (jq_ret1 O O [] O (fun K h=>by rw [hres] at h; exact h))))))
   ·refine Yu ?_
    refine o_ O (bw_ O O (T_ (aq_ O u_ (as_ (al_ (B_ (ZM ?_)))))))
    refine aa_ (fun c=>cb_ O O p_) ?_
    refine yM_ O (yM_ O (YG ?_))
    refine aa_ (fun c=>cs_ O O p_) (ae_ (al_ (ap_ O w_ (as_ (Zk ?_)))))
    refine jq_againS (j+1) ⟨hltj,any_snoc g_ hIj (decide_eq_false (by rw [hg]; exact fun e=>he e.symm))⟩ g_ ?_ ?_
    ·exact sub_end
    ·exact Ww
  ·have hltj2:¬ (j:Int) < (k:Int):=by omega
   rw [List.take_of_length_le (by omega)] at hIj
   have hI2:dupB (l.take (k+1))=false:=by rw [List.take_succ_eq_append_getElem hltk,dupB_snoc,hIk,hIj]; rfl
   refine Yu ?_
   refine o_ O (bw_ O O (T_ (ap_ O w_ (av_ (ax_ (ax_ (ba_ (Wt ?_))))))))
   refine E_ O (ak_ (jq_againS (i:=k) (k+1) ⟨hltk,hI2⟩ g_ ?_ ?_))
   ·exact sub_end
   ·exact Ww
 ·have hlt2k:¬ (k:Int) < (((l).map Wrow).length:Int):=by omega
  rw [List.take_of_length_le (by omega)] at hIk
  refine Yu ?_
  refine Zh (fun hlen=>?_)
  refine al_ (R_ (E_ O (T_ ?_)))
  refine ar_ (jq_ret1 O O [] O (fun K h=>by rw [hIk] at h; exact h))
theorem rsize_c (n:Int):Con Tryz.prog 170 [In .i64 n] [] (fun K=>K (Bl (sizeB n)) []):=by
 refine con_intro Tryz.func170 O O b_ (fun c hc=>R_ (YX ?_))
 refine bn_ O O (M_ O (jl_or 2 2 O O O O (nb O) ?_))
 apply Exists.intro
 refine ⟨fun hb1=>?_,?_⟩
 refine Z8 ?_
 exact WF
 refine M_ O (jl_or 2 6 O O O O (nb O) ?_)
 apply Exists.intro
 refine ⟨fun hb1=>?_,?_⟩
 refine Z8 ?_
 exact WF
 refine M_ O (jl_or 2 10 O O O O (nb O) ?_)
 apply Exists.intro
 refine ⟨fun hb1=>?_,?_⟩
 refine Z8 ?_
 exact WF
 refine M_ O (jl_or 2 14 O O O O (nb O) ?_)
 apply Exists.intro
 refine ⟨fun hb1=>?_,?_⟩
 refine Z8 ?_
 exact WF
 refine E_ O (T_ (ar_ (jq_ret1 O O [] O (fun K h=>h))))
theorem rallowed_c (p:Pg) (nm hd:ByteArray):Con Tryz.prog 174 [.row p.row,Str nm,Str hd] [] (fun K=>K (Bl (allowB p.shared hd nm)) []):=by
 refine con_intro Tryz.func174 O O b_ (fun c hc=>ZD (fun bx=>?_))
 refine E_ O (T_ (au_ ?_))
 refine jc_loopS (ι:=Nat) [] (fun k=>k≤(p.shared).length∧(p.shared.take k).all (fun x=>!decide (x.1=nm) || decide (x.2.2=hd))=true) (fun k=>(7,In .i64 (k:Int)) :: [(3,.cell (.val (.pointer (some ⟨bx,0,none⟩)))),(1,Str nm),(2,Str hd)]) (fun _=>[.blk bx 31 p.row]) (fun k=>(p.shared).length - k) 0 ⟨Nat.zero_le _,rfl⟩ ?_ ?_ ?_
 ·exact Wy
 ·exact Ww
 rintro k ⟨hk,hIk⟩
 have eLk:((p.shared).map ShRow).length=(p.shared).length:=List.length_map _
 by_cases hltk:k < (p.shared).length
 ·have hlt2k:(k:Int) < (((p.shared).map ShRow).length:Int):=by omega
  by_cases h1:p.shared[k].1=nm
  ·by_cases h2:p.shared[k].2.2=hd
   ·have h2':¬ ¬ p.shared[k].2.2=hd:=fun h=>h h2
    refine ZB ?_
    refine Zb (fun hlen=>?_)
    refine Y6 ?_
    refine ZI ?_
    refine Wn ?_
    refine ZW ?_
    refine bd_ O (ah_ O u_ b_ (cc_ O O g_ O O b_ (ah_ O u_ b_ (cf_ O O O b_ O b_ (ah_ O u_ b_ (cb_ O O (Yq ?_)))))))
    refine ct_ O O ?_
    refine o_ O (bp_ O u_ O (T_ (ap_ O w_ (as_ (Zk ?_)))))
    refine jq_againS (k+1) ⟨hltk,all_snoc hltk hIk (by simp [h2])⟩ g_ ?_ ?_
    ·exact Wy
    ·exact Ww
   ·have hres:allowB p.shared hd nm=false:=all_no hltk (by simp [h1,h2])
    refine ZB ?_
    refine Zb (fun hlen=>?_)
    refine Y6 ?_
    refine ZI ?_
    refine Wn ?_
    refine ZW ?_
    refine bd_ O (ah_ O u_ b_ (cc_ O O g_ O O b_ (ah_ O u_ b_ (cf_ O O O b_ O b_ (ah_ O u_ b_ (cb_ O O (Yq ?_)))))))
    refine ct_ O O ?_
    refine o_ O (bp_ O u_ O (T_ (aq_ O u_ (Zr ?_))))
    refine aw_ (jq_ret1 O O [] O (fun K h=>by rw [hres] at h; exact h))
  ·refine ZB ?_
   refine Zb (fun hlen=>?_)
   refine Y6 ?_
   refine ZI ?_
   refine Wn ?_
   refine Zg ?_
   refine Zg ?_
   refine o_ O (bv_ O w_ O ?_)
   refine T_ (ap_ O O (as_ (Zk ?_)))
   refine jq_againS (k+1) ⟨hltk,all_snoc hltk hIk (by simp [h1])⟩ g_ ?_ ?_
   ·exact Wy
   ·exact Ww
 ·have hlt2k:¬ (k:Int) < (((p.shared).map ShRow).length:Int):=by omega
  rw [List.take_of_length_le (by omega)] at hIk
  have hres:allowB p.shared hd nm=true:=hIk
  refine ZB ?_
  refine Zh (fun hlen=>?_)
  refine al_ (R_ (E_ O ?_))
  refine T_ (ar_ (jq_ret1 O O [] O (fun K h=>by rw [hres] at h; exact h)))
theorem rknown_c (vs ar:List ByteArray):∀ t:T,Con Tryz.prog 203 [.row t.row',.cell (.list (vs.map Wrow)),.cell (.list (ar.map Wrow))] [] (fun K=>K (Bl (useB vs ar t)) []):=by
 refine T.ind (fun t ih=>?_)
 have e0:=useB_eq vs ar t
 refine con_intro Tryz.func203 O O b_ (fun c hc=>?_)
 have hV:=rhas_c vs t.name
 have hA:=rhas_c ar t.name
 unfold useOne at e0
 by_cases hk2:t.kind=2
 ·have hk3:¬ t.kind=3:=by omega
  rw [decide_eq_true hk2,decide_eq_false hk3] at e0
  cases h1:hasB vs t.name with
  | false =>
   rw [h1] at hV
   have hres:useB vs ar t=false:=by rw [e0,h1]; rfl
   refine ZD (fun bx=>?_)
   refine YT ?_
   refine Zn ?_
   refine o_ O (bp_ O u_ O ?_)
   refine M_ O (Zd ?_)
   refine Wd ?_
   refine aj_ O b_ (aj_ O b_ (ai_ O O b_ (Wc ?_)))
   refine R_ (E_ O ?_)
   refine T_ (ar_ (aw_ (jq_ret1 O O [] O (fun K h=>by rw [hres] at h; exact h))))
  | true =>
   rw [h1] at hV e0
   simp only [Bool.not_true,Bool.false_or,Bool.true_and,Bool.not_false,Bool.true_or] at e0
   refine ZD (fun bx=>?_)
   refine YT ?_
   refine Zn ?_
   refine o_ O (bp_ O u_ O ?_)
   refine M_ O (Ze ?_)
   refine Yf ?_
   refine Zg ?_
   refine ai_ O w_ b_ (ah_ O O b_ (bv_ O w_ O (o_ O (bv_ O O O (T_ (ap_ O O (as_ (al_ ?_))))))))
   refine am_ (R_ (E_ O (T_ (au_ (jc_loopS (ι:=Nat) [] (fun k=>k≤(t.args).length∧(t.args.take k).all (useB vs ar)=true) (fun k=>(7,In .i64 (k:Int)) :: [(3,.cell (.val (.pointer (some ⟨bx,0,none⟩)))),(1,.cell (.list (vs.map Wrow))),(2,.cell (.list (ar.map Wrow)))]) (fun _=>[.blk bx 69 t.row']) (fun k=>(t.args).length - k) 0 ⟨Nat.zero_le _,rfl⟩ ?_ ?_ ?_)))))
   ·exact Wy
   ·exact Ww
   rintro k ⟨hk,hIk⟩
   have eLk:((t.args).map T.row).length=(t.args).length:=List.length_map _
   by_cases hltk:k < (t.args).length
   ·have hlt2k:(k:Int) < (((t.args).map T.row).length:Int):=by omega
    cases hp:useB vs ar t.args[k] with
    | false =>
     have hC:=(ih t.args[k] (List.getElem_mem hltk))
     rw [hp] at hC
     have hres:useB vs ar t=false:=by rw [e0]; exact all_no hltk hp
     refine ZB ?_
     refine Zb (fun hlen=>?_)
     refine Y6 ?_
     refine Zy ?_
     refine Ys ?_
     refine aq_ O O (Zr ?_)
     refine aw_ (jq_ret1 O O [] O (fun K h=>by rw [hres] at h; exact h))
    | true =>
     have hC:=(ih t.args[k] (List.getElem_mem hltk))
     rw [hp] at hC
     refine ZB ?_
     refine Zb (fun hlen=>?_)
     refine Y6 ?_
     refine Zy ?_
     refine Ys ?_
     refine ap_ O O (as_ (Zk ?_))
     refine jq_againS (k+1) ⟨hltk,all_snoc hltk hIk hp⟩ g_ ?_ ?_
     ·exact Wy
     ·exact Ww
   ·have hlt2k:¬ (k:Int) < (((t.args).map T.row).length:Int):=by omega
    rw [List.take_of_length_le (by omega)] at hIk
    have hres:useB vs ar t=true:=by rw [e0]; exact hIk
    refine ZB ?_
    refine Zh (fun hlen=>?_)
    refine al_ (R_ (E_ O ?_))
    refine T_ (ar_ (jq_ret1 O O [] O (fun K h=>by rw [hres] at h; exact h)))
 by_cases hk3:t.kind=3
 ·rw [decide_eq_false hk2,decide_eq_true hk3] at e0
  cases h1:hasB ar t.name with
  | false =>
   rw [h1] at hA
   have hres:useB vs ar t=false:=by rw [e0,h1]; rfl
   refine ZD (fun bx=>?_)
   refine YT ?_
   refine Zg ?_
   refine YA ?_
   refine M_ O (Ze ?_)
   refine Yf ?_
   refine ah_ O u_ b_ (bd_ O (ZW ?_))
   refine bm_ O (hA) (ah_ O u_ b_ (cd_ O (YS ?_)))
   refine T_ (aq_ O O (R_ (E_ O ?_)))
   refine T_ (ar_ (aw_ (jq_ret1 O O [] O (fun K h=>by rw [hres] at h; exact h))))
  | true =>
   rw [h1] at hA e0
   simp only [Bool.not_true,Bool.false_or,Bool.true_and,Bool.not_false,Bool.true_or] at e0
   refine ZD (fun bx=>?_)
   refine YT ?_
   refine Zg ?_
   refine YA ?_
   refine M_ O (Ze ?_)
   refine Yf ?_
   refine ah_ O u_ b_ (bd_ O (ZW ?_))
   refine bm_ O (hA) (ah_ O u_ b_ (cd_ O (YS ?_)))
   refine T_ (ap_ O O (as_ (al_ ?_)))
   refine am_ (R_ (E_ O (T_ (au_ (jc_loopS (ι:=Nat) [] (fun k=>k≤(t.args).length∧(t.args.take k).all (useB vs ar)=true) (fun k=>(7,In .i64 (k:Int)) :: [(3,.cell (.val (.pointer (some ⟨bx,0,none⟩)))),(1,.cell (.list (vs.map Wrow))),(2,.cell (.list (ar.map Wrow)))]) (fun _=>[.blk bx 69 t.row']) (fun k=>(t.args).length - k) 0 ⟨Nat.zero_le _,rfl⟩ ?_ ?_ ?_)))))
   ·exact Wy
   ·exact Ww
   rintro k ⟨hk,hIk⟩
   have eLk:((t.args).map T.row).length=(t.args).length:=List.length_map _
   by_cases hltk:k < (t.args).length
   ·have hlt2k:(k:Int) < (((t.args).map T.row).length:Int):=by omega
    cases hp:useB vs ar t.args[k] with
    | false =>
     have hC:=(ih t.args[k] (List.getElem_mem hltk))
     rw [hp] at hC
     have hres:useB vs ar t=false:=by rw [e0]; exact all_no hltk hp
     refine ZB ?_
     refine Zb (fun hlen=>?_)
     refine Y6 ?_
     refine Zy ?_
     refine Ys ?_
     refine aq_ O O (Zr ?_)
     refine aw_ (jq_ret1 O O [] O (fun K h=>by rw [hres] at h; exact h))
    | true =>
     have hC:=(ih t.args[k] (List.getElem_mem hltk))
     rw [hp] at hC
     refine ZB ?_
     refine Zb (fun hlen=>?_)
     refine Y6 ?_
     refine Zy ?_
     refine Ys ?_
     refine ap_ O O (as_ (Zk ?_))
     refine jq_againS (k+1) ⟨hltk,all_snoc hltk hIk hp⟩ g_ ?_ ?_
     ·exact Wy
     ·exact Ww
   ·have hlt2k:¬ (k:Int) < (((t.args).map T.row).length:Int):=by omega
    rw [List.take_of_length_le (by omega)] at hIk
    have hres:useB vs ar t=true:=by rw [e0]; exact hIk
    refine ZB ?_
    refine Zh (fun hlen=>?_)
    refine al_ (R_ (E_ O ?_))
    refine T_ (ar_ (jq_ret1 O O [] O (fun K h=>by rw [hres] at h; exact h)))
 rw [decide_eq_false hk2,decide_eq_false hk3] at e0
 simp only [Bool.not_false,Bool.true_or,Bool.true_and] at e0
 refine ZD (fun bx=>?_)
 refine YT ?_
 refine Zg ?_
 refine YA ?_
 refine M_ O (Ze ?_)
 refine Yf ?_
 refine Zg ?_
 refine ai_ O w_ b_ (ah_ O O b_ (bv_ O w_ O (o_ O (bv_ O O O (T_ (ap_ O O (as_ (al_ ?_))))))))
 refine am_ (R_ (E_ O (T_ (au_ (jc_loopS (ι:=Nat) [] (fun k=>k≤(t.args).length∧(t.args.take k).all (useB vs ar)=true) (fun k=>(7,In .i64 (k:Int)) :: [(3,.cell (.val (.pointer (some ⟨bx,0,none⟩)))),(1,.cell (.list (vs.map Wrow))),(2,.cell (.list (ar.map Wrow)))]) (fun _=>[.blk bx 69 t.row']) (fun k=>(t.args).length - k) 0 ⟨Nat.zero_le _,rfl⟩ ?_ ?_ ?_)))))
 ·exact Wy
 ·exact Ww
 rintro k ⟨hk,hIk⟩
 have eLk:((t.args).map T.row).length=(t.args).length:=List.length_map _
 by_cases hltk:k < (t.args).length
 ·have hlt2k:(k:Int) < (((t.args).map T.row).length:Int):=by omega
  cases hp:useB vs ar t.args[k] with
  | false =>
   have hC:=(ih t.args[k] (List.getElem_mem hltk))
   rw [hp] at hC
   have hres:useB vs ar t=false:=by rw [e0]; exact all_no hltk hp
   refine ZB ?_
   refine Zb (fun hlen=>?_)
   refine Y6 ?_
   refine Zy ?_
   refine Ys ?_
   refine aq_ O O (Zr ?_)
   refine aw_ (jq_ret1 O O [] O (fun K h=>by rw [hres] at h; exact h))
  | true =>
   have hC:=(ih t.args[k] (List.getElem_mem hltk))
   rw [hp] at hC
   refine ZB ?_
   refine Zb (fun hlen=>?_)
   refine Y6 ?_
   refine Zy ?_
   refine Ys ?_
   refine ap_ O O (as_ (Zk ?_))
   refine jq_againS (k+1) ⟨hltk,all_snoc hltk hIk hp⟩ g_ ?_ ?_
   ·exact Wy
   ·exact Ww
 ·have hlt2k:¬ (k:Int) < (((t.args).map T.row).length:Int):=by omega
  rw [List.take_of_length_le (by omega)] at hIk
  have hres:useB vs ar t=true:=by rw [e0]; exact hIk
  refine ZB ?_
  refine Zh (fun hlen=>?_)
  refine al_ (R_ (E_ O ?_))
  refine T_ (ar_ (jq_ret1 O O [] O (fun K h=>by rw [hres] at h; exact h)))
theorem rwords_c:∀ t:T,Con Tryz.prog 204 [.row t.row'] [] (fun K=>K (Bl (wdT t)) []):=by
 refine T.ind (fun t ih=>?_)
 have e0:=wdT_eq t
 refine con_intro Tryz.func204 O O b_ (fun c hc=>?_)
 by_cases h1:t.num < -2147483648
 ·have hres:wdT t=false:=by rw [e0,decide_eq_false (by omega)]; rfl
  refine ZD (fun bx=>?_)
  refine F_ O (L_ 0 O (o_ O (bw_ O O (M_ O (Yg ?_)))))
  refine o_ O (bp_ O u_ O (T_ (aq_ O O ?_)))
  refine R_ (E_ O (T_ (ar_ (aw_ (jq_ret1 O O [] O (fun K h=>by rw [hres] at h; exact h))))))
 by_cases h2:t.num ≥ 2147483648
 ·have hres:wdT t=false:=by rw [e0,decide_eq_false (show ¬ t.num < 2147483648 by omega),Bool.and_false]; rfl
  refine ZD (fun bx=>?_)
  refine F_ O (L_ 0 O (o_ O (bw_ O O (ZJ ?_))))
  refine ah_ O w_ b_ (cn_ O O (o_ O (bv_ O w_ O (T_ (aq_ O u_ ?_)))))
  refine R_ (E_ O (T_ (ar_ (aw_ (jq_ret1 O O [] O (fun K h=>by rw [hres] at h; exact h))))))
 rw [decide_eq_true (show -2147483648≤t.num by omega),decide_eq_true (show t.num < 2147483648 by omega),Bool.true_and,Bool.true_and] at e0
 refine ZD (fun bx=>?_)
 refine F_ O (L_ 0 O (o_ O (bw_ O O (ZJ ?_))))
 refine ah_ O w_ b_ (cn_ O O (o_ O (bv_ O w_ O (T_ (ap_ O w_ ?_)))))
 refine as_ (al_ (am_ (R_ (E_ O (T_ (au_ (jc_loopS (ι:=Nat) [] (fun k=>k≤(t.args).length∧(t.args.take k).all (wdT)=true) (fun k=>(3,In .i64 (k:Int)) :: [(1,.cell (.val (.pointer (some ⟨bx,0,none⟩))))]) (fun _=>[.blk bx 69 t.row']) (fun k=>(t.args).length - k) 0 ⟨Nat.zero_le _,rfl⟩ ?_ ?_ ?_)))))))
 ·exact Wy
 ·exact Ww
 rintro k ⟨hk,hIk⟩
 have eLk:((t.args).map T.row).length=(t.args).length:=List.length_map _
 by_cases hltk:k < (t.args).length
 ·have hlt2k:(k:Int) < (((t.args).map T.row).length:Int):=by omega
  cases hp:wdT t.args[k] with
  | false =>
   have hC:=(ih t.args[k] (List.getElem_mem hltk))
   rw [hp] at hC
   have hres:wdT t=false:=by rw [e0]; exact all_no hltk hp
   refine ZB ?_
   refine Zb (fun hlen=>?_)
   refine Y6 ?_
   refine Zy ?_
   refine o_ O (bm_ O (hC) (o_ O (cd_ O (T_ (aq_ O O (Zr ?_))))))
   refine aw_ (jq_ret1 O O [] O (fun K h=>by rw [hres] at h; exact h))
  | true =>
   have hC:=(ih t.args[k] (List.getElem_mem hltk))
   rw [hp] at hC
   refine ZB ?_
   refine Zb (fun hlen=>?_)
   refine Y6 ?_
   refine Zy ?_
   refine o_ O (bm_ O (hC) (o_ O (cd_ O (T_ (ap_ O O (as_ (Zk ?_)))))))
   refine jq_againS (k+1) ⟨hltk,all_snoc hltk hIk hp⟩ g_ ?_ ?_
   ·exact Wy
   ·exact Ww
 ·have hlt2k:¬ (k:Int) < (((t.args).map T.row).length:Int):=by omega
  rw [List.take_of_length_le (by omega)] at hIk
  have hres:wdT t=true:=by rw [e0]; exact hIk
  refine ZB ?_
  refine Zh (fun hlen=>?_)
  refine al_ (R_ (E_ O ?_))
  refine T_ (ar_ (jq_ret1 O O [] O (fun K h=>by rw [hres] at h; exact h)))
theorem rfree_c (p:Pg) (hd:ByteArray):∀ t:T,Con Tryz.prog 173 [.row p.row,.row t.row',Str hd] [] (fun K=>K (Bl (freeB p.shared hd t)) []):=by
 refine T.ind (fun t ih=>?_)
 have e0:=freeB_eq p.shared hd t
 refine con_intro Tryz.func173 O O b_ (fun c hc=>?_)
 by_cases hk:t.kind=3
 ·cases h1:allowB p.shared hd t.name with
  | false =>
   have hA:=rallowed_c p t.name hd
   rw [h1] at hA
   have hres:freeB p.shared hd t=false:=by rw [e0,h1,decide_eq_true hk]; rfl
   refine R_ (o_ O (ci_ O (fun bx=>o_ O (ci_ O (fun bx=>E_ O (T_ (am_ (Yh ?_))))))))
   refine bn_ O O (M_ O (ah_ O u_ b_ (bs_ 1 O O O O (ZW ?_))))
   refine bd_ O (ah_ O u_ b_ (bm_ O (hA) ?_))
   refine ah_ O u_ b_ (cd_ O (o_ O (bp_ O u_ O (ZK ?_))))
   refine aw_ (jq_ret1 O O [] O (fun K h=>by rw [hres] at h; exact h))
  | true =>
   have hA:=rallowed_c p t.name hd
   rw [h1] at hA
   rw [h1,Bool.or_true,Bool.true_and] at e0
   refine R_ (o_ O (ci_ O (fun bx=>o_ O (ci_ O (fun bx=>E_ O (T_ (am_ (Yh ?_))))))))
   refine bn_ O O (M_ O (ah_ O u_ b_ (bs_ 1 O O O O (ZW ?_))))
   refine bd_ O (ah_ O u_ b_ (bm_ O (hA) ?_))
   refine ah_ O u_ b_ (cd_ O (o_ O (bp_ O u_ O (Wl ?_))))
   refine R_ (E_ O (T_ ?_))
   rename_i b0
   refine au_ (jc_loopS (ι:=Nat) [] (fun k=>k≤(t.args).length∧(t.args.take k).all (freeB p.shared hd)=true) (fun k=>(7,In .i64 (k:Int)) :: [(3,.cell (.val (.pointer (some ⟨b0,0,none⟩)))),(4,.cell (.val (.pointer (some ⟨bx,0,none⟩)))),(2,Str hd)]) (fun _=>[.blk bx 69 t.row',.blk b0 31 p.row]) (fun k=>(t.args).length - k) 0 ⟨Nat.zero_le _,rfl⟩ ?_ ?_ ?_)
   ·exact Wx
   ·exact Ww
   rintro k ⟨hk,hIk⟩
   have eLk:((t.args).map T.row).length=(t.args).length:=List.length_map _
   by_cases hltk:k < (t.args).length
   ·have hlt2k:(k:Int) < (((t.args).map T.row).length:Int):=by omega
    cases hp:freeB p.shared hd t.args[k] with
    | false =>
     have hC:=(ih t.args[k] (List.getElem_mem hltk))
     rw [hp] at hC
     have hres:freeB p.shared hd t=false:=by rw [e0]; exact all_no hltk hp
     refine ZB ?_
     refine Zb (fun hlen=>?_)
     refine Wh ?_
     refine yF_ O ?_
     refine ZU ?_
     refine aq_ O O (R_ (E_ O (T_ (ar_ (az_ (aw_ ?_))))))
     refine aw_ (az_ (aw_ (jq_ret1 O O [] O (fun K h=>by rw [hres] at h; exact h))))
    | true =>
     have hC:=(ih t.args[k] (List.getElem_mem hltk))
     rw [hp] at hC
     refine ZB ?_
     refine Zb (fun hlen=>?_)
     refine Wh ?_
     refine yF_ O ?_
     refine ZU ?_
     refine ap_ O O (as_ (Wt ?_))
     refine E_ O (ak_ (jq_againS (k+1) ⟨hltk,all_snoc hltk hIk hp⟩ g_ ?_ ?_))
     ·exact Wx
     ·exact Ww
   ·have hlt2k:¬ (k:Int) < (((t.args).map T.row).length:Int):=by omega
    rw [List.take_of_length_le (by omega)] at hIk
    have hres:freeB p.shared hd t=true:=by rw [e0]; exact hIk
    refine ZB ?_
    refine Zh (fun hlen=>?_)
    refine al_ (R_ (E_ O ?_))
    refine T_ (ar_ (jq_ret1 O O [] O (fun K h=>by rw [hres] at h; exact h)))
 ·rw [decide_eq_false hk,Bool.not_false,Bool.true_or,Bool.true_and] at e0
  refine R_ (o_ O (ci_ O (fun bx=>o_ O (ci_ O (fun bx=>E_ O (T_ (am_ (Yh ?_))))))))
  refine bn_ O O (M_ O (Zg ?_))
  refine ai_ O w_ b_ ?_
  refine YA ?_
  refine Wl ?_
  refine R_ (E_ O (T_ ?_))
  rename_i b0
  refine au_ (jc_loopS (ι:=Nat) [] (fun k=>k≤(t.args).length∧(t.args.take k).all (freeB p.shared hd)=true) (fun k=>(7,In .i64 (k:Int)) :: [(3,.cell (.val (.pointer (some ⟨b0,0,none⟩)))),(4,.cell (.val (.pointer (some ⟨bx,0,none⟩)))),(2,Str hd)]) (fun _=>[.blk bx 69 t.row',.blk b0 31 p.row]) (fun k=>(t.args).length - k) 0 ⟨Nat.zero_le _,rfl⟩ ?_ ?_ ?_)
  ·exact Wx
  ·exact Ww
  rintro k ⟨hk,hIk⟩
  have eLk:((t.args).map T.row).length=(t.args).length:=List.length_map _
  by_cases hltk:k < (t.args).length
  ·have hlt2k:(k:Int) < (((t.args).map T.row).length:Int):=by omega
   cases hp:freeB p.shared hd t.args[k] with
   | false =>
    have hC:=(ih t.args[k] (List.getElem_mem hltk))
    rw [hp] at hC
    have hres:freeB p.shared hd t=false:=by rw [e0]; exact all_no hltk hp
    refine ZB ?_
    refine Zb (fun hlen=>?_)
    refine Wh ?_
    refine yF_ O ?_
    refine ZU ?_
    refine aq_ O O (R_ (E_ O (T_ (ar_ (az_ (aw_ ?_))))))
    refine aw_ (az_ (aw_ (jq_ret1 O O [] O (fun K h=>by rw [hres] at h; exact h))))
   | true =>
    have hC:=(ih t.args[k] (List.getElem_mem hltk))
    rw [hp] at hC
    refine ZB ?_
    refine Zb (fun hlen=>?_)
    refine Wh ?_
    refine yF_ O ?_
    refine ZU ?_
    refine ap_ O O (as_ (Wt ?_))
    refine E_ O (ak_ (jq_againS (k+1) ⟨hltk,all_snoc hltk hIk hp⟩ g_ ?_ ?_))
    ·exact Wx
    ·exact Ww
  ·have hlt2k:¬ (k:Int) < (((t.args).map T.row).length:Int):=by omega
   rw [List.take_of_length_le (by omega)] at hIk
   have hres:freeB p.shared hd t=true:=by rw [e0]; exact hIk
   refine ZB ?_
   refine Zh (fun hlen=>?_)
   refine al_ (R_ (E_ O ?_))
   refine T_ (ar_ (jq_ret1 O O [] O (fun K h=>by rw [hres] at h; exact h)))
end Go.Proofs.YtalkkcfojplmdaaGreatDoor
end
section
namespace Go.Proofs.YtalkkcfojplmdaaGreatDoor
open Go.Vc
set_option maxHeartbeats 1000000
structure Jb where
 V:List (ByteArray × Int)
 ca:List Int
 cb:List Int
 cn:List Int
 st:Int
abbrev AMt:=List (ByteArray × Bool)
def Jb.arr (AM:AMt) (j:Jb):List (ByteArray × List Int):=AM.map (fun e=>(e.1,cond e.2 j.ca j.cb))
def evJ (AM:AMt) (j:Jb) (e:T):Int:=evF j.V (j.arr AM) 20 e
def Jb.up (j:Jb) (i:Int):Jb:={ j with cn:=j.cn.set i.toNat (j.cn.getD i.toNat 0+1) }
def Jb.step (j:Jb):Jb:={ j with st:=j.st+1 }
def hd0 (l:List T):T:=l.headD (.nu 0)
def Jb.put (AM:AMt) (j:Jb) (nm:ByteArray) (i n:Int):Jb:=match aget AM nm with
 | none=>j
 | some true=>{ j with ca:=j.ca.set (i % j.ca.length).toNat n }
 | some false=>{ j with cb:=j.cb.set (i % j.cb.length).toNat n }
def whI (AM:AMt) (c:T) (lb:Int) (body:Jb→Jb):Nat→Jb→Jb
 | 0,j=>j
 | n+1,j=>if evJ AM j.step c=0 then j.step else whI AM c lb body n (body (j.step.up (3 * lb+1)))
mutual
def runS (AM:AMt):Sm→Jb→Jb
 | .mk k nm i v mx lb t e,j =>
  if k=1 then Jb.step { j with V:=aset j.V nm (evJ AM j (hd0 v)) }
  else if k=2 then (j.put AM nm (evJ AM j (hd0 i)) (evJ AM j (hd0 v))).step
  else if k=3 then (if evJ AM (j.up (3 * lb)).step (hd0 v)≠0 then runL AM t ((j.up (3 * lb)).step.up (3 * lb+1)) else runL AM e ((j.up (3 * lb)).step.up (3 * lb+2)))
  else if k=4 then (whI AM (hd0 v) lb (runL AM t) mx.toNat (j.up (3 * lb))).up (3 * lb+2)
  else if k=5 then runL AM t j else j
def runL (AM:AMt):List Sm→Jb→Jb
 | [],j=>j
 | s :: l,j=>runL AM l (runS AM s j)
end
theorem runL_app (AM:AMt):∀ (l m:List Sm) (j:Jb),runL AM (l ++ m) j=runL AM m (runL AM l j)
 | [],m,j=>by rw [List.nil_append,runL]
 | s :: l,m,j=>by rw [List.cons_append,runL,runL,runL_app AM l m]
theorem runL_step {AM:AMt} {l:List Sm} {k:Nat} (h:k < l.length) (j:Jb):runL AM (l.take (k+1)) j=runS AM l[k] (runL AM (l.take k) j):=by
 rw [List.take_succ_eq_append_getElem h,runL_app,runL,runL]
theorem runS_eq (AM:AMt) (s:Sm) (j:Jb):runS AM s j =
 if s.kind=1 then Jb.step { j with V:=aset j.V s.name (evJ AM j (hd0 s.value)) }
 else if s.kind=2 then (j.put AM s.name (evJ AM j (hd0 s.index)) (evJ AM j (hd0 s.value))).step
 else if s.kind=3 then (if evJ AM (j.up (3 * s.label)).step (hd0 s.value)≠0 then runL AM s.thn ((j.up (3 * s.label)).step.up (3 * s.label+1)) else runL AM s.els ((j.up (3 * s.label)).step.up (3 * s.label+2)))
 else if s.kind=4 then (whI AM (hd0 s.value) s.label (runL AM s.thn) s.max.toNat (j.up (3 * s.label))).up (3 * s.label+2)
 else if s.kind=5 then runL AM s.thn j else j:=by
 cases s
 rw [runS]
 rfl
mutual
def Sm.rok (ar:ByteArray→Bool):Sm→Bool
 | .mk k nm i v _ lb t e=>if k=1 then !v.isEmpty else if k=2 then !i.isEmpty && !v.isEmpty && ar nm
  else if k=3 then !v.isEmpty && decide (0≤lb) && decide (lb≤12) && Sm.roks ar t && Sm.roks ar e
  else if k=4 then !v.isEmpty && decide (0≤lb) && decide (lb≤12) && Sm.roks ar t else if k=5 then Sm.roks ar t else true
def Sm.roks (ar:ByteArray→Bool):List Sm→Bool
 | []=>true
 | s :: l=>s.rok ar && Sm.roks ar l
end
theorem roks_mem {ar:ByteArray→Bool}:∀ {l:List Sm},Sm.roks ar l=true→∀ s ∈ l,s.rok ar=true
 | u :: l,h,s,hs=>by
  rw [Sm.roks,Bool.and_eq_true] at h
  rcases List.mem_cons.1 hs with rfl | hs
  ·exact h.1
  ·exact roks_mem h.2 s hs
theorem rok_eq (ar:ByteArray→Bool) (s:Sm):s.rok ar=if s.kind=1 then !s.value.isEmpty else if s.kind=2 then !s.index.isEmpty && !s.value.isEmpty && ar s.name
 else if s.kind=3 then !s.value.isEmpty && decide (0≤s.label) && decide (s.label≤12) && Sm.roks ar s.thn && Sm.roks ar s.els
 else if s.kind=4 then !s.value.isEmpty && decide (0≤s.label) && decide (s.label≤12) && Sm.roks ar s.thn else if s.kind=5 then Sm.roks ar s.thn else true:=by
 cases s; rfl
mutual
def Sm.cst:Sm→Nat
 | .mk k _ _ _ mx _ t e=>if k=1 then 1 else if k=2 then 1 else if k=3 then 3+Sm.csts t+Sm.csts e else if k=4 then 2+mx.toNat * (2+Sm.csts t) else if k=5 then Sm.csts t else 0
def Sm.csts:List Sm→Nat
 | []=>0
 | s :: l=>s.cst+Sm.csts l
end
theorem cst_eq (s:Sm):s.cst=if s.kind=1 then 1 else if s.kind=2 then 1 else if s.kind=3 then 3+Sm.csts s.thn+Sm.csts s.els else if s.kind=4 then 2+s.max.toNat * (2+Sm.csts s.thn) else if s.kind=5 then Sm.csts s.thn else 0:=by cases s; rfl
theorem csts_app:∀ l m:List Sm,Sm.csts (l ++ m)=Sm.csts l+Sm.csts m
 | [],m=>by rw [List.nil_append,Sm.csts,Nat.zero_add]
 | s :: l,m=>by rw [List.cons_append,Sm.csts,Sm.csts,csts_app l m]; omega
theorem csts_take {l:List Sm} {k:Nat} (h:k < l.length):Sm.csts (l.take k)+l[k].cst≤Sm.csts l:=by
 have e1:Sm.csts (l.take (k+1))=Sm.csts (l.take k)+l[k].cst:=by
  rw [List.take_succ_eq_append_getElem h,csts_app,Sm.csts,Sm.csts,Nat.add_zero]
 have e2:=csts_app (l.take (k+1)) (l.drop (k+1))
 rw [List.take_append_drop] at e2
 omega
structure Jb.ok (ma mb:Nat) (N:Nat) (j:Jb):Prop where
 st:0≤j.st∧j.st≤N
 cn:∀ x ∈ j.cn,0≤x∧x≤N
 len:j.cn.length=39
 ca:j.ca.length=ma
 cb:j.cb.length=mb
variable {ma mb N M:Nat} {j:Jb} {AM:AMt}
theorem Jb.ok.mono (h:j.ok ma mb N) (hN:N≤M):j.ok ma mb M:=⟨by have:=h.st; omega,fun x hx=>by have:=h.cn x hx; omega,h.len,h.ca,h.cb⟩
theorem getD_ok (h:j.ok ma mb N) (i:Nat):0≤j.cn.getD i 0∧j.cn.getD i 0≤N:=by
 rw [List.getD_eq_getElem?_getD]
 cases hi:j.cn[i]? with
 | none=>exact ⟨Int.le_refl _,by show (0:Int)≤N; omega⟩
 | some x=>exact h.cn x (List.mem_of_getElem? hi)
theorem Jb.ok.up (h:j.ok ma mb N) (i:Int):(j.up i).ok ma mb (N+1):=by
 have hg:=getD_ok h i.toNat
 refine ⟨by have:=h.st; show 0≤j.st∧j.st≤_; omega,fun x hx=>?_,by show (j.cn.set _ _).length=39; rw [List.length_set]; exact h.len,h.ca,h.cb⟩
 rcases List.mem_or_eq_of_mem_set hx with hx | rfl
 ·have:=h.cn x hx; omega
 ·omega
theorem Jb.ok.step (h:j.ok ma mb N):j.step.ok ma mb (N+1):=⟨by have:=h.st; show 0≤j.st+1∧j.st+1≤_; omega,fun x hx=>by have:=h.cn x hx; omega,h.len,h.ca,h.cb⟩
theorem Jb.ok.up' (h:j.ok ma mb N) (i:Int) (hN:N+1≤M):(j.up i).ok ma mb M:=(h.up i).mono hN
theorem Jb.ok.put (h:j.ok ma mb N) (nm:ByteArray) (i n:Int):(j.put AM nm i n).ok ma mb N:=by
 unfold Jb.put
 split
 ·exact h
 ·exact ⟨h.st,h.cn,h.len,by rw [List.length_set]; exact h.ca,h.cb⟩
 ·exact ⟨h.st,h.cn,h.len,h.ca,by rw [List.length_set]; exact h.cb⟩
theorem Jb.ok.var (h:j.ok ma mb N) (V:List (ByteArray × Int)):({ j with V:=V }:Jb).ok ma mb N:=⟨h.st,h.cn,h.len,h.ca,h.cb⟩
theorem whI_ok {c:T} {lb:Int} {body:Jb→Jb} {B:Nat} (hb:∀ N j,Jb.ok ma mb N j→(body j).ok ma mb (N+B)):∀ (n N:Nat) (j:Jb),j.ok ma mb N→(whI AM c lb body n j).ok ma mb (N+n * (2+B))
 | 0,N,j,h=>by rw [whI]; exact h.mono (by omega)
 | n+1,N,j,h=>by
  rw [whI]
  have e:(n+1) * (2+B)=n * (2+B)+(2+B):=by rw [Nat.add_mul,Nat.one_mul]
  split
  ·exact h.step.mono (by omega)
  ·exact (whI_ok hb n _ _ (hb _ _ (h.step.up _))).mono (by omega)
theorem runL_ok (AM:AMt):∀ l:List Sm,∀ (N:Nat) (j:Jb),j.ok ma mb N→(runL AM l j).ok ma mb (N+Sm.csts l):=by
 refine Sms.ind (fun l ih N j h=>?_)
 have key:∀ k,k≤l.length→(runL AM (l.take k) j).ok ma mb (N+Sm.csts (l.take k)):=by
  intro k
  induction k with
  | zero=>intro _; rw [List.take_zero,runL]; exact h.mono (by omega)
  | succ k ihk =>
   intro hk
   have h1:=ihk (by omega)
   obtain ⟨i1,i2⟩:=ih l[k] (List.getElem_mem (by omega))
   rw [runL_step (by omega),runS_eq]
   have e1:Sm.csts (l.take (k+1))=Sm.csts (l.take k)+l[k].cst:=by
    rw [List.take_succ_eq_append_getElem (by omega),csts_app,Sm.csts,Sm.csts,Nat.add_zero]
   rw [e1,cst_eq]
   split
   ·exact (h1.var _).step.mono (by omega)
   split
   ·exact (h1.put _ _ _).step.mono (by omega)
   split
   ·split
    ·exact (i1 _ _ ((h1.up _).step.up _)).mono (by omega)
    ·exact (i2 _ _ ((h1.up _).step.up _)).mono (by omega)
   split
   ·exact (whI_ok (B:=Sm.csts l[k].thn) (fun N j h=>i1 N j h) _ _ _ (h1.up _)).up' _ (by omega)
   split
   ·exact (i1 _ _ h1).mono (by omega)
   ·exact h1.mono (by omega)
 have:=key l.length (Nat.le_refl _)
 rw [List.take_of_length_le (Nat.le_refl _)] at this
 exact this
end Go.Proofs.YtalkkcfojplmdaaGreatDoor
end
section
namespace Go.Proofs.YtalkkcfojplmdaaGreatDoor
open Go.Vc
attribute [local irreducible] JL JC JQ OpWp Con ConN HOk
attribute [local irreducible] byteAt runLen isL isD isName hasW
set_option maxHeartbeats 4000000
mutual
def Sm.lns:Sm→Prop
 | .mk _ _ i v _ _ t e=>i.length≤1000∧v.length≤1000∧Sm.lnss t∧Sm.lnss e
def Sm.lnss:List Sm→Prop
 | []=>True
 | s :: l=>s.lns∧Sm.lnss l
end
theorem Sm.lnss_mem:∀ {l:List Sm},Sm.lnss l→∀ s ∈ l,s.index.length≤1000∧s.value.length≤1000∧Sm.lnss s.thn∧Sm.lnss s.els
 | u :: l,h,s,hs=>by
  rw [Sm.lnss] at h
  rcases List.mem_cons.1 hs with rfl | hs
  ·cases s; exact h.1
  ·exact Sm.lnss_mem h.2 s hs
theorem wds_eq (s:Sm):s.wds=(decide (0≤s.max) && decide (s.max≤32) && (s.index ++ s.value).all wdT && Sm.wdss s.thn && Sm.wdss s.els):=by
 cases s
 simp only [Sm.wds,Sm.max,Sm.index,Sm.value,Sm.thn,Sm.els,List.all_append,Bool.and_assoc]
 rfl
def nmOne (vs ar rs:List ByteArray) (s:Sm):Bool:=if s.kind=1 then hasB vs s.name else if s.kind=2 then hasB ar s.name else if s.kind=5 then hasB rs s.name else true
theorem nms_eq (vs ar rs:List ByteArray) (s:Sm):s.nms vs ar rs=(nmOne vs ar rs s && (s.index ++ s.value).all (useB vs ar) && Sm.nmss vs ar rs s.thn && Sm.nmss vs ar rs s.els):=by
 cases s
 simp only [Sm.nms,nmOne,Sm.kind,Sm.name,Sm.index,Sm.value,Sm.thn,Sm.els,List.all_append,Bool.and_assoc]
 rfl
theorem rranged_c :∀ l:List Sm,Sm.lnss l→Con Tryz.prog 171 [.cell (.list (l.map Sm.row))] [] (fun K=>K (Bl (Sm.wdss l)) []):=by
 refine Sms.ind (fun l ih hl=>?_)
 have e0:=Sm.wdss_all l
 have eL:(l.map Sm.row).length=l.length:=List.length_map _
 refine con_intro Tryz.func171 O O b_ (fun c hc=>ZO ?_)
 refine jc_loopS (ι:=Nat) [] (fun k=>k≤l.length∧(l.take k).all (Sm.wds)=true) (fun k=>(3,In .i64 (k:Int)) :: [(0,.cell (.list (l.map Sm.row)))]) (fun _=>[]) (fun k=>l.length - k) 0 ⟨Nat.zero_le _,rfl⟩ ?_ ?_ ?_
 ·exact sub_end
 ·exact Ww
 rintro k ⟨hk,hI⟩
 by_cases hlt:k < l.length
 ·have hlt2:(k:Int) < ((l.map Sm.row).length:Int):=by omega
  obtain ⟨i1,i2⟩:=ih l[k] (List.getElem_mem hlt)
  obtain ⟨z1,z2,z3,z4⟩:=Sm.lnss_mem hl l[k] (List.getElem_mem hlt)
  have c1:=i1 z3
  have c2:=i2 z4
  have e1:=wds_eq l[k]
  by_cases h1:l[k].max < 0
  ·have hres:Sm.wdss l=false:=by rw [e0]; exact all_no hlt (by rw [e1,decide_eq_false (show ¬ 0≤l[k].max by omega)]; rfl)
   refine Yu ?_
   refine Zb (fun hlen=>?_)
   refine R_ (M_ O (M_ O (Zq ?_)))
   refine Yt (fun bl=>?_)
   refine am_ (Yh ?_)
   refine bw_ O O (M_ O (Yg ?_))
   refine o_ O (bp_ O u_ O (M_ O (ai_ O O b_ (ai_ O O b_ ?_))))
   refine Z5 ?_
   refine M_ O (Zd ?_)
   refine o_ O (bp_ O O O (ZK ?_))
   refine aw_ ?_
   refine az_ (aw_ (aw_ (az_ (aw_ (jq_ret1 O O [] O (fun K h=>by rw [hres] at h; exact h))))))
  by_cases h2:l[k].max > 32
  ·have hres:Sm.wdss l=false:=by rw [e0]; exact all_no hlt (by rw [e1,decide_eq_false (show ¬ l[k].max≤32 by omega),Bool.and_false]; rfl)
   refine Yu ?_
   refine Zb (fun hlen=>?_)
   refine R_ (M_ O (M_ O (Zq ?_)))
   refine Yt (fun bl=>?_)
   refine am_ (Yh ?_)
   refine bw_ O O (ZJ ?_)
   refine ah_ O w_ b_ (bz_ O O (o_ O (bv_ O w_ O (M_ O (ai_ O u_ b_ (ai_ O u_ b_ ?_))))))
   refine ai_ O u_ b_ (ai_ O u_ b_ (o_ O (bp_ O u_ O (M_ O (Zd ?_)))))
   refine o_ O (bp_ O O O (ZK ?_))
   refine aw_ ?_
   refine az_ (aw_ (aw_ (az_ (aw_ (jq_ret1 O O [] O (fun K h=>by rw [hres] at h; exact h))))))
  rw [decide_eq_true (show 0≤l[k].max by omega),decide_eq_true (show l[k].max≤32 by omega),Bool.true_and,Bool.true_and] at e1
  cases h3:Sm.wdss l[k].thn with
  | false =>
   rw [h3] at c1
   have hres:Sm.wdss l=false:=by rw [e0]; exact all_no hlt (by rw [e1,h3,Bool.and_false]; rfl)
   refine Yu ?_
   refine Zb (fun hlen=>?_)
   refine R_ (M_ O (M_ O (Zq ?_)))
   refine Yt (fun bl=>?_)
   refine am_ (Yh ?_)
   refine bw_ O O (ZJ ?_)
   refine ah_ O w_ b_ (bz_ O O (o_ O (bv_ O w_ O (ZJ ?_))))
   refine ah_ O w_ b_ (bm_ O (c1) (ah_ O w_ b_ (cd_ O (o_ O (bv_ O w_ O (M_ O (Zd ?_)))))))
   refine o_ O (bp_ O O O (ZK ?_))
   refine aw_ ?_
   refine az_ (aw_ (aw_ (az_ (aw_ (jq_ret1 O O [] O (fun K h=>by rw [hres] at h; exact h))))))
  | true =>
   rw [h3] at c1
   cases h4:Sm.wdss l[k].els with
   | false =>
    rw [h4] at c2
    have hres:Sm.wdss l=false:=by rw [e0]; exact all_no hlt (by rw [e1,h4,Bool.and_false])
    refine Yu ?_
    refine Zb (fun hlen=>?_)
    refine R_ (M_ O (M_ O (Zq ?_)))
    refine Yt (fun bl=>?_)
    refine am_ (Yh ?_)
    refine bw_ O O (ZJ ?_)
    refine ah_ O w_ b_ (bz_ O O (o_ O (bv_ O w_ O (ZJ ?_))))
    refine ah_ O w_ b_ (bm_ O (c1) (ah_ O w_ b_ (cd_ O (o_ O (bv_ O w_ O (M_ O (Ze ?_)))))))
    refine bm_ O (c2) (ZQ ?_)
    refine ZK ?_
    refine aw_ ?_
    refine az_ (aw_ (aw_ (az_ (aw_ (jq_ret1 O O [] O (fun K h=>by rw [hres] at h; exact h))))))
   | true =>
    rw [h4] at c2
    rw [h3,h4,Bool.and_true,Bool.and_true] at e1
    refine Yu ?_
    refine Zb (fun hlen=>?_)
    refine R_ (M_ O (M_ O (Zq ?_)))
    refine Yt (fun bl=>?_)
    refine am_ (Yh ?_)
    refine bw_ O O (ZJ ?_)
    refine ah_ O w_ b_ (bz_ O O (o_ O (bv_ O w_ O (ZJ ?_))))
    refine ah_ O w_ b_ (bm_ O (c1) (ah_ O w_ b_ (cd_ O (o_ O (bv_ O w_ O (M_ O (Ze ?_)))))))
    refine bm_ O (c2) (ZQ ?_)
    refine Wl ?_
    refine jc_hp1 7 (n:=8) O 0 k_ O (fun cs1 hcs1=>?_)
    obtain ⟨u10,u11,u12,u13,u14,u15,u16,u17,rfl⟩:=len8 hcs1
    refine df_ (i:=1) O k_ k_ k_ b_ ZP (dl_ O O O b_) ?_
    refine df_ (i:=2) O k_ k_ k_ b_ ZP (dm_ 0 O O O mem0 O) ?_
    refine df_ (i:=4) O k_ k_ k_ b_ ZP (dl_ O O O b_) ?_
    refine df_ (i:=5) O k_ k_ k_ b_ ZP (dm_ 0 O O O mem0 O) ?_
    refine hp_exact 0 O mem0 (dg_ (i:=0) O k_ b_ (ow_buildSliceOwn (rows:=([]:List T).map T.row) O O b_ O O b_ (fun v0 _ fv0=>⟨?_,?_⟩)))
    exact keep1 1 O
    refine dg_ (i:=3) O k_ b_ (ow_appendM 0 (f:=T.row) (l1:=[]) (l2:=l[k].index) O O O O O O O (fun x=>by rw [T.row_eq];rfl) (by show (0+_) * 64≤_;omega) (by show 0+_≤_;omega) (fun v1 _=>⟨?_,?_⟩))
    exact keep1 1 O
    refine dg_ (i:=6) O k_ b_ (ow_appendM 0 (f:=T.row) (l1:=l[k].index) (l2:=l[k].value) O O O O O O O (fun x=>by rw [T.row_eq];rfl) (by show (_+_) * 64≤_;omega) g_ (fun v2 _=>⟨?_,?_⟩))
    exact keep1 1 O
    refine hp_tail (di_ (i:=7) O k_ b_ (by decide) (be_ O (ht_done k_ (jq_freeze 5 0 O O (by rw [hc]; simp [hb]) ?_))))
    generalize l[k].index ++ l[k].value=A at e1 ⊢
    have eA:(A.map T.row).length=A.length:=List.length_map _
    refine al_ (R_ (E_ O (T_ (au_ (jc_loopS (ι:=Nat) [] (fun j=>j≤A.length∧(A.take j).all (wdT)=true) (fun j=>(6,In .i64 (j:Int)) :: (5,.cell (.list (A.map T.row))) :: (3,In .i64 (k:Int)) :: [(0,.cell (.list (l.map Sm.row)))]) (fun _=>[]) (fun j=>A.length - j) 0 ⟨Nat.zero_le _,rfl⟩ ?_ ?_ ?_)))))
    ·exact sub_end
    ·exact Ww
    rintro j ⟨hj,hIj⟩
    by_cases hltj:j < A.length
    ·have hltj2:(j:Int) < ((A.map T.row).length:Int):=by omega
     have hC:=rwords_c A[j]
     cases hp:wdT A[j] with
     | false =>
      rw [hp] at hC
      have hres:Sm.wdss l=false:=by rw [e0]; exact all_no hlt (by rw [e1]; exact all_no hltj hp)
      refine Yu ?_
      refine Zb (fun hlen=>?_)
      refine R_ (M_ O (M_ O (Zy ?_)))
      refine o_ O (bm_ O (hC) (o_ O (cd_ O (T_ (aq_ O O (Zr ?_))))))
      refine az_ (aw_ (aw_ (az_ ?_)))
      refine aw_ (jq_ret1 O O [] O (fun K h=>by rw [hres] at h; exact h))
     | true =>
      rw [hp] at hC
      refine Yu ?_
      refine Zb (fun hlen=>?_)
      refine R_ (M_ O (M_ O (Zy ?_)))
      refine o_ O (bm_ O (hC) (o_ O (cd_ O (T_ (ap_ O O (as_ (Zk ?_)))))))
      refine jq_againS (j+1) ⟨hltj,all_snoc hltj hIj hp⟩ g_ ?_ ?_
      ·exact sub_end
      ·exact Ww
    ·have hltj2:¬ (j:Int) < ((A.map T.row).length:Int):=by omega
     rw [List.take_of_length_le (by omega)] at hIj
     refine Yu ?_
     refine Zh (fun hlen=>?_)
     refine ay_ (al_ (an_ (M_ O ?_)))
     refine o_ O (bj_ O O g_ (E_ O (ak_ (jq_againS (i:=k) (k+1) ⟨hlt,all_snoc hlt hI (by rw [e1]; exact hIj)⟩ g_ ?_ ?_))))
     ·exact sub_end
     ·exact Ww
 ·have hlt2:¬ (k:Int) < ((l.map Sm.row).length:Int):=by omega
  rw [List.take_of_length_le (by omega)] at hI
  have hres:Sm.wdss l=true:=by rw [e0]; exact hI
  refine Yu ?_
  refine Zh (fun hlen=>?_)
  refine al_ (R_ (E_ O (T_ ?_)))
  refine ar_ (jq_ret1 O O [] O (fun K h=>by rw [hres] at h; exact h))
theorem rdeclared_c (vs ar rs:List ByteArray):∀ l:List Sm,Sm.lnss l→Con Tryz.prog 169 [.cell (.list (l.map Sm.row)),.cell (.list (vs.map Wrow)),.cell (.list (ar.map Wrow)),.cell (.list (rs.map Wrow))] [] (fun K=>K (Bl (Sm.nmss vs ar rs l)) []):=by
 refine Sms.ind (fun l ih hl=>?_)
 have e0:=Sm.nmss_all vs ar rs l
 have eL:(l.map Sm.row).length=l.length:=List.length_map _
 refine con_intro Tryz.func169 O O b_ (fun c hc=>ZO ?_)
 refine jc_loopS (ι:=Nat) [] (fun k=>k≤l.length∧(l.take k).all (Sm.nms vs ar rs)=true) (fun k=>(9,In .i64 (k:Int)) :: [(0,.cell (.list (l.map Sm.row))),(1,.cell (.list (vs.map Wrow))),(2,.cell (.list (ar.map Wrow))),(3,.cell (.list (rs.map Wrow)))]) (fun _=>[]) (fun k=>l.length - k) 0 ⟨Nat.zero_le _,rfl⟩ ?_ ?_ ?_
 ·exact sub_end
 ·exact Ww
 rintro k ⟨hk,hI⟩
 by_cases hlt:k < l.length
 ·have hlt2:(k:Int) < ((l.map Sm.row).length:Int):=by omega
  obtain ⟨i1,i2⟩:=ih l[k] (List.getElem_mem hlt)
  obtain ⟨z1,z2,z3,z4⟩:=Sm.lnss_mem hl l[k] (List.getElem_mem hlt)
  have c1:=i1 z3
  have c2:=i2 z4
  have e1:=nms_eq vs ar rs l[k]
  unfold nmOne at e1
  by_cases hk1:l[k].kind=1
  ·have hV:=rhas_c vs l[k].name
   rw [if_pos hk1] at e1
   have hk2:¬ l[k].kind=2:=by omega
   have hk5:¬ l[k].kind=5:=by omega
   cases h1:hasB vs l[k].name with
   | false =>
    rw [h1] at hV
    have hres:Sm.nmss vs ar rs l=false:=by rw [e0]; exact all_no hlt (by rw [e1,h1]; rfl)
    refine Yu ?_
    refine Zb (fun hlen=>?_)
    refine R_ (M_ O (M_ O (Zq ?_)))
    refine ZT (fun bl=>?_)
    refine Zn ?_
    refine o_ O (bp_ O u_ O (M_ O ?_))
    refine Zd ?_
    refine Wd ?_
    refine aj_ O b_ (aj_ O b_ (ai_ O O b_ (o_ O (bp_ O O O (M_ O (Zd ?_))))))
    refine Wd ?_
    refine aj_ O b_ (aj_ O b_ (ai_ O O b_ (o_ O (bp_ O O O (M_ O (Zd ?_))))))
    refine ai_ O O b_ (Z5 ?_)
    refine M_ O (Zd ?_)
    refine ai_ O O b_ (Z5 ?_)
    refine ZK ?_
    refine aw_ ?_
    refine az_ (aw_ (aw_ (az_ (aw_ (jq_ret1 O O [] O (fun K h=>by rw [hres] at h; exact h))))))
   | true =>
    rw [h1] at hV
    rw [h1,Bool.true_and] at e1
    cases h3:Sm.nmss vs ar rs l[k].thn with
    | false =>
     rw [h3] at c1
     have hres:Sm.nmss vs ar rs l=false:=by rw [e0]; exact all_no hlt (by rw [e1,h3,Bool.and_false]; rfl)
     refine Yu ?_
     refine Zb (fun hlen=>?_)
     refine R_ (M_ O (M_ O (Zq ?_)))
     refine ZT (fun bl=>?_)
     refine Zn ?_
     refine o_ O (bp_ O u_ O (M_ O ?_))
     refine Ze ?_
     refine Yf ?_
     refine Zg ?_
     refine ZN ?_
     refine Ze ?_
     refine Yf ?_
     refine Zg ?_
     refine ZN ?_
     refine Ze ?_
     refine bd_ O (Zs ?_)
     refine bd_ O (ah_ O O b_ (bm_ O (c1) (ZQ ?_)))
     refine M_ O (Zd ?_)
     refine ai_ O O b_ (Z5 ?_)
     refine ZK ?_
     refine aw_ ?_
     refine az_ (aw_ (aw_ (az_ (aw_ (jq_ret1 O O [] O (fun K h=>by rw [hres] at h; exact h))))))
    | true =>
     rw [h3] at c1
     cases h4:Sm.nmss vs ar rs l[k].els with
     | false =>
      rw [h4] at c2
      have hres:Sm.nmss vs ar rs l=false:=by rw [e0]; exact all_no hlt (by rw [e1,h4,Bool.and_false])
      refine Yu ?_
      refine Zb (fun hlen=>?_)
      refine R_ (M_ O (M_ O (Zq ?_)))
      refine ZT (fun bl=>?_)
      refine Zn ?_
      refine o_ O (bp_ O u_ O (M_ O ?_))
      refine Ze ?_
      refine Yf ?_
      refine Zg ?_
      refine ZN ?_
      refine Ze ?_
      refine Yf ?_
      refine Zg ?_
      refine ZN ?_
      refine Ze ?_
      refine bd_ O (Zs ?_)
      refine bd_ O (ah_ O O b_ (bm_ O (c1) (ZQ ?_)))
      refine M_ O (Ze ?_)
      refine bd_ O (Zs ?_)
      refine bd_ O (ah_ O O b_ (bm_ O (c2) (ZQ ?_)))
      refine ZK ?_
      refine aw_ ?_
      refine az_ (aw_ (aw_ (az_ (aw_ (jq_ret1 O O [] O (fun K h=>by rw [hres] at h; exact h))))))
     | true =>
      rw [h4] at c2
      rw [h3,h4,Bool.and_true,Bool.and_true] at e1
      refine Yu ?_
      refine Zb (fun hlen=>?_)
      refine R_ (M_ O (M_ O (Zq ?_)))
      refine ZT (fun bl=>?_)
      refine Zn ?_
      refine o_ O (bp_ O u_ O (M_ O ?_))
      refine Ze ?_
      refine Yf ?_
      refine Zg ?_
      refine ZN ?_
      refine Ze ?_
      refine Yf ?_
      refine Zg ?_
      refine ZN ?_
      refine Ze ?_
      refine bd_ O (Zs ?_)
      refine bd_ O (ah_ O O b_ (bm_ O (c1) (ZQ ?_)))
      refine M_ O (Ze ?_)
      refine bd_ O (Zs ?_)
      refine bd_ O (ah_ O O b_ (bm_ O (c2) (ZQ ?_)))
      refine Wl ?_
      refine jc_hp1 7 (n:=8) O 0 k_ O (fun cs1 hcs1=>?_)
      obtain ⟨u10,u11,u12,u13,u14,u15,u16,u17,rfl⟩:=len8 hcs1
      refine df_ (i:=1) O k_ k_ k_ b_ ZP (dl_ O O O b_) ?_
      refine df_ (i:=2) O k_ k_ k_ b_ ZP (dm_ 0 O O O mem0 O) ?_
      refine df_ (i:=4) O k_ k_ k_ b_ ZP (dl_ O O O b_) ?_
      refine df_ (i:=5) O k_ k_ k_ b_ ZP (dm_ 0 O O O mem0 O) ?_
      refine hp_exact 0 O mem0 (dg_ (i:=0) O k_ b_ (ow_buildSliceOwn (rows:=([]:List T).map T.row) O O b_ O O b_ (fun v0 _ fv0=>⟨?_,?_⟩)))
      exact keep1 1 O
      refine dg_ (i:=3) O k_ b_ (ow_appendM 0 (f:=T.row) (l1:=[]) (l2:=l[k].index) O O O O O O O (fun x=>by rw [T.row_eq];rfl) (by show (0+_) * 64≤_;omega) (by show 0+_≤_;omega) (fun v1 _=>⟨?_,?_⟩))
      exact keep1 1 O
      refine dg_ (i:=6) O k_ b_ (ow_appendM 0 (f:=T.row) (l1:=l[k].index) (l2:=l[k].value) O O O O O O O (fun x=>by rw [T.row_eq];rfl) (by show (_+_) * 64≤_;omega) g_ (fun v2 _=>⟨?_,?_⟩))
      exact keep1 1 O
      refine Yv ?_
      generalize l[k].index ++ l[k].value=A at e1 ⊢
      have eA:(A.map T.row).length=A.length:=List.length_map _
      refine al_ (R_ (E_ O (T_ (au_ ?_))))
      refine jc_loopS (ι:=Nat) [] (fun j=>j≤A.length∧(A.take j).all (useB vs ar)=true) (fun j=>(12,In .i64 (j:Int)) :: (11,.cell (.list (A.map T.row))) :: (9,In .i64 (k:Int)) :: [(0,.cell (.list (l.map Sm.row))),(1,.cell (.list (vs.map Wrow))),(2,.cell (.list (ar.map Wrow))),(3,.cell (.list (rs.map Wrow)))]) (fun _=>[]) (fun j=>A.length - j) 0 ⟨Nat.zero_le _,rfl⟩ ?_ ?_ ?_
      ·exact sub_end
      ·exact Ww
      rintro j ⟨hj,hIj⟩
      by_cases hltj:j < A.length
      ·have hltj2:(j:Int) < ((A.map T.row).length:Int):=by omega
       have hC:=rknown_c vs ar A[j]
       cases hp:useB vs ar A[j] with
       | false =>
        rw [hp] at hC
        have hres:Sm.nmss vs ar rs l=false:=by rw [e0]; exact all_no hlt (by rw [e1]; exact all_no hltj hp)
        refine Yu ?_
        refine Zb (fun hlen=>?_)
        refine R_ (M_ O (M_ O (Zy ?_)))
        refine Ys ?_
        refine aq_ O O (Zr ?_)
        refine az_ (aw_ ?_)
        refine aw_ (az_ (aw_ (jq_ret1 O O [] O (fun K h=>by rw [hres] at h; exact h))))
       | true =>
        rw [hp] at hC
        refine Yu ?_
        refine Zb (fun hlen=>?_)
        refine R_ (M_ O (M_ O (Zy ?_)))
        refine Ys ?_
        refine ap_ O O (as_ (Zk ?_))
        refine jq_againS (j+1) ⟨hltj,all_snoc hltj hIj hp⟩ g_ ?_ ?_
        ·exact sub_end
        ·exact Ww
      ·have hltj2:¬ (j:Int) < ((A.map T.row).length:Int):=by omega
       rw [List.take_of_length_le (by omega)] at hIj
       refine Yu ?_
       refine Zh (fun hlen=>?_)
       refine ay_ (al_ (an_ (M_ O ?_)))
       refine o_ O (bj_ O O g_ (E_ O (ak_ (jq_againS (i:=k) (k+1) ⟨hlt,all_snoc hlt hI (by rw [e1]; exact hIj)⟩ g_ ?_ ?_))))
       ·exact sub_end
       ·exact Ww
  by_cases hk2:l[k].kind=2
  ·have hV:=rhas_c ar l[k].name
   rw [if_neg hk1,if_pos hk2] at e1
   have hk5:¬ l[k].kind=5:=by omega
   cases h1:hasB ar l[k].name with
   | false =>
    rw [h1] at hV
    have hres:Sm.nmss vs ar rs l=false:=by rw [e0]; exact all_no hlt (by rw [e1,h1]; rfl)
    refine Yu ?_
    refine Zb (fun hlen=>?_)
    refine R_ (M_ O (M_ O (Zq ?_)))
    refine ZT (fun bl=>?_)
    refine Zg ?_
    refine YA ?_
    refine M_ O ?_
    refine Ze ?_
    refine Yf ?_
    refine Zn ?_
    refine YS ?_
    refine M_ O (Zd ?_)
    refine Wd ?_
    refine aj_ O b_ (aj_ O b_ (ai_ O O b_ (o_ O (bp_ O O O (M_ O (Zd ?_))))))
    refine ai_ O O b_ (Z5 ?_)
    refine M_ O (Zd ?_)
    refine ai_ O O b_ (Z5 ?_)
    refine ZK ?_
    refine aw_ ?_
    refine az_ (aw_ (aw_ (az_ (aw_ (jq_ret1 O O [] O (fun K h=>by rw [hres] at h; exact h))))))
   | true =>
    rw [h1] at hV
    rw [h1,Bool.true_and] at e1
    cases h3:Sm.nmss vs ar rs l[k].thn with
    | false =>
     rw [h3] at c1
     have hres:Sm.nmss vs ar rs l=false:=by rw [e0]; exact all_no hlt (by rw [e1,h3,Bool.and_false]; rfl)
     refine Yu ?_
     refine Zb (fun hlen=>?_)
     refine R_ (M_ O (M_ O (Zq ?_)))
     refine ZT (fun bl=>?_)
     refine Zg ?_
     refine YA ?_
     refine M_ O ?_
     refine Ze ?_
     refine Yf ?_
     refine Zn ?_
     refine YS ?_
     refine M_ O (Ze ?_)
     refine bn_ O O ?_
     refine ah_ O O b_ (bd_ O (Zg ?_))
     refine ZN ?_
     refine Ze ?_
     refine bd_ O (Zs ?_)
     refine YW ?_
     refine o_ O (bv_ O O O (M_ O (Zd ?_)))
     refine ai_ O O b_ (Z5 ?_)
     refine ZK ?_
     refine aw_ (az_ (aw_ (aw_ (az_ (aw_ (jq_ret1 O O [] O (fun K h=>by rw [hres] at h; exact h)))))))
    | true =>
     rw [h3] at c1
     cases h4:Sm.nmss vs ar rs l[k].els with
     | false =>
      rw [h4] at c2
      have hres:Sm.nmss vs ar rs l=false:=by rw [e0]; exact all_no hlt (by rw [e1,h4,Bool.and_false])
      refine Yu ?_
      refine Zb (fun hlen=>?_)
      refine R_ (M_ O (M_ O (Zq ?_)))
      refine ZT (fun bl=>?_)
      refine Zg ?_
      refine YA ?_
      refine M_ O ?_
      refine Ze ?_
      refine Yf ?_
      refine Zn ?_
      refine YS ?_
      refine M_ O (Ze ?_)
      refine bn_ O O ?_
      refine ah_ O O b_ (bd_ O (Zg ?_))
      refine ZN ?_
      refine Ze ?_
      refine bd_ O (Zs ?_)
      refine YW ?_
      refine o_ O (bv_ O O O (M_ O (Ze ?_)))
      refine bd_ O (Zs ?_)
      refine bd_ O (ah_ O O b_ (bm_ O (c2) (ZQ ?_)))
      refine ZK ?_
      refine aw_ (az_ (aw_ (aw_ (az_ (aw_ (jq_ret1 O O [] O (fun K h=>by rw [hres] at h; exact h)))))))
     | true =>
      rw [h4] at c2
      rw [h3,h4,Bool.and_true,Bool.and_true] at e1
      refine Yu ?_
      refine Zb (fun hlen=>?_)
      refine R_ (M_ O (M_ O (Zq ?_)))
      refine ZT (fun bl=>?_)
      refine Zg ?_
      refine YA ?_
      refine M_ O ?_
      refine Ze ?_
      refine Yf ?_
      refine Zn ?_
      refine YS ?_
      refine M_ O (Ze ?_)
      refine bn_ O O ?_
      refine ah_ O O b_ (bd_ O (Zg ?_))
      refine ZN ?_
      refine Ze ?_
      refine bd_ O (Zs ?_)
      refine YW ?_
      refine o_ O (bv_ O O O (M_ O (Ze ?_)))
      refine bd_ O (Zs ?_)
      refine bd_ O (ah_ O O b_ (bm_ O (c2) (ZQ ?_)))
      refine Wl ?_
      refine jc_hp1 7 (n:=8) O 0 k_ O (fun cs1 hcs1=>?_)
      obtain ⟨u10,u11,u12,u13,u14,u15,u16,u17,rfl⟩:=len8 hcs1
      refine df_ (i:=1) O k_ k_ k_ b_ ZP (dl_ O O O b_) ?_
      refine df_ (i:=2) O k_ k_ k_ b_ ZP (dm_ 0 O O O mem0 O) ?_
      refine df_ (i:=4) O k_ k_ k_ b_ ZP (dl_ O O O b_) ?_
      refine df_ (i:=5) O k_ k_ k_ b_ ZP (dm_ 0 O O O mem0 O) ?_
      refine hp_exact 0 O mem0 (dg_ (i:=0) O k_ b_ (ow_buildSliceOwn (rows:=([]:List T).map T.row) O O b_ O O b_ (fun v0 _ fv0=>⟨?_,?_⟩)))
      exact keep1 1 O
      refine dg_ (i:=3) O k_ b_ (ow_appendM 0 (f:=T.row) (l1:=[]) (l2:=l[k].index) O O O O O O O (fun x=>by rw [T.row_eq];rfl) (by show (0+_) * 64≤_;omega) (by show 0+_≤_;omega) (fun v1 _=>⟨?_,?_⟩))
      exact keep1 1 O
      refine dg_ (i:=6) O k_ b_ (ow_appendM 0 (f:=T.row) (l1:=l[k].index) (l2:=l[k].value) O O O O O O O (fun x=>by rw [T.row_eq];rfl) (by show (_+_) * 64≤_;omega) g_ (fun v2 _=>⟨?_,?_⟩))
      exact keep1 1 O
      refine Yv ?_
      generalize l[k].index ++ l[k].value=A at e1 ⊢
      have eA:(A.map T.row).length=A.length:=List.length_map _
      refine al_ (R_ (E_ O (T_ (au_ ?_))))
      refine jc_loopS (ι:=Nat) [] (fun j=>j≤A.length∧(A.take j).all (useB vs ar)=true) (fun j=>(12,In .i64 (j:Int)) :: (11,.cell (.list (A.map T.row))) :: (9,In .i64 (k:Int)) :: [(0,.cell (.list (l.map Sm.row))),(1,.cell (.list (vs.map Wrow))),(2,.cell (.list (ar.map Wrow))),(3,.cell (.list (rs.map Wrow)))]) (fun _=>[]) (fun j=>A.length - j) 0 ⟨Nat.zero_le _,rfl⟩ ?_ ?_ ?_
      ·exact sub_end
      ·exact Ww
      rintro j ⟨hj,hIj⟩
      by_cases hltj:j < A.length
      ·have hltj2:(j:Int) < ((A.map T.row).length:Int):=by omega
       have hC:=rknown_c vs ar A[j]
       cases hp:useB vs ar A[j] with
       | false =>
        rw [hp] at hC
        have hres:Sm.nmss vs ar rs l=false:=by rw [e0]; exact all_no hlt (by rw [e1]; exact all_no hltj hp)
        refine Yu ?_
        refine Zb (fun hlen=>?_)
        refine R_ (M_ O (M_ O (Zy ?_)))
        refine Ys ?_
        refine aq_ O O (Zr ?_)
        refine az_ (aw_ ?_)
        refine aw_ (az_ (aw_ (jq_ret1 O O [] O (fun K h=>by rw [hres] at h; exact h))))
       | true =>
        rw [hp] at hC
        refine Yu ?_
        refine Zb (fun hlen=>?_)
        refine R_ (M_ O (M_ O (Zy ?_)))
        refine Ys ?_
        refine ap_ O O (as_ (Zk ?_))
        refine jq_againS (j+1) ⟨hltj,all_snoc hltj hIj hp⟩ g_ ?_ ?_
        ·exact sub_end
        ·exact Ww
      ·have hltj2:¬ (j:Int) < ((A.map T.row).length:Int):=by omega
       rw [List.take_of_length_le (by omega)] at hIj
       refine Yu ?_
       refine Zh (fun hlen=>?_)
       refine ay_ (al_ (an_ (M_ O ?_)))
       refine o_ O (bj_ O O g_ (E_ O (ak_ (jq_againS (i:=k) (k+1) ⟨hlt,all_snoc hlt hI (by rw [e1]; exact hIj)⟩ g_ ?_ ?_))))
       ·exact sub_end
       ·exact Ww
  by_cases hk5:l[k].kind=5
  ·have hV:=rhas_c rs l[k].name
   rw [if_neg hk1,if_neg hk2,if_pos hk5] at e1
   cases h1:hasB rs l[k].name with
   | false =>
    rw [h1] at hV
    have hres:Sm.nmss vs ar rs l=false:=by rw [e0]; exact all_no hlt (by rw [e1,h1]; rfl)
    refine Yu ?_
    refine Zb (fun hlen=>?_)
    refine R_ (M_ O (M_ O (Zq ?_)))
    refine ZT (fun bl=>?_)
    refine Zg ?_
    refine YA ?_
    refine M_ O ?_
    refine Ze ?_
    refine Yf ?_
    refine Zg ?_
    refine ZN ?_
    refine Ze ?_
    refine Yf ?_
    refine Zn ?_
    refine YS ?_
    refine M_ O (Zd ?_)
    refine ai_ O O b_ (Z5 ?_)
    refine M_ O (Zd ?_)
    refine ai_ O O b_ (Z5 ?_)
    refine ZK ?_
    refine aw_ ?_
    refine az_ (aw_ (aw_ (az_ (aw_ (jq_ret1 O O [] O (fun K h=>by rw [hres] at h; exact h))))))
   | true =>
    rw [h1] at hV
    rw [h1,Bool.true_and] at e1
    cases h3:Sm.nmss vs ar rs l[k].thn with
    | false =>
     rw [h3] at c1
     have hres:Sm.nmss vs ar rs l=false:=by rw [e0]; exact all_no hlt (by rw [e1,h3,Bool.and_false]; rfl)
     refine Yu ?_
     refine Zb (fun hlen=>?_)
     refine R_ (M_ O (M_ O (Zq ?_)))
     refine ZT (fun bl=>?_)
     refine Zg ?_
     refine YA ?_
     refine M_ O ?_
     refine Ze ?_
     refine Yf ?_
     refine Zg ?_
     refine ZN ?_
     refine Ze ?_
     refine Yf ?_
     refine Zn ?_
     refine YS ?_
     refine M_ O (Ze ?_)
     refine bd_ O (Zs ?_)
     refine YW ?_
     refine o_ O (bv_ O O O (M_ O (Zd ?_)))
     refine ai_ O O b_ (Z5 ?_)
     refine ZK ?_
     refine aw_ (az_ (aw_ (aw_ (az_ (aw_ (jq_ret1 O O [] O (fun K h=>by rw [hres] at h; exact h)))))))
    | true =>
     rw [h3] at c1
     cases h4:Sm.nmss vs ar rs l[k].els with
     | false =>
      rw [h4] at c2
      have hres:Sm.nmss vs ar rs l=false:=by rw [e0]; exact all_no hlt (by rw [e1,h4,Bool.and_false])
      refine Yu ?_
      refine Zb (fun hlen=>?_)
      refine R_ (M_ O (M_ O (Zq ?_)))
      refine ZT (fun bl=>?_)
      refine Zg ?_
      refine YA ?_
      refine M_ O ?_
      refine Ze ?_
      refine Yf ?_
      refine Zg ?_
      refine ZN ?_
      refine Ze ?_
      refine Yf ?_
      refine Zn ?_
      refine YS ?_
      refine M_ O (Ze ?_)
      refine bd_ O (Zs ?_)
      refine YW ?_
      refine o_ O (bv_ O O O (M_ O (Ze ?_)))
      refine bd_ O (Zs ?_)
      refine bd_ O (ah_ O O b_ (bm_ O (c2) (ZQ ?_)))
      refine ZK ?_
      refine aw_ (az_ (aw_ (aw_ (az_ (aw_ (jq_ret1 O O [] O (fun K h=>by rw [hres] at h; exact h)))))))
     | true =>
      rw [h4] at c2
      rw [h3,h4,Bool.and_true,Bool.and_true] at e1
      refine Yu ?_
      refine Zb (fun hlen=>?_)
      refine R_ (M_ O (M_ O (Zq ?_)))
      refine ZT (fun bl=>?_)
      refine Zg ?_
      refine YA ?_
      refine M_ O ?_
      refine Ze ?_
      refine Yf ?_
      refine Zg ?_
      refine ZN ?_
      refine Ze ?_
      refine Yf ?_
      refine Zn ?_
      refine YS ?_
      refine M_ O (Ze ?_)
      refine bd_ O (Zs ?_)
      refine YW ?_
      refine o_ O (bv_ O O O (M_ O (Ze ?_)))
      refine bd_ O (Zs ?_)
      refine bd_ O (ah_ O O b_ (bm_ O (c2) (ZQ ?_)))
      refine Wl ?_
      refine jc_hp1 7 (n:=8) O 0 k_ O (fun cs1 hcs1=>?_)
      obtain ⟨u10,u11,u12,u13,u14,u15,u16,u17,rfl⟩:=len8 hcs1
      refine df_ (i:=1) O k_ k_ k_ b_ ZP (dl_ O O O b_) ?_
      refine df_ (i:=2) O k_ k_ k_ b_ ZP (dm_ 0 O O O mem0 O) ?_
      refine df_ (i:=4) O k_ k_ k_ b_ ZP (dl_ O O O b_) ?_
      refine df_ (i:=5) O k_ k_ k_ b_ ZP (dm_ 0 O O O mem0 O) ?_
      refine hp_exact 0 O mem0 (dg_ (i:=0) O k_ b_ (ow_buildSliceOwn (rows:=([]:List T).map T.row) O O b_ O O b_ (fun v0 _ fv0=>⟨?_,?_⟩)))
      exact keep1 1 O
      refine dg_ (i:=3) O k_ b_ (ow_appendM 0 (f:=T.row) (l1:=[]) (l2:=l[k].index) O O O O O O O (fun x=>by rw [T.row_eq];rfl) (by show (0+_) * 64≤_;omega) (by show 0+_≤_;omega) (fun v1 _=>⟨?_,?_⟩))
      exact keep1 1 O
      refine dg_ (i:=6) O k_ b_ (ow_appendM 0 (f:=T.row) (l1:=l[k].index) (l2:=l[k].value) O O O O O O O (fun x=>by rw [T.row_eq];rfl) (by show (_+_) * 64≤_;omega) g_ (fun v2 _=>⟨?_,?_⟩))
      exact keep1 1 O
      refine Yv ?_
      generalize l[k].index ++ l[k].value=A at e1 ⊢
      have eA:(A.map T.row).length=A.length:=List.length_map _
      refine al_ (R_ (E_ O (T_ (au_ ?_))))
      refine jc_loopS (ι:=Nat) [] (fun j=>j≤A.length∧(A.take j).all (useB vs ar)=true) (fun j=>(12,In .i64 (j:Int)) :: (11,.cell (.list (A.map T.row))) :: (9,In .i64 (k:Int)) :: [(0,.cell (.list (l.map Sm.row))),(1,.cell (.list (vs.map Wrow))),(2,.cell (.list (ar.map Wrow))),(3,.cell (.list (rs.map Wrow)))]) (fun _=>[]) (fun j=>A.length - j) 0 ⟨Nat.zero_le _,rfl⟩ ?_ ?_ ?_
      ·exact sub_end
      ·exact Ww
      rintro j ⟨hj,hIj⟩
      by_cases hltj:j < A.length
      ·have hltj2:(j:Int) < ((A.map T.row).length:Int):=by omega
       have hC:=rknown_c vs ar A[j]
       cases hp:useB vs ar A[j] with
       | false =>
        rw [hp] at hC
        have hres:Sm.nmss vs ar rs l=false:=by rw [e0]; exact all_no hlt (by rw [e1]; exact all_no hltj hp)
        refine Yu ?_
        refine Zb (fun hlen=>?_)
        refine R_ (M_ O (M_ O (Zy ?_)))
        refine Ys ?_
        refine aq_ O O (Zr ?_)
        refine az_ (aw_ ?_)
        refine aw_ (az_ (aw_ (jq_ret1 O O [] O (fun K h=>by rw [hres] at h; exact h))))
       | true =>
        rw [hp] at hC
        refine Yu ?_
        refine Zb (fun hlen=>?_)
        refine R_ (M_ O (M_ O (Zy ?_)))
        refine Ys ?_
        refine ap_ O O (as_ (Zk ?_))
        refine jq_againS (j+1) ⟨hltj,all_snoc hltj hIj hp⟩ g_ ?_ ?_
        ·exact sub_end
        ·exact Ww
      ·have hltj2:¬ (j:Int) < ((A.map T.row).length:Int):=by omega
       rw [List.take_of_length_le (by omega)] at hIj
       refine Yu ?_
       refine Zh (fun hlen=>?_)
       refine ay_ (al_ (an_ (M_ O ?_)))
       refine o_ O (bj_ O O g_ (E_ O (ak_ (jq_againS (i:=k) (k+1) ⟨hlt,all_snoc hlt hI (by rw [e1]; exact hIj)⟩ g_ ?_ ?_))))
       ·exact sub_end
       ·exact Ww
  rw [if_neg hk1,if_neg hk2,if_neg hk5,Bool.true_and] at e1
  cases h3:Sm.nmss vs ar rs l[k].thn with
  | false =>
   rw [h3] at c1
   have hres:Sm.nmss vs ar rs l=false:=by rw [e0]; exact all_no hlt (by rw [e1,h3,Bool.and_false]; rfl)
   refine Yu ?_
   refine Zb (fun hlen=>?_)
   refine R_ (M_ O (M_ O (Zq ?_)))
   refine ZT (fun bl=>?_)
   refine Zg ?_
   refine YA ?_
   refine M_ O ?_
   refine Ze ?_
   refine Yf ?_
   refine Zg ?_
   refine ZN ?_
   refine Ze ?_
   refine Yf ?_
   refine Zg ?_
   refine ZN ?_
   refine Ze ?_
   refine bd_ O (Zs ?_)
   refine bd_ O (ah_ O O b_ (bm_ O (c1) (ZQ ?_)))
   refine M_ O (Zd ?_)
   refine ai_ O O b_ (Z5 ?_)
   refine ZK ?_
   refine aw_ ?_
   refine az_ (aw_ (aw_ (az_ (aw_ (jq_ret1 O O [] O (fun K h=>by rw [hres] at h; exact h))))))
  | true =>
   rw [h3] at c1
   cases h4:Sm.nmss vs ar rs l[k].els with
   | false =>
    rw [h4] at c2
    have hres:Sm.nmss vs ar rs l=false:=by rw [e0]; exact all_no hlt (by rw [e1,h4,Bool.and_false])
    refine Yu ?_
    refine Zb (fun hlen=>?_)
    refine R_ (M_ O (M_ O (Zq ?_)))
    refine ZT (fun bl=>?_)
    refine Zg ?_
    refine YA ?_
    refine M_ O ?_
    refine Ze ?_
    refine Yf ?_
    refine Zg ?_
    refine ZN ?_
    refine Ze ?_
    refine Yf ?_
    refine Zg ?_
    refine ZN ?_
    refine Ze ?_
    refine bd_ O (Zs ?_)
    refine bd_ O (ah_ O O b_ (bm_ O (c1) (ZQ ?_)))
    refine M_ O (Ze ?_)
    refine bd_ O (Zs ?_)
    refine bd_ O (ah_ O O b_ (bm_ O (c2) (ZQ ?_)))
    refine ZK ?_
    refine aw_ ?_
    refine az_ (aw_ (aw_ (az_ (aw_ (jq_ret1 O O [] O (fun K h=>by rw [hres] at h; exact h))))))
   | true =>
    rw [h4] at c2
    rw [h3,h4,Bool.and_true,Bool.and_true] at e1
    refine Yu ?_
    refine Zb (fun hlen=>?_)
    refine R_ (M_ O (M_ O (Zq ?_)))
    refine ZT (fun bl=>?_)
    refine Zg ?_
    refine YA ?_
    refine M_ O ?_
    refine Ze ?_
    refine Yf ?_
    refine Zg ?_
    refine ZN ?_
    refine Ze ?_
    refine Yf ?_
    refine Zg ?_
    refine ZN ?_
    refine Ze ?_
    refine bd_ O (Zs ?_)
    refine bd_ O (ah_ O O b_ (bm_ O (c1) (ZQ ?_)))
    refine M_ O (Ze ?_)
    refine bd_ O (Zs ?_)
    refine bd_ O (ah_ O O b_ (bm_ O (c2) (ZQ ?_)))
    refine Wl ?_
    refine jc_hp1 7 (n:=8) O 0 k_ O (fun cs1 hcs1=>?_)
    obtain ⟨u10,u11,u12,u13,u14,u15,u16,u17,rfl⟩:=len8 hcs1
    refine df_ (i:=1) O k_ k_ k_ b_ ZP (dl_ O O O b_) ?_
    refine df_ (i:=2) O k_ k_ k_ b_ ZP (dm_ 0 O O O mem0 O) ?_
    refine df_ (i:=4) O k_ k_ k_ b_ ZP (dl_ O O O b_) ?_
    refine df_ (i:=5) O k_ k_ k_ b_ ZP (dm_ 0 O O O mem0 O) ?_
    refine hp_exact 0 O mem0 (dg_ (i:=0) O k_ b_ (ow_buildSliceOwn (rows:=([]:List T).map T.row) O O b_ O O b_ (fun v0 _ fv0=>⟨?_,?_⟩)))
    exact keep1 1 O
    refine dg_ (i:=3) O k_ b_ (ow_appendM 0 (f:=T.row) (l1:=[]) (l2:=l[k].index) O O O O O O O (fun x=>by rw [T.row_eq];rfl) (by show (0+_) * 64≤_;omega) (by show 0+_≤_;omega) (fun v1 _=>⟨?_,?_⟩))
    exact keep1 1 O
    refine dg_ (i:=6) O k_ b_ (ow_appendM 0 (f:=T.row) (l1:=l[k].index) (l2:=l[k].value) O O O O O O O (fun x=>by rw [T.row_eq];rfl) (by show (_+_) * 64≤_;omega) g_ (fun v2 _=>⟨?_,?_⟩))
    exact keep1 1 O
    refine Yv ?_
    generalize l[k].index ++ l[k].value=A at e1 ⊢
    have eA:(A.map T.row).length=A.length:=List.length_map _
    refine al_ (R_ (E_ O (T_ (au_ ?_))))
    refine jc_loopS (ι:=Nat) [] (fun j=>j≤A.length∧(A.take j).all (useB vs ar)=true) (fun j=>(12,In .i64 (j:Int)) :: (11,.cell (.list (A.map T.row))) :: (9,In .i64 (k:Int)) :: [(0,.cell (.list (l.map Sm.row))),(1,.cell (.list (vs.map Wrow))),(2,.cell (.list (ar.map Wrow))),(3,.cell (.list (rs.map Wrow)))]) (fun _=>[]) (fun j=>A.length - j) 0 ⟨Nat.zero_le _,rfl⟩ ?_ ?_ ?_
    ·exact sub_end
    ·exact Ww
    rintro j ⟨hj,hIj⟩
    by_cases hltj:j < A.length
    ·have hltj2:(j:Int) < ((A.map T.row).length:Int):=by omega
     have hC:=rknown_c vs ar A[j]
     cases hp:useB vs ar A[j] with
     | false =>
      rw [hp] at hC
      have hres:Sm.nmss vs ar rs l=false:=by rw [e0]; exact all_no hlt (by rw [e1]; exact all_no hltj hp)
      refine Yu ?_
      refine Zb (fun hlen=>?_)
      refine R_ (M_ O (M_ O (Zy ?_)))
      refine Ys ?_
      refine aq_ O O (Zr ?_)
      refine az_ (aw_ ?_)
      refine aw_ (az_ (aw_ (jq_ret1 O O [] O (fun K h=>by rw [hres] at h; exact h))))
     | true =>
      rw [hp] at hC
      refine Yu ?_
      refine Zb (fun hlen=>?_)
      refine R_ (M_ O (M_ O (Zy ?_)))
      refine Ys ?_
      refine ap_ O O (as_ (Zk ?_))
      refine jq_againS (j+1) ⟨hltj,all_snoc hltj hIj hp⟩ g_ ?_ ?_
      ·exact sub_end
      ·exact Ww
    ·have hltj2:¬ (j:Int) < ((A.map T.row).length:Int):=by omega
     rw [List.take_of_length_le (by omega)] at hIj
     refine Yu ?_
     refine Zh (fun hlen=>?_)
     refine ay_ (al_ (an_ (M_ O ?_)))
     refine o_ O (bj_ O O g_ (E_ O (ak_ (jq_againS (i:=k) (k+1) ⟨hlt,all_snoc hlt hI (by rw [e1]; exact hIj)⟩ g_ ?_ ?_))))
     ·exact sub_end
     ·exact Ww
 ·have hlt2:¬ (k:Int) < ((l.map Sm.row).length:Int):=by omega
  rw [List.take_of_length_le (by omega)] at hI
  have hres:Sm.nmss vs ar rs l=true:=by rw [e0]; exact hI
  refine Yu ?_
  refine Zh (fun hlen=>?_)
  refine al_ (R_ (E_ O (T_ ?_)))
  refine ar_ (jq_ret1 O O [] O (fun K h=>by rw [hres] at h; exact h))
end Go.Proofs.YtalkkcfojplmdaaGreatDoor
end
section
namespace Go.Proofs.YtalkkcfojplmdaaGreatDoor
open Go.Vc
attribute [local irreducible] JL JC JQ OpWp Con ConN
attribute [local irreducible] byteAt runLen isL isD isName hasW
set_option maxHeartbeats 4000000
def nmOk (s:ByteArray):Prop:=isName s=true∧hasW s=false
def T.ok:T→Prop
 | .nu n=>-2147483647≤n∧n≤2147483647
 | .nm s=>nmOk s
 | .ix s t=>nmOk s∧t.ok
 | .bn o a b=>(1≤o∧o≤14)∧a.ok∧b.ok
end Go.Proofs.YtalkkcfojplmdaaGreatDoor
end
section
namespace Go.Proofs.YtalkkcfojplmdaaGreatDoor
open Go.Vc
attribute [local irreducible] JL JC JQ OpWp Con ConN
attribute [local irreducible] byteAt runLen isL isD isName hasW
set_option maxHeartbeats 4000000
theorem str_ne {o:Int} (h:1≤o∧o≤14):¬ signT o=⟨#[]⟩:=by
 intro e
 have:=congrArg ByteArray.size e
 rcases op14 h with rfl | rfl | rfl | rfl | rfl | rfl | rfl | rfl | rfl | rfl | rfl | rfl | rfl | rfl <;> exact absurd this (by decide)
end Go.Proofs.YtalkkcfojplmdaaGreatDoor
end
section
namespace Go.Proofs.YtalkkcfojplmdaaGreatDoor
open Go.Vc
attribute [local irreducible] JL JC JQ OpWp Con ConN
attribute [local irreducible] byteAt runLen isL isD isName hasW
set_option maxHeartbeats 4000000
end Go.Proofs.YtalkkcfojplmdaaGreatDoor
end
section
namespace Go.Proofs.YtalkkcfojplmdaaGreatDoor
set_option maxRecDepth 100000
def laysItoa_ren:Go.Shelf.Ren:=⟨fun | 129=>256 | 171=>144 | 243=>192 | 246=>234 | 283=>247 | 284=>248 | 285=>249 | 286=>250 | 317=>255 | 318=>257 | 319=>258 | 320=>259 | 337=>261 | 338=>262 | n=>n,fun | 0=>0 | 2=>2 | 3=>3 | 4=>4 | 5=>5 | 9=>9 | 20=>20 | 37=>73 | 46=>121 | 51=>199 | 53=>202 | 171=>232 | 173=>235 | 212=>239 | 213=>240 | 232=>243 | 233=>244 | n=>n,fun | 17=>3 | 18=>4 | 19=>5 | n=>n⟩
theorem laysItoa:Go.Proofs.LaysM.n171 Tryz.prog laysItoa_ren:={
 mixed:=by kernel_rfl,
 f129:=Tryz.func256.trans (congrArg some (by kernel_rfl)),
 f171:=Tryz.func144.trans (congrArg some (by kernel_rfl)),
 f243:=Tryz.func192.trans (congrArg some (by kernel_rfl)),
 f246:=Tryz.func234.trans (congrArg some (by kernel_rfl)),
 f283:=Tryz.func247.trans (congrArg some (by kernel_rfl)),
 f284:=Tryz.func248.trans (congrArg some (by kernel_rfl)),
 f285:=Tryz.func249.trans (congrArg some (by kernel_rfl)),
 f286:=Tryz.func250.trans (congrArg some (by kernel_rfl)),
 f317:=Tryz.func255.trans (congrArg some (by kernel_rfl)),
 f318:=Tryz.func257.trans (congrArg some (by kernel_rfl)),
 f319:=Tryz.func258.trans (congrArg some (by kernel_rfl)),
 f320:=Tryz.func259.trans (congrArg some (by kernel_rfl)),
 f337:=Tryz.func261.trans (congrArg some (by kernel_rfl)),
 f338:=Tryz.func262.trans (congrArg some (by kernel_rfl)),
 t0:=Tryz.underlying0,
 a0:=Tryz.isAgg0,
 z0:=Tryz.sizeOf0,
 v0:=Tryz.zeroValue0,
 t2:=Tryz.underlying2,
 a2:=Tryz.isAgg2,
 z2:=Tryz.sizeOf2,
 v2:=Tryz.zeroValue2,
 t3:=Tryz.underlying3,
 a3:=Tryz.isAgg3,
 z3:=Tryz.sizeOf3,
 v3:=Tryz.zeroValue3,
 t4:=Tryz.underlying4,
 a4:=Tryz.isAgg4,
 z4:=Tryz.sizeOf4,
 v4:=Tryz.zeroValue4,
 t5:=Tryz.underlying5,
 a5:=Tryz.isAgg5,
 z5:=Tryz.sizeOf5,
 v5:=Tryz.zeroValue5,
 t9:=Tryz.underlying9,
 a9:=Tryz.isAgg9,
 z9:=Tryz.sizeOf9,
 v9:=Tryz.zeroValue9,
 t20:=Tryz.underlying20,
 a20:=Tryz.isAgg20,
 z20:=Tryz.sizeOf20,
 v20:=Tryz.zeroValue20,
 t37:=Tryz.underlying73,
 a37:=Tryz.isAgg73,
 z37:=Tryz.sizeOf73,
 v37:=Tryz.zeroValue73,
 t46:=Tryz.underlying121,
 a46:=Tryz.isAgg121,
 z46:=Tryz.sizeOf121,
 v46:=Tryz.zeroValue121,
 t51:=Tryz.underlying199,
 a51:=Tryz.isAgg199,
 z51:=Tryz.sizeOf199,
 v51:=Tryz.zeroValue199,
 t53:=Tryz.underlying202,
 a53:=Tryz.isAgg202,
 z53:=Tryz.sizeOf202,
 v53:=Tryz.zeroValue202,
 t171:=Tryz.underlying232,
 a171:=Tryz.isAgg232,
 z171:=Tryz.sizeOf232,
 v171:=Tryz.zeroValue232,
 t173:=Tryz.underlying235,
 a173:=Tryz.isAgg235,
 z173:=Tryz.sizeOf235,
 v173:=Tryz.zeroValue235,
 t212:=Tryz.underlying239,
 a212:=Tryz.isAgg239,
 z212:=Tryz.sizeOf239,
 v212:=Tryz.zeroValue239,
 t213:=Tryz.underlying240,
 a213:=Tryz.isAgg240,
 z213:=Tryz.sizeOf240,
 t232:=Tryz.underlying243,
 a232:=Tryz.isAgg243,
 z232:=Tryz.sizeOf243,
 v232:=Tryz.zeroValue243,
 t233:=Tryz.underlying244,
 a233:=Tryz.isAgg244,
 z233:=Tryz.sizeOf244,
 v233:=Tryz.zeroValue244,
 g17:=by kernel_rfl,
 g18:=by kernel_rfl,
 g19:=by kernel_rfl,
 i0:=by kernel_rfl,
 i2:=by kernel_rfl,
 i3:=by kernel_rfl,
 i4:=by kernel_rfl,
 i5:=by kernel_rfl,
 i9:=by kernel_rfl,
 i20:=by kernel_rfl,
 i37:=by kernel_rfl,
 i46:=by kernel_rfl,
 i51:=by kernel_rfl,
 i53:=by kernel_rfl,
 i171:=by kernel_rfl,
 i173:=by kernel_rfl,
 i212:=by kernel_rfl,
 i232:=by kernel_rfl,
 i233:=by kernel_rfl,
 m17:=by kernel_rfl,
 m18:=by kernel_rfl,
 m19:=by kernel_rfl }
end Go.Proofs.YtalkkcfojplmdaaGreatDoor
end
section
namespace Go.Proofs.YtalkkcfojplmdaaGreatDoor
open Go.Vc
attribute [local irreducible] JL JC JQ OpWp
attribute [local irreducible] byteAt runLen isL isD isName hasW
set_option maxHeartbeats 4000000
def numS (n:Int):ByteArray:=⟨(Lib.itoa n).toArray⟩
theorem itoa_c (n:Int) (h0:-2147483647≤n) (h1:n≤2147483647):Con Tryz.prog 144 [In .i64 n] [] (fun K=>K (Str (numS n)) []):=by
 rintro vs w A _ _ _ ⟨v,r,rfl,⟨rfl,_⟩,hr⟩ _ ⟨⟨g,hg1,hg2,htab⟩,_,_⟩
 simp only [SOks] at hr
 subst hr
 refine (Any.strconv_Itoa laysItoa n g_ g_ w htab).mono ?_
 rintro e w' ⟨rfl,k,os,rfl⟩
 refine ⟨_,_,[],rfl,fun K h=>h,⟨?_,rfl⟩,by simp,by simp [hb],by simp [hb],⟨rfl,rfl,rfl,?_,?_⟩⟩
 ·unfold numS
  rfl
 ·simp [Sort.grow]
 ·intro j hj _
  show (w.heap ++ os)[j]?=_
  rw [Array.getElem?_append_left hj]
attribute [local irreducible] Con ConN
theorem numS_size (n:Int) (h0:-2147483647≤n) (h1:n≤2147483647):(numS n).size≤21:=by
 have:=Lib.itoa_length_le n (by omega) (by omega)
 unfold numS
 simpa [ByteArray.size] using this
theorem numS_nonneg (n:Int) (h:0≤n):numS n=decS n.toNat:=by
 obtain ⟨u,rfl⟩:∃ u:Nat,n=u:=⟨n.toNat,by omega⟩
 unfold numS decS
 rw [Lib.itoa_nonneg,Int.toNat_natCast]
theorem numS_neg (n:Int) (h:n < 0):numS n=⟨#[45]⟩ ++ decS (-n).toNat:=by
 obtain ⟨u,rfl⟩:∃ u:Nat,n=-(u:Int):=⟨(-n).toNat,by omega⟩
 unfold numS decS
 rw [Lib.itoa_neg u (by omega),show (- -(u:Int)).toNat=u by omega]
 apply ByteArray.ext
 rw [ByteArray.data_append]
 simp
theorem refNumber_c (n:Int) (h:-2147483647≤n∧n≤2147483647):Con Tryz.prog 162 [In .i64 n] [] (fun K=>K (Str (numS n)) []):=by
 refine con_intro Tryz.func162 O O b_ (fun c hc=>ZV ?_)
 refine bw_ O O (T_ (jc_condd O (fun hn=>?_) (fun hn=>?_)))
 ·have hD:=Decimal_c (-n).toNat (by omega)
  rw [show (((-n).toNat:Nat):Int)=-n by omega] at hD
  have h45:(⟨#[45]⟩:ByteArray).size=1:=rfl
  have hz:=decS_le (-n).toNat (by omega)
  refine R_ (M_ O (o_ O (cy_ O g_ (o_ O (bm_ O (hD) (o_ O (ow_strcat O O g_ (E_ O (T_ (ar_ (aw_ (jq_ret1 O O [] O (fun K h=>by rw [numS_neg n hn] at h; exact h)))))))))))))
 ·have hD:=Decimal_c n.toNat (by omega)
  rw [show ((n.toNat:Nat):Int)=n by omega] at hD
  refine as_ (al_ (R_ (M_ O (o_ O (bm_ O (hD) (E_ O (T_ (ar_ (jq_ret1 O O [] O (fun K h=>by rw [numS_nonneg n g_] at h; exact h))))))))))
def textT:T→ByteArray
 | .nu n=>if n < 0 then (⟨#[40]⟩ ++ numS n) ++ ⟨#[41]⟩ else numS n
 | .nm s=>s
 | .ix s t=>((s ++ ⟨#[91]⟩) ++ textT t) ++ ⟨#[93]⟩
 | .bn o a b=>(((((⟨#[40]⟩ ++ textT a) ++ ⟨#[32]⟩) ++ signT o) ++ ⟨#[32]⟩) ++ textT b) ++ ⟨#[41]⟩
theorem one_size (c:UInt8):(⟨#[c]⟩:ByteArray).size=1:=rfl
theorem sign_size {o:Int} (h:1≤o∧o≤14):(signT o).size≤2:=by
 rcases op14 h with rfl | rfl | rfl | rfl | rfl | rfl | rfl | rfl | rfl | rfl | rfl | rfl | rfl | rfl <;> decide
theorem expr_c:∀ (t:T),t.ok→(textT t).size≤1000000000→Con Tryz.prog 193 [.row t.row'] [] (fun K=>K (Str (textT t)) []):=by
 intro t
 induction t with
 | nu n =>
  intro hok hz
  have hI:=itoa_c n hok.1 hok.2
  have hz:=numS_size n hok.1 hok.2
  have h40:=one_size 40
  have h41:=one_size 41
  have h2:(⟨#[40]⟩ ++ numS n).size≤30:=by rw [ByteArray.size_append]; omega
  show Con _ _ [.row [.val (.int .i64 1),.val (.int .i64 n),.val (.string ⟨#[]⟩),.val (.int .i64 0),.list (([]:List T).map T.row)]] [] _
  refine con_intro Tryz.func193 O O b_ (fun c hc=>ZD (fun bx=>?_))
  refine F_ O (L_ 0 O (T_ (au_ (Zu ?_))))
  refine jc_condd O (fun _=>?_) (fun h=>absurd O h)
  refine am_ (Yh ?_)
  refine bw_ O O (T_ (jc_condd O (fun hn=>?_) (fun hn=>?_)))
  ·have e:textT (.nu n)=(⟨#[40]⟩ ++ numS n) ++ ⟨#[41]⟩:=by unfold textT; rw [if_pos hn]
   refine Yh ?_
   refine bm_ O (hI) (o_ O (ow_strcat O O g_ (o_ O (ow_strcat O O g_ (E_ O (T_ (ar_ (aw_ (az_ (aw_ (jq_ret1 O O [] O (fun K h=>by rw [e] at h; exact h))))))))))))
  ·have e:textT (.nu n)=numS n:=by unfold textT; rw [if_neg hn]
   refine as_ (al_ (Yh ?_))
   refine bm_ O (hI) (E_ O (T_ (ar_ (az_ (aw_ (jq_ret1 O O [] O (fun K h=>by rw [e] at h; exact h)))))))
 | nm s =>
  intro hok hz
  show Con _ _ [.row [.val (.int .i64 2),.val (.int .i64 0),.val (.string s),.val (.int .i64 0),.list (([]:List T).map T.row)]] [] _
  refine con_intro Tryz.func193 rfl rfl b_ (fun c hc=>ZD (fun bx=>?_))
  refine F_ O (L_ 0 O (T_ (au_ (Zu ?_))))
  refine jc_condd rfl (fun h=>by cases h) (fun _=>?_)
  refine R_ (o_ O (bn_ O O (E_ O (T_ (jc_condd O (fun _=>R_ (F_ O (L_ 0 O (E_ O (T_ (ar_ (az_ (aw_ (jq_ret1 O O [] O (fun K h=>h)))))))))) (fun h=>absurd O h))))))
 | ix s t ih =>
  intro hok hz
  have e:textT (.ix s t)=((s ++ ⟨#[91]⟩) ++ textT t) ++ ⟨#[93]⟩:=by rw [textT]
  rw [e] at hz
  have h91:=one_size 91
  have h93:=one_size 93
  have hz1:=hz
  rw [ByteArray.size_append] at hz1
  have hz2:=hz1
  rw [ByteArray.size_append] at hz2
  have hz3:=hz2
  rw [ByteArray.size_append] at hz3
  have hI:=ih hok.2 (by omega)
  have e1:[t].length=1:=rfl
  show Con _ _ [.row [.val (.int .i64 3),.val (.int .i64 0),.val (.string s),.val (.int .i64 0),.list ([t].map T.row)]] [] _
  refine con_intro Tryz.func193 rfl rfl b_ (fun c hc=>ZD (fun bx=>?_))
  refine F_ O (L_ 0 O (T_ (au_ (Zu ?_))))
  refine jc_condd rfl (fun h=>by cases h) (fun _=>?_)
  refine Zu ?_
  refine jc_condd rfl (fun h=>by cases h) (fun _=>Zu ?_)
  refine jc_condd rfl (fun _=>am_ (ao_ O O k_ k_ (yF_ O (yL_ 0 O (aa_ (fun c=>ow_strcat O O g_ p_) (yF_ O ?_)))))) (fun h=>absurd rfl h)
  refine yL_ 0 O (ZA ?_)
  refine aa_ (fun c=>bm_ O (hI) p_) (Z9 ?_)
  refine yE_ O (ae_ (al_ (ar_ (az_ (aw_ (jq_ret1 O O [] O (fun K h=>by rw [e] at h; exact h)))))))
 | bn o a b iha ihb =>
  intro hok hz
  have e:textT (.bn o a b)=(((((⟨#[40]⟩ ++ textT a) ++ ⟨#[32]⟩) ++ signT o) ++ ⟨#[32]⟩) ++ textT b) ++ ⟨#[41]⟩:=by rw [textT]
  rw [e] at hz
  have h40:=one_size 40
  have h32:=one_size 32
  have h41:=one_size 41
  have hz1:=hz
  rw [ByteArray.size_append] at hz1
  have hz2:=hz1
  rw [ByteArray.size_append] at hz2
  have hz3:=hz2
  rw [ByteArray.size_append] at hz3
  have hz4:=hz3
  rw [ByteArray.size_append] at hz4
  have hz5:=hz4
  rw [ByteArray.size_append] at hz5
  have hz6:=hz5
  rw [ByteArray.size_append] at hz6
  have hS:=Sign_c o hok.1
  have hA:=iha hok.2.1 (by omega)
  have hB:=ihb hok.2.2 (by omega)
  have e1:[a,b].length=2:=rfl
  show Con _ _ [.row [.val (.int .i64 4),.val (.int .i64 0),.val (.string ⟨#[]⟩),.val (.int .i64 o),.list ([a,b].map T.row)]] [] _
  refine con_intro Tryz.func193 rfl rfl b_ (fun c hc=>ZD (fun bx=>?_))
  refine F_ O (L_ 0 O (T_ (au_ (Zu ?_))))
  refine jc_condd rfl (fun h=>by cases h) (fun _=>?_)
  refine Zu ?_
  refine jc_condd rfl (fun h=>by cases h) (fun _=>Zu ?_)
  refine jc_condd rfl (fun h=>by cases h) (fun _=>as_ (ay_ (al_ (am_ (ao_ O O k_ k_ (yF_ O ?_))))))
  refine yL_ 0 O (ZA ?_)
  refine aa_ (fun c=>bm_ O (hA) p_) (Z9 ?_)
  refine yF_ O (yL_ 0 O (aa_ (fun c=>bm_ O (hS) p_) (Z9 ?_)))
  refine yF_ O (yL_ 0 O (aa_ (fun c=>cv_ O O g_ g_ (T.row_eq _) O b_ p_) ?_))
  refine aa_ (fun c=>cr_ O O O p_) (aa_ (fun c=>bm_ O (hB) p_) (Z9 ?_))
  refine yE_ O (ae_ (al_ (ar_ (jq_ret1 O O [] O (fun K h=>by rw [e] at h; exact h)))))
end Go.Proofs.YtalkkcfojplmdaaGreatDoor
end
section
namespace Go.Proofs.YtalkkcfojplmdaaGreatDoor
open Go.Vc
attribute [local irreducible] JL JC JQ OpWp Con ConN
attribute [local irreducible] byteAt runLen isL isD isName hasW
set_option maxHeartbeats 4000000
theorem rtext_c:∀ (t:T),t.ok→(textT t).size≤1000000000→Con Tryz.prog 202 [.row t.row'] [] (fun K=>K (Str (textT t)) []):=by
 intro t
 induction t with
 | nu n =>
  intro hok hz
  have hI:=refNumber_c n hok
  have hz:=numS_size n hok.1 hok.2
  have h40:=one_size 40
  have h41:=one_size 41
  have h2:(⟨#[40]⟩ ++ numS n).size≤30:=by rw [ByteArray.size_append]; omega
  show Con _ _ [.row [.val (.int .i64 1),.val (.int .i64 n),.val (.string ⟨#[]⟩),.val (.int .i64 0),.list (([]:List T).map T.row)]] [] _
  refine con_intro Tryz.func202 O O b_ (fun c hc=>ZD (fun bx=>?_))
  refine F_ O (L_ 0 O (T_ (au_ (Zu ?_))))
  refine jc_condd O (fun _=>?_) (fun h=>absurd O h)
  refine am_ (Yh ?_)
  refine bw_ O O (T_ (jc_condd O (fun hn=>?_) (fun hn=>?_)))
  ·have e:textT (.nu n)=(⟨#[40]⟩ ++ numS n) ++ ⟨#[41]⟩:=by unfold textT; rw [if_pos hn]
   refine Yh ?_
   refine bm_ O (hI) (o_ O (ow_strcat O O g_ (o_ O (ow_strcat O O g_ (E_ O (T_ (ar_ (aw_ (az_ (aw_ (jq_ret1 O O [] O (fun K h=>by rw [e] at h; exact h))))))))))))
  ·have e:textT (.nu n)=numS n:=by unfold textT; rw [if_neg hn]
   refine as_ (al_ (Yh ?_))
   refine bm_ O (hI) (E_ O (T_ (ar_ (az_ (aw_ (jq_ret1 O O [] O (fun K h=>by rw [e] at h; exact h)))))))
 | nm s =>
  intro hok hz
  show Con _ _ [.row [.val (.int .i64 2),.val (.int .i64 0),.val (.string s),.val (.int .i64 0),.list (([]:List T).map T.row)]] [] _
  refine con_intro Tryz.func202 rfl rfl b_ (fun c hc=>ZD (fun bx=>?_))
  refine F_ O (L_ 0 O (T_ (au_ (Zu ?_))))
  refine jc_condd rfl (fun h=>by cases h) (fun _=>?_)
  refine R_ (o_ O (bn_ O O (E_ O (T_ (jc_condd O (fun _=>R_ (F_ O (L_ 0 O (E_ O (T_ (ar_ (az_ (aw_ (jq_ret1 O O [] O (fun K h=>h)))))))))) (fun h=>absurd O h))))))
 | ix s t ih =>
  intro hok hz
  have e:textT (.ix s t)=((s ++ ⟨#[91]⟩) ++ textT t) ++ ⟨#[93]⟩:=by rw [textT]
  rw [e] at hz
  have h91:=one_size 91
  have h93:=one_size 93
  have hz1:=hz
  rw [ByteArray.size_append] at hz1
  have hz2:=hz1
  rw [ByteArray.size_append] at hz2
  have hz3:=hz2
  rw [ByteArray.size_append] at hz3
  have hI:=ih hok.2 (by omega)
  have e1:[t].length=1:=rfl
  show Con _ _ [.row [.val (.int .i64 3),.val (.int .i64 0),.val (.string s),.val (.int .i64 0),.list ([t].map T.row)]] [] _
  refine con_intro Tryz.func202 rfl rfl b_ (fun c hc=>ZD (fun bx=>?_))
  refine F_ O (L_ 0 O (T_ (au_ (Zu ?_))))
  refine jc_condd rfl (fun h=>by cases h) (fun _=>?_)
  refine Zu ?_
  refine jc_condd rfl (fun h=>by cases h) (fun _=>Zu ?_)
  refine jc_condd rfl (fun _=>am_ (ao_ O O k_ k_ (yF_ O (yL_ 0 O (aa_ (fun c=>ow_strcat O O g_ p_) (yF_ O ?_)))))) (fun h=>absurd rfl h)
  refine yL_ 0 O (ZA ?_)
  refine aa_ (fun c=>bm_ O (hI) p_) (Z9 ?_)
  refine yE_ O (ae_ (al_ (ar_ (az_ (aw_ (jq_ret1 O O [] O (fun K h=>by rw [e] at h; exact h)))))))
 | bn o a b iha ihb =>
  intro hok hz
  have e:textT (.bn o a b)=(((((⟨#[40]⟩ ++ textT a) ++ ⟨#[32]⟩) ++ signT o) ++ ⟨#[32]⟩) ++ textT b) ++ ⟨#[41]⟩:=by rw [textT]
  rw [e] at hz
  have h40:=one_size 40
  have h32:=one_size 32
  have h41:=one_size 41
  have hz1:=hz
  rw [ByteArray.size_append] at hz1
  have hz2:=hz1
  rw [ByteArray.size_append] at hz2
  have hz3:=hz2
  rw [ByteArray.size_append] at hz3
  have hz4:=hz3
  rw [ByteArray.size_append] at hz4
  have hz5:=hz4
  rw [ByteArray.size_append] at hz5
  have hz6:=hz5
  rw [ByteArray.size_append] at hz6
  have hS:=RSign_c o hok.1
  have hA:=iha hok.2.1 (by omega)
  have hB:=ihb hok.2.2 (by omega)
  have e1:[a,b].length=2:=rfl
  show Con _ _ [.row [.val (.int .i64 4),.val (.int .i64 0),.val (.string ⟨#[]⟩),.val (.int .i64 o),.list ([a,b].map T.row)]] [] _
  refine con_intro Tryz.func202 rfl rfl b_ (fun c hc=>ZD (fun bx=>?_))
  refine F_ O (L_ 0 O (T_ (au_ (Zu ?_))))
  refine jc_condd rfl (fun h=>by cases h) (fun _=>?_)
  refine Zu ?_
  refine jc_condd rfl (fun h=>by cases h) (fun _=>Zu ?_)
  refine jc_condd rfl (fun h=>by cases h) (fun _=>as_ (ay_ (al_ (am_ (ao_ O O k_ k_ (yF_ O ?_))))))
  refine yL_ 0 O (ZA ?_)
  refine aa_ (fun c=>bm_ O (hA) p_) (Z9 ?_)
  refine yF_ O (yL_ 0 O (aa_ (fun c=>bm_ O (hS) p_) (Z9 ?_)))
  refine yF_ O (yL_ 0 O (aa_ (fun c=>cv_ O O g_ g_ (T.row_eq _) O b_ p_) ?_))
  refine aa_ (fun c=>cr_ O O O p_) (aa_ (fun c=>bm_ O (hB) p_) (Z9 ?_))
  refine yE_ O (ae_ (al_ (ar_ (jq_ret1 O O [] O (fun K h=>by rw [e] at h; exact h)))))
theorem name_size {s:ByteArray} (h:nmOk s):s.size≤12:=by
 have:=h.1
 unfold isName at this
 simp only [Bool.and_eq_true,decide_eq_true_eq] at this
 exact this.1.2
theorem text_size:∀ (t:T),t.ok→(textT t).size+50≤100 * 2 ^ t.dep
 | .nu n,h=>by
  have:=numS_size n h.1 h.2
  have h40:=one_size 40
  have h41:=one_size 41
  unfold textT
  simp only [T.dep]
  split
  ·rw [ByteArray.size_append,ByteArray.size_append]; omega
  ·omega
 | .nm s,h=>by
  have:=name_size h
  simp only [textT,T.dep]
  omega
 | .ix s t,h=>by
  have:=name_size h.1
  have:=text_size t h.2
  have h91:=one_size 91
  have h93:=one_size 93
  simp only [textT,T.dep,ByteArray.size_append,Nat.pow_succ]
  omega
 | .bn o a b,h=>by
  have h1:=text_size a h.2.1
  have h2:=text_size b h.2.2
  have h3:=sign_size h.1
  have h40:=one_size 40
  have h32:=one_size 32
  have h41:=one_size 41
  have e1:2 ^ a.dep≤2 ^ max a.dep b.dep:=Nat.pow_le_pow_right (by decide) (by omega)
  have e2:2 ^ b.dep≤2 ^ max a.dep b.dep:=Nat.pow_le_pow_right (by decide) (by omega)
  simp only [textT,T.dep,ByteArray.size_append,Nat.pow_succ]
  omega
theorem text_small {t:T} (h:t.ok) (hd:t.dep≤8):(textT t).size≤1000000000:=by
 have h1:=text_size t h
 have h2:2 ^ t.dep≤2 ^ 8:=Nat.pow_le_pow_right (by decide) hd
 omega
end Go.Proofs.YtalkkcfojplmdaaGreatDoor
end
section
namespace Go.Proofs.YtalkkcfojplmdaaGreatDoor
open Go.Vc
set_option maxHeartbeats 4000000
attribute [local irreducible] JL JC JQ OpWp Con ConN
attribute [local irreducible] StG Mz
def LoopP (L:List Int) (bm bd:Nat) (V A:List ByteArray) (Sh:List Shd) (d:Nat):Prop :=
 ∀ (m:Ms) (hs:ByteArray) (il:Int) (LS:List ByteArray) (x:Int),m.ok→m.lab≤11→0≤il→il≤1→LS.length≤il→x=(d+1:Nat) →
  Con Tryz.prog 224 [Ptr bm,In .i64 x] [Mk bm bd V m.lv A Sh hs m.lab m.st il,Dk bd L,.own m.lv 9 1 (LS.map Wrow)]
   (fun K=>∀ r:Ms × List Sm,(r.1.ok∧r.2.length≤2∧LpG V (usableF A Sh hs) il (StG V A Sh d (il+1) hs) m.lab r.1.lab r.2∧Mz r.2 (m.st+1 - r.1.st))→K (.cell (.list (r.2.map Sm.row))) [Mk bm bd V r.1.lv A Sh hs r.1.lab r.1.st il,Dk bd L,.own r.1.lv 9 1 (LS.map Wrow)])
theorem sm_le (k:Int) (nm:ByteArray) (I V:List T) (mx lb:Int) (tt ee:List Sm) {cI cV cT cE:C} (hI:CLe cI (.list (I.map T.row))) (hV:CLe cV (.list (V.map T.row))) (hT:CLe cT (.list (tt.map Sm.row))) (hE:CLe cE (.list (ee.map Sm.row))) :
 RowLe [.val (.int .i64 k),.val (.string nm),cI,cV,.val (.int .i64 mx),.val (.int .i64 lb),cT,cE] (Sm.row (.mk k nm I V mx lb tt ee)):=by
 rw [Sm.row_eq]
 exact .cons (.refl _) (.cons (.refl _) (.cons hI (.cons hV (.cons (.refl _) (.cons (.refl _) (.cons hT (.cons hE .nil)))))))
theorem sm_le' (k:Int) (nm:ByteArray) (I V:List T) (mx lb:Int) (tt ee:List Sm) {cI cV cT cE:C} (hI:CLe cI (.list (I.map T.row))) (hV:CLe cV (.list (V.map T.row))) (hT:CLe cT (.list (tt.map Sm.row))) (hE:CLe cE (.list (ee.map Sm.row))) :
 RowLe [.val (.int .i64 k),.val (.string nm),cI,cV,.val (.int .i64 mx),.val (.int .i64 lb),cT,cE] (Sm.row' (.mk k nm I V mx lb tt ee)):=by
 rw [← Sm.row_eq]; exact sm_le k nm I V mx lb tt ee hI hV hT hE
theorem ex1_le (e:T):CLe (.list [e.row']) (.list ([e].map T.row)):=CLe.eq (by simp [T.row_eq])
section
variable {L:List Int} {bm bd:Nat} {V A:List ByteArray} {Sh:List Shd}
theorem loop_step (gv:Gv L V A Sh) (d:Nat) (hd10:d≤10) (hblk:BlockP L bm bd V A Sh d):LoopP L bm bd V A Sh d:=by
 intro m hs0 il LS x hm hm11 hil hil2 hLS hx
 obtain ⟨lv0,lab0,st0⟩:=m
 obtain ⟨⟨hlab0,hlab1⟩,hst0,hst1⟩:=hm
 dsimp only at hlab0 hlab1 hst0 hst1 hm11 ⊢
 refine con_intro Tryz.func224 O O b_ (fun c hc=>R_ (E_ O (T_ (R_ (YF ?_)))))
 refine o_ O (bj_ O O g_ (N_ O (F_ O (W_ 0 O (T_ (R_ (M_ O ?_)))))))
 refine N_ O (F_ O (L_ 0 O (o_ O (bj_ O O g_ (N_ O (F_ O (W_ 0 O (T_ (am_ (jc_anyB 11 (some 10) O k_ k_ (yM_ O (yN_ O (yF_ O (yL_ 0 O (yM_ O (yN_ O ?_))))))))))))))))
 refine yF_ O (yL_ 0 O (aa_ (fun c=>ow_callA [1] O O (gNext_c L _ _ gv.hL gv.hLn g_)) (aa_ (fun c=>ow_exarg 31 O (fun i=>bu_ O O O O O ⟨rfl,.refl _⟩)) (af_ (ae_ (afin_some O O O (fun bS=>jl_slot 32 O (fun mx=>S_ 0 O (T_ (am_ (R_ (M_ O (N_ O (F_ O (L_ 1 O ?_)))))))))))))))
 refine o_ O (bt_ [2] O O (Nx_c _ gv.hL gv.hLn g_) (fun k0 hk0=>o_ O (bn_ O O (T_ (jc_condd O (fun h3=>?_) (fun h3=>?_))))))
 ·refine R_ (M_ O (o_ O (bt_ [2,0] O O (gcondition_c gv.hL gv.hLn gv.hV0 gv.hV gv.hA gv.hSh) (fun e1 he1=>o_ O (bq_ O O b_ O O b_ (F_ O (W_ 2 O (T_ (R_ (M_ O (M_ O (o_ O (cg_ O O g_ (o_ O (ow_callNP [1,1,1] O O (hblk ⟨lv0,lab0+1,st0⟩ hs0 (il+1) LS (x - 1) 2 ⟨⟨by dsimp only; omega,by dsimp only; omega⟩,hst0,hst1⟩ g_ g_ g_ g_ g_ g_) (fun r n hn hr=>?_))))))))))))))))
  obtain ⟨⟨lv2,lab2,st2⟩,v2,l2⟩:=r
  obtain ⟨hok2,hf2,hl2,hsh2,hcz2⟩:=hr
  dsimp only at hok2 hl2 hsh2 hcz2 ⊢
  refine jl_freezeF 46 0 O O (hf2.mono hn) (F_ O (W_ 3 O (T_ (R_ (Wm ?_)))))
  refine cg_ O O g_ (N_ O (F_ O (W_ 1 O (T_ (R_ (A_ 1 O ?_))))))
  refine o_ O (bq_ O O b_ O O b_ (E_ O (T_ (ar_ (aw_ (jq_sle 4 O (SLe.cell (CLe.list (.cons (sm_le 4 ⟨#[]⟩ [] [e1] mx.1 (lab0+1) l2 [] .nil (ex1_le e1) (.refl _) .nil) .nil))) ?_))))))
  have fin:∀ K:S→List Ch→Prop,(∀ r:Ms × List Sm,(r.1.ok∧r.2.length≤2∧LpG V (usableF A Sh hs0) il (StG V A Sh d (il+1) hs0) lab0 r.1.lab r.2∧Mz r.2 (st0+1 - r.1.st))→K (.cell (.list (r.2.map Sm.row))) [Mk bm bd V r.1.lv A Sh hs0 r.1.lab r.1.st il,Dk bd L,.own r.1.lv 9 1 (LS.map Wrow)]) →
   K (.cell (.list [Sm.row (.mk 4 ⟨#[]⟩ [] [e1] mx.1 (lab0+1) l2 [])])) [Mk bm bd V lv2 A Sh hs0 lab2 st2 (il+1 - 1),Dk bd L,.own lv2 9 1 (LS.map Wrow)]:=by
   intro K h
   rw [show il+1 - 1=il by omega]
   exact h (⟨lv2,lab2,st2⟩,[.mk 4 ⟨#[]⟩ [] [e1] mx.1 (lab0+1) l2 []]) ⟨hok2,by simp,⟨by omega,by omega,.inl ⟨e1,mx.1,l2,he1,by have:=mx.2; omega,hsh2,rfl⟩⟩,while_cz he1 hcz2⟩
  exact jq_ret1 O O [0,1,1] O fin
 ·refine as_ (al_ (R_ (M_ O (o_ O (bt_ [2,0,1] O O (gtarget_c gv.hL gv.hLn gv.hV0 gv.hV g_) (fun tg htg=>E_ O (T_ (R_ (YF ?_)))))))))
  refine o_ O (bt_ [1] O O (Nx_c _ gv.hL gv.hLn g_) (fun sp hsp=>o_ O (bj_ O O g_ (E_ O (T_ ?_)))))
  refine R_ (Wm ?_)
  refine bt_ [0] O O (Nx_c _ gv.hL gv.hLn g_) (fun tp htp=>o_ O (bm_ O (gNum_c _) (Yt (fun bl=>?_))))
  refine am_ (R_ (M_ O (N_ O (F_ O (L_ 2 O ?_)))))
  refine o_ O (bt_ [1] O O (Nx_c _ gv.hL gv.hLn g_) (fun k4 hk4=>o_ O (bn_ O O (T_ ?_))))
  refine jc_cut (ι:=T) [0,1,5,6,7,8] (fun top=>(∃ t,(0≤t∧t≤5)∧top=.nu t) ∨ ∃ s ∈ V,top=.nm s) (fun _=>[]) (fun e=>[Mk bm bd V lv0 A Sh hs0 (lab0+1) st0 (il+1),Dk bd L,.own lv0 9 1 (LS.map Wrow),.blk bS 66 [.val (.int .i64 4),.val (.string ⟨#[]⟩),.val (.slice none 0 0),.val (.slice none 0 0),.val (.int .i64 mx.1),.val (.int .i64 (lab0+1)),.val (.slice none 0 0),.val (.slice none 0 0)],.blk bl 69 (T.row' e)]) ?_ ?_
  ·refine jc_condd O (fun h2=>?_) (fun h2=>?_)
   ·refine an_ (M_ O (M_ O (N_ O (F_ O (L_ 2 O (o_ O (bt_ [2,0] O O (gname_c gv.hL gv.hLn V gv.hV0 (by have:=gv.hV; omega)) (fun nm hnm=>o_ O (bm_ O (gName_c _) (S_ 2 O (ak_ (jq_cut (T.nm nm) [1,1,1,1,0] (.inr ⟨nm,hnm,rfl⟩) O ?_))))))))))))
    exact Ww
   ·refine as_ (jq_cut (T.nu tp) [2,0,1,1,0] (.inl ⟨tp,by omega,rfl⟩) O ?_)
    exact Ww
  ·intro e8 he8
   refine R_ (M_ O (YF ?_))
   refine M_ O (YK ?_)
   refine ow_append1F 2 (tg) O O O O O O O (fun _=>O) (by show (_+_) * 16≤_; first | omega | (simp only [List.length_append]; omega)) (by first | omega | (simp only [List.length_append]; omega)) (fun lv1 hlv1 flv1=>N_ O (F_ O (W_ 1 O (T_ (am_ (jc_anyB 12 none O k_ k_ (yM_ O ?_)))))))
   refine yN_ O (yF_ O (yL_ 0 O (aa_ (fun c=>ow_callA [2] O O (gNext_c L _ _ gv.hL gv.hLn g_)) (aa_ (fun c=>ow_exarg 98 O (fun i=>bj_ O O (by have:=i.2; omega) ⟨rfl,.refl _⟩)) (yM_ O (aa_ (fun c=>bm_ O (gName_c _) p_) (aa_ (fun c=>bs_ 4 O O O O p_) (aa_ (fun c=>ow_exarg 99 O (fun i=>bm_ O (gBin_c _ _ _) ⟨rfl,.refl _⟩)) ?_))))))))
   refine aa_ (fun c=>ow_exarg 103 O (fun i=>bq_ O O b_ O O b_ ⟨rfl,.refl _⟩)) (yF_ O (ae_ (afin_none (jl_slot 104 O (fun op=>W_ 3 O (T_ (R_ (M_ O (M_ O (o_ O (cg_ O O g_ ?_)))))))))))
   have con:=hblk ⟨lv1,lab0+1,st0⟩ hs0 (il+1) (LS ++ [tg]) (x - 1) 2 ⟨⟨by dsimp only; omega,by dsimp only; omega⟩,hst0,hst1⟩ (by omega) (by omega) (by simp only [List.length_append,List.length_cons,List.length_nil]; omega) (by omega) (by omega) (by omega)
   dsimp only at con
   refine o_ O (ow_callNP [1,2,1] O O (con) (fun r n hn hr=>?_))
   obtain ⟨⟨lv2,lab2,st2⟩,v2,l2⟩:=r
   obtain ⟨hok2,hf2,hl2,hsh2,hcz2⟩:=hr
   dsimp only at hok2 hl2 hsh2 hf2 hcz2 ⊢
   refine M_ O (M_ O (o_ O (bm_ O (gName_c _) (M_ O (o_ O (bm_ O (gNum_c _) (o_ O (bm_ O (gBin_c _ _ _) (YK ?_)))))))))
   refine bu_ O O O O O (o_ O (bq_ O O b_ O O b_ (jl_sle 118 O (SLe.cell (CLe.list (.cons (sm_le 1 tg [] [.bn 1 (.nm tg) (.nu (1+sp))] 0 0 [] [] .nil (ex1_le _) .nil .nil) .nil))) ?_)))
   refine o_ O (ow_append1F 0 ((.mk 1 tg [] [.bn 1 (.nm tg) (.nu (1+sp))] 0 0 [] [])) O O O O O O O (fun a=>by rw [Sm.row_eq]; rfl) (by show (_+_) * 136≤_; first | omega | (simp only [List.length_append]; omega)) (by first | omega | (simp only [List.length_append]; omega)) (fun v3 hv3 fv3=>jl_freezeF 119 0 O O (fv3 (hf2.mono hn)) (F_ O (W_ 3 O (T_ (am_ ?_))))))
   have eL:(List.map Wrow (LS ++ [tg])).length=LS.length+1:=by simp
   refine jc_anyB 12 none O k_ k_ (yM_ O (Wg ?_))
   refine Wg ?_
   refine aa_ (fun c=>cw_ 3 O O (fun hlen=>p_)) (aa_ (fun c=>cg_ O O g_ p_) ?_)
   (first | refine any_op (fun c=>ow_trim 3 rfl rfl rfl (by omega) (by omega) ⟨rfl,.refl _⟩) ?_ | refine any_op (fun c=>ow_trim 2 rfl rfl rfl (by omega) (by omega) ⟨rfl,.refl _⟩) ?_ | refine any_op (fun c=>ow_trim 4 rfl rfl rfl (by omega) (by omega) ⟨rfl,.refl _⟩) ?_)
   refine ae_ ?_
   try refine afin_none ?_
   rw [show ((((List.map Wrow (LS ++ [tg])).length:Nat):Int) - 1).toNat=LS.length by omega]
   (first | refine jl_trim 3 LS.length rfl (by omega) ?_ | refine jl_trim 2 LS.length rfl (by omega) ?_ | refine jl_trim 4 LS.length rfl (by omega) ?_)
   rw [show (List.map Wrow (LS ++ [tg])).take LS.length=List.map Wrow LS by rw [List.map_append,List.take_left' (by simp)]]
   generalize trimV lv2 LS.length=lv3
   refine N_ O (F_ O (W_ 2 O (T_ (R_ (YF ?_)))))
   refine o_ O (cg_ O O g_ (N_ O (F_ O (W_ 0 O (T_ (am_ (ao_ O O k_ k_ ?_)))))))
   refine yM_ O (yM_ O (yN_ O (yF_ O (yL_ 0 O (aa_ (fun c=>ow_callA [3] O O (gNext_c L _ _ gv.hL gv.hLn g_)) (aa_ (fun c=>ow_exarg 147 O (fun i=>bm_ O (gNum_c _) ⟨rfl,.refl _⟩)) (aa_ (fun c=>ow_exarg 148 O (fun i=>bq_ O O b_ O O b_ ⟨rfl,.refl _⟩)) (aa_ (fun c=>ow_exarg 149 O (fun i=>bu_ O O O O O ⟨rfl,.refl _⟩)) (aa_ (fun c=>bs_ 2 O O O O p_) ?_)))))))))
   refine aa_ (fun c=>ow_exarg 150 O (fun i=>bq_ O O b_ O O b_ ⟨rfl,.refl _⟩)) (yE_ O (ae_ (al_ (ar_ (jq_slot 4 O (fun i=>?_))))))
   refine jq_sle 4 O (SLe.cell (CLe.list (.cons (sm_le 1 tg [] [.nu i.1] 0 0 [] [] .nil (ex1_le _) .nil .nil) (.cons (sm_le 4 ⟨#[]⟩ [] [.bn (11+op.1) (.nm tg) e8] mx.1 (lab0+1) (l2 ++ [(.mk 1 tg [] [.bn 1 (.nm tg) (.nu (1+sp))] 0 0 [] [])]) [] .nil (ex1_le _) (.refl _) .nil) .nil)))) ?_
   have fin:∀ K:S→List Ch→Prop,(∀ r:Ms × List Sm,(r.1.ok∧r.2.length≤2∧LpG V (usableF A Sh hs0) il (StG V A Sh d (il+1) hs0) lab0 r.1.lab r.2∧Mz r.2 (st0+1 - r.1.st))→K (.cell (.list (r.2.map Sm.row))) [Mk bm bd V r.1.lv A Sh hs0 r.1.lab r.1.st il,Dk bd L,.own r.1.lv 9 1 (LS.map Wrow)]) →
    K (.cell (.list [Sm.row (.mk 1 tg [] [.nu i.1] 0 0 [] []),Sm.row (.mk 4 ⟨#[]⟩ [] [.bn (11+op.1) (.nm tg) e8] mx.1 (lab0+1) (l2 ++ [.mk 1 tg [] [.bn 1 (.nm tg) (.nu (1+sp))] 0 0 [] []]) [])])) [Mk bm bd V lv3 A Sh hs0 lab2 st2 (il+1 - 1),Dk bd L,.own lv3 9 1 (LS.map Wrow)]:=by
    intro K h
    rw [show il+1 - 1=il by omega]
    exact h (⟨lv3,lab2,st2⟩,[.mk 1 tg [] [.nu i.1] 0 0 [] [],.mk 4 ⟨#[]⟩ [] [.bn (11+op.1) (.nm tg) e8] mx.1 (lab0+1) (l2 ++ [.mk 1 tg [] [.bn 1 (.nm tg) (.nu (1+sp))] 0 0 [] []]) []])
     ⟨hok2,by simp,⟨by clear he8; omega,by clear he8; omega,.inr ⟨tg,i.1,op.1,e8,mx.1,l2,1+sp,htg,by clear he8; have:=i.2; omega,by clear he8; have:=op.2; omega,he8,by clear he8; have:=mx.2; omega,by clear he8 hok2; omega,hsh2,rfl⟩⟩,count_cz (by have:=i.2; clear he8; omega) (by clear he8; omega) he8 hcz2⟩
   first | exact jq_ret1 rfl rfl [0,1,0] rfl fin | exact jq_ret1 rfl rfl [0,2,0] rfl fin | exact jq_ret1 rfl rfl [0,3,0] rfl fin | exact jq_ret1 rfl rfl [0,4,0] rfl fin
end
end Go.Proofs.YtalkkcfojplmdaaGreatDoor
end
section
namespace Go.Proofs.YtalkkcfojplmdaaGreatDoor
open Go.Vc
set_option maxHeartbeats 4000000
attribute [local irreducible] JL JC JQ OpWp Con ConN
theorem StG.inn {V A:List ByteArray} {Sh:List Shd} {d:Nat} {il:Int} {hs:ByteArray} {lab lab':Int} {l:List Sm} (h:IfG V (usableF A Sh hs) (StG V A Sh d il hs) lab lab' l ∨ LpG V (usableF A Sh hs) il (StG V A Sh d (il+1) hs) lab lab' l ∨ LkG Sh hs (StG V A Sh d il) lab lab' l):StG V A Sh (d+1) il hs lab lab' l:=.inr h
attribute [local irreducible] StG Mz
section
variable {L:List Int} {bm bd:Nat} {V A:List ByteArray} {Sh:List Shd}
theorem stmt_step (gv:Gv L V A Sh) (d:Nat) (hd10:d≤10) (hblk:∀ d',d=d'+1→BlockP L bm bd V A Sh d') (hloop:∀ d',d=d'+1→LoopP L bm bd V A Sh d'):StmtP L bm bd V A Sh d:=by
 intro m hs0 il LS x hm hil hil2 hLS hx
 obtain ⟨lv0,lab0,st0⟩:=m
 obtain ⟨⟨hlab0,hlab1⟩,hst0,hst1⟩:=hm
 dsimp only at hlab0 hlab1 hst0 hst1 ⊢
 refine con_intro Tryz.func181 O O b_ (fun c hc=>R_ (E_ O (T_ (R_ (YF ?_)))))
 refine o_ O (bt_ [1] O O (Nx_c _ gv.hL gv.hLn g_) (fun k0 hk0=>E_ O (T_ (am_ (am_ (jc_cut (ι:=Bool) [0,1,4,5] (fun b=>b=false→0 < x∧lab0 < 12) (fun b=>[(23,Bl b)]) (fun _=>[Mk bm bd V lv0 A Sh hs0 lab0 st0 il,Dk bd L,.own lv0 9 1 (LS.map Wrow)]) ?_ ?_))))))
 ·by_cases hx0:x≤0
  ·refine an_ (M_ O (o_ O (cu_ O O (M_ O (Yg ?_)))))
   refine ai_ O u_ b_ (ai_ O u_ b_ (o_ O (bp_ O u_ O (ak_ (jq_cut true [1,0,0] (by simp) O ?_)))))
   exact Ww
  ·refine an_ (M_ O (o_ O (cu_ O O (M_ O (ah_ O w_ b_ (bd_ O (ah_ O w_ b_ (bh_ O (ah_ O w_ b_ (bf_ O O O b_ (ah_ O w_ b_ (bg_ 1 O O O O (ah_ O w_ b_ (cn_ O O (o_ O (bv_ O w_ O (ak_ (jq_cut (decide (12≤lab0)) [1,0,0] (by simp; omega) O ?_))))))))))))))))))
   exact Ww
 intro b hb
 skip
 have ht:0≤k0 % 3∧k0 % 3≤2:=by omega
 refine jc_cut (ι:=Int) [0,1,4] (fun k=>0≤k∧k≤8∧(2 < k→0 < x∧lab0 < 12)) (fun k=>[(5,In .i64 k)]) (fun _=>[Mk bm bd V lv0 A Sh hs0 lab0 st0 il,Dk bd L,.own lv0 9 1 (LS.map Wrow)]) ?_ ?_
 ·refine jc_cond O (fun h=>?_) (fun h=>?_)
  ·refine an_ (M_ O (o_ O (ow_rem64 O O g_ g_ (E_ O (ak_ (jq_cut (k0 % 3) [0,0,0] g_ O ?_))))))
   exact Ww
  ·refine as_ (jq_cut k0 [0,0,0] ⟨hk0.1,by omega,fun _=>hb h⟩ O ?_)
   exact Ww
 intro k ⟨hk1,hk8,hkd⟩
 clear ht
 have fin1:∀ (s:Sm) (m:Ms),m.ok→StG V A Sh d il hs0 lab0 m.lab [s]→Mz [s] (st0+1 - m.st)→∀ K:S→List Ch→Prop,(∀ r:Ms × List Sm,(r.1.ok∧r.2.length≤2∧StG V A Sh d il hs0 lab0 r.1.lab r.2∧Mz r.2 (st0+1 - r.1.st))→K (.cell (.list (r.2.map Sm.row))) [Mk bm bd V r.1.lv A Sh hs0 r.1.lab r.1.st il,Dk bd L,.own r.1.lv 9 1 (LS.map Wrow)]) →
  K (.cell (.list [s.row])) [Mk bm bd V m.lv A Sh hs0 m.lab m.st il,Dk bd L,.own m.lv 9 1 (LS.map Wrow)] :=
  fun s m hm hs hz K h=>h (m,[s]) ⟨hm,by simp,hs,hz⟩
 have fin0:∀ (s:Sm),LeafG V (usableF A Sh hs0) lab0 lab0 [s]→∀ K:S→List Ch→Prop,(∀ r:Ms × List Sm,(r.1.ok∧r.2.length≤2∧StG V A Sh d il hs0 lab0 r.1.lab r.2∧Mz r.2 (st0+1 - r.1.st))→K (.cell (.list (r.2.map Sm.row))) [Mk bm bd V r.1.lv A Sh hs0 r.1.lab r.1.st il,Dk bd L,.own r.1.lv 9 1 (LS.map Wrow)]) →
  K (.cell (.list [s.row])) [Mk bm bd V lv0 A Sh hs0 lab0 st0 il,Dk bd L,.own lv0 9 1 (LS.map Wrow)] :=
  fun s hs=>fin1 s ⟨lv0,lab0,st0⟩ ⟨⟨hlab0,hlab1⟩,hst0,hst1⟩ (.leaf hs) ((leaf_cz hs).eq (by dsimp only; omega))
 have hU:=usable_len A Sh hs0
 have hUA:=gv.hA
 have hUS:=gv.hSh
 refine am_ (R_ (M_ O (T_ (jc_cut (ι:=Unit) [0,1] (fun _=>True) (fun _=>[]) (fun _=>[Mk bm bd V lv0 A Sh hs0 lab0 st0 il,Dk bd L,.own lv0 9 1 (LS.map Wrow)]) ?_ ?_))))
 ·refine au_ (Zu ?_)
  refine jc_condd O (fun h1=>?_) (fun h1=>?_)
  ·refine R_ (M_ O (o_ O (bi_ [0] O O (gusable_c gv.hA gv.hSh) (YX ?_))))
   refine br_ O (fun hlen=>o_ O (bz_ O O (T_ (jc_condd O (fun hp=>?_) (fun hp=>?_)))))
   ·simp only [List.length_map] at hp
    refine R_ (M_ O (M_ O (o_ O (bt_ [0,0] O O (gname_c gv.hL gv.hLn (usableF A Sh hs0) g_ g_) (fun s1 hs1=>M_ O (o_ O (bt_ [0,0] O O (gexpr_c gv.hL gv.hLn gv.hV0 gv.hV gv.hA gv.hSh 1 1 g_ g_ g_) (fun e1 he1=>o_ O (bq_ O O b_ O O b_ (M_ O (o_ O (bt_ [0,0] O O (gexpr_c gv.hL gv.hLn gv.hV0 gv.hV gv.hA gv.hSh 2 2 g_ g_ g_) (fun e2 he2=>o_ O (bq_ O O b_ O O b_ ?_))))))))))))))
    exact o_ O (bu_ O O O O O (o_ O (bq_ O O b_ O O b_ (E_ O (T_ (ar_ (az_ (aw_ (jq_sle 4 O (SLe.cell (CLe.list (.cons (sm_le 2 s1 [e1] [e2] 0 0 [] [] (ex1_le e1) (ex1_le e2) .nil .nil) .nil))) (jq_ret1 O O [0,0,0] O (fin0 _ ⟨rfl,.inr ⟨s1,e1,e2,hs1,he1,he2,rfl⟩⟩)))))))))))
   ·refine as_ (ay_ (jq_cut () [0,0,0] trivial O ?_))
    exact Ww
  ·refine am_ (jc_cut (ι:=Bool) [0,1,26] (fun b=>b=decide (k=3 ∨ k=4 ∨ k=5)) (fun b=>[(45,Bl b)]) (fun _=>[Mk bm bd V lv0 A Sh hs0 lab0 st0 il,Dk bd L,.own lv0 9 1 (LS.map Wrow)]) ?_ ?_)
   ·refine Zu ?_
    refine jc_condd O (fun h3=>?_) (fun h3=>?_)
    ·refine as_ (jq_cut (decide (k=3)) [0,0,0] (by rw [decide_eq_decide]; omega) O ?_)
     exact Ww
    ·refine Zu ?_
     refine jc_condd O (fun h4=>?_) (fun h4=>?_)
     ·refine as_ (jq_cut (decide (k=4)) [0,0,0] (by rw [decide_eq_decide]; omega) O ?_)
      exact Ww
     ·refine an_ (o_ O (bn_ O O (E_ O (ak_ (jq_cut (decide (k=5)) [0,0,0] (by rw [decide_eq_decide]; omega) O ?_)))))
      exact Ww
   intro b hb
   refine jc_cond O (fun hbt=>?_) (fun hbt=>?_)
   ·have hk3:k=3 ∨ k=4 ∨ k=5:=by rw [hb] at hbt; exact of_decide_eq_true hbt
    obtain ⟨hx0,hl12⟩:=hkd (by omega)
    obtain ⟨d',rfl⟩:∃ d',d=d'+1:=⟨d - 1,by omega⟩
    have hblk:=hblk d' rfl
    clear hloop
    refine R_ (YF ?_)
    refine o_ O (bj_ O O g_ (N_ O (F_ O (W_ 0 O (T_ (am_ (jc_anyB 9 (some 8) O k_ k_ (yM_ O (yN_ O (yF_ O (yL_ 0 O ?_)))))))))))
    refine yM_ O (aa_ (fun c=>ow_callA [0,0] O O (con_toEx (gcondition_c gv.hL gv.hLn gv.hV0 gv.hV gv.hA gv.hSh))) (aa_ (fun c=>ow_exarg 61 O (fun i=>bq_ O O b_ O O b_ ⟨rfl,.refl _⟩)) (aa_ (fun c=>ow_exarg 62 O (fun i=>bu_ O O O O O ⟨rfl,.refl _⟩)) (af_ (ae_ (afin_some O O O (fun bS=>jl_slot 63 O (fun e1=>S_ 0 O (T_ (R_ (M_ O (M_ O (o_ O (cg_ O O g_ ?_))))))))))))))
    refine o_ O (ow_callNP [1,1,1] O O (hblk ⟨lv0,lab0+1,st0⟩ hs0 il LS (x - 1) 2 ⟨⟨by dsimp only; omega,by dsimp only; omega⟩,hst0,hst1⟩ hil hil2 hLS g_ g_ g_) (fun r n hn hr=>?_))
    obtain ⟨⟨lv1,lab1,st1⟩,v1,l1⟩:=r
    obtain ⟨hok1,hf1,hl1,hsh1,hcz1⟩:=hr
    dsimp only at hok1 hl1 hsh1 hf1 hcz1 ⊢
    refine jl_freezeF 67 0 O O (hf1.mono hn) (F_ O (W_ 3 O (T_ (am_ ?_))))
    refine jc_cut (ι:=Ms × List Sm) [0,1,7] (fun r=>r.1.ok∧r.2.length≤4∧(r.2=[]∧r.1.lab=lab1 ∨ BlG (StG V A Sh d' il hs0) 2 lab1 r.1.lab r.2)∧Mz r.2 (st1 - r.1.st)) (fun _=>[]) (fun r=>[Mk bm bd V r.1.lv A Sh hs0 r.1.lab r.1.st il,Dk bd L,.own r.1.lv 9 1 (LS.map Wrow),.blk bS 66 (Sm.row' (.mk 3 ⟨#[]⟩ [] [e1.1] 0 (lab0+1) l1 r.2))]) ?_ ?_
    ·refine R_ (Wm ?_)
     refine bt_ [2] O O (Nx_c _ gv.hL gv.hLn g_) (fun k4 hk4=>o_ O (bn_ O O (T_ (jc_condd O (fun h2=>?_) (fun h2=>?_)))))
     ·refine an_ (M_ O (M_ O (o_ O (cg_ O O g_ (o_ O (ow_callNP [2,0,1] O O (hblk ⟨lv1,lab1,st1⟩ hs0 il LS (x - 1) 2 hok1 hil hil2 hLS g_ g_ g_) (fun r n2 hn2 hr=>?_)))))))
      obtain ⟨⟨lv2,lab2,st2⟩,v2,l2⟩:=r
      obtain ⟨hok2,hf2,hl2,hsh2,hcz2⟩:=hr
      dsimp only at hok2 hl2 hsh2 hf2 hcz2 ⊢
      refine jl_freezeF 78 0 O O (hf2.mono hn2) (F_ O (W_ 3 O (ak_ ?_)))
      (first | refine jq_row 0 _ rfl (sm_le' 3 ⟨#[]⟩ [] [e1.1] 0 (lab0+1) l1 l2 .nil (ex1_le e1.1) (.refl _) (.refl _)) ?_ | refine jq_row 1 _ rfl (sm_le' 3 ⟨#[]⟩ [] [e1.1] 0 (lab0+1) l1 l2 .nil (ex1_le e1.1) (.refl _) (.refl _)) ?_ | refine jq_row 2 _ rfl (sm_le' 3 ⟨#[]⟩ [] [e1.1] 0 (lab0+1) l1 l2 .nil (ex1_le e1.1) (.refl _) (.refl _)) ?_ | refine jq_row 3 _ rfl (sm_le' 3 ⟨#[]⟩ [] [e1.1] 0 (lab0+1) l1 l2 .nil (ex1_le e1.1) (.refl _) (.refl _)) ?_)
      (first | refine jq_cut (⟨lv2,lab2,st2⟩,l2) [1,1,1,0] ⟨hok2,by dsimp only; omega,.inr hsh2,hcz2⟩ rfl ?_ | refine jq_cut (⟨lv2,lab2,st2⟩,l2) [1,2,1,0] ⟨hok2,by dsimp only; omega,.inr hsh2,hcz2⟩ rfl ?_ | refine jq_cut (⟨lv2,lab2,st2⟩,l2) [2,1,1,0] ⟨hok2,by dsimp only; omega,.inr hsh2,hcz2⟩ rfl ?_ | refine jq_cut (⟨lv2,lab2,st2⟩,l2) [2,2,1,0] ⟨hok2,by dsimp only; omega,.inr hsh2,hcz2⟩ rfl ?_ | refine jq_cut (⟨lv2,lab2,st2⟩,l2) [3,1,1,0] ⟨hok2,by dsimp only; omega,.inr hsh2,hcz2⟩ rfl ?_ | refine jq_cut (⟨lv2,lab2,st2⟩,l2) [3,2,1,0] ⟨hok2,by dsimp only; omega,.inr hsh2,hcz2⟩ rfl ?_)
      exact Ww
     ·refine as_ ?_
      (first | refine jq_row 0 _ rfl (sm_le' 3 ⟨#[]⟩ [] [e1.1] 0 (lab0+1) l1 [] .nil (ex1_le e1.1) (.refl _) .nil) ?_ | refine jq_row 1 _ rfl (sm_le' 3 ⟨#[]⟩ [] [e1.1] 0 (lab0+1) l1 [] .nil (ex1_le e1.1) (.refl _) .nil) ?_ | refine jq_row 2 _ rfl (sm_le' 3 ⟨#[]⟩ [] [e1.1] 0 (lab0+1) l1 [] .nil (ex1_le e1.1) (.refl _) .nil) ?_ | refine jq_row 3 _ rfl (sm_le' 3 ⟨#[]⟩ [] [e1.1] 0 (lab0+1) l1 [] .nil (ex1_le e1.1) (.refl _) .nil) ?_)
      (first | refine jq_cut (⟨lv1,lab1,st1⟩,[]) [1,1,1,0] ⟨hok1,by simp,.inl ⟨rfl,rfl⟩,nil_cz⟩ rfl ?_ | refine jq_cut (⟨lv1,lab1,st1⟩,[]) [1,2,1,0] ⟨hok1,by simp,.inl ⟨rfl,rfl⟩,nil_cz⟩ rfl ?_ | refine jq_cut (⟨lv1,lab1,st1⟩,[]) [2,1,1,0] ⟨hok1,by simp,.inl ⟨rfl,rfl⟩,nil_cz⟩ rfl ?_ | refine jq_cut (⟨lv1,lab1,st1⟩,[]) [2,2,1,0] ⟨hok1,by simp,.inl ⟨rfl,rfl⟩,nil_cz⟩ rfl ?_ | refine jq_cut (⟨lv1,lab1,st1⟩,[]) [3,1,1,0] ⟨hok1,by simp,.inl ⟨rfl,rfl⟩,nil_cz⟩ rfl ?_ | refine jq_cut (⟨lv1,lab1,st1⟩,[]) [3,2,1,0] ⟨hok1,by simp,.inl ⟨rfl,rfl⟩,nil_cz⟩ rfl ?_)
      exact Ww
    ·rintro ⟨⟨lv2,lab2,st2⟩,l2⟩ ⟨hok2,hl2,hsh2,hcz2⟩
     dsimp only at hok2 hl2 hsh2 hcz2 ⊢
     exact R_ (A_ 3 O (o_ O (bq_ O O b_ O O b_ (E_ O (T_ (ar_ (az_ (aw_ (jq_sle 4 O (SLe.cell (CLe.list (.cons (sm_le 3 ⟨#[]⟩ [] [e1.1] 0 (lab0+1) l1 l2 (.refl _) (.refl _) (.refl _) (.refl _)) .nil))) (jq_ret1 O O [0,0,0] O (fin1 _ ⟨lv2,lab2,st2⟩ hok2 (.inn (.inl ⟨hl12,e1.1,l1,l2,lab1,e1.2,hsh1,hsh2,rfl⟩)) (if_cz e1.2 hcz1 hcz2))))))))))))
   ·refine am_ (jc_cut (ι:=Bool) [0,1,26] (fun b=>b=decide (k=6 ∨ k=7)) (fun b=>[(82,Bl b)]) (fun _=>[Mk bm bd V lv0 A Sh hs0 lab0 st0 il,Dk bd L,.own lv0 9 1 (LS.map Wrow)]) ?_ ?_)
    ·refine Zu ?_
     refine jc_condd O (fun h6=>?_) (fun h6=>?_)
     ·refine as_ (jq_cut (decide (k=6)) [0,0,0] (by rw [decide_eq_decide]; omega) O ?_)
      exact Ww
     ·refine an_ (o_ O (bn_ O O (E_ O (ak_ (jq_cut (decide (k=7)) [0,0,0] (by rw [decide_eq_decide]; omega) O ?_)))))
      exact Ww
    intro b hb
    refine jc_cond O (fun hbt=>?_) (fun hbt=>?_)
    ·have hk6:k=6 ∨ k=7:=by rw [hb] at hbt; exact of_decide_eq_true hbt
     obtain ⟨hx0,hl12⟩:=hkd (by omega)
     obtain ⟨d',rfl⟩:∃ d',d=d'+1:=⟨d - 1,by omega⟩
     have hloop:=hloop d' rfl
     clear hblk
     refine R_ (YF ?_)
     refine o_ O (bw_ O O (T_ (jc_condd O (fun hil1=>?_) (fun hil1=>?_))))
     ·refine R_ (M_ O (M_ O (o_ O (bt_ [0,0,0] O O (hloop ⟨lv0,lab0,st0⟩ hs0 il LS x ⟨⟨hlab0,hlab1⟩,hst0,hst1⟩ (by dsimp only; omega) hil g_ hLS hx) (fun r hr=>?_)))))
      obtain ⟨m1,l1⟩:=r
      dsimp only at hr ⊢
      exact E_ O (T_ (ar_ (az_ (aw_ (jq_ret1 O O [0,0,0] O (fun K h=>h (m1,l1) ⟨hr.1,hr.2.1,.inn (.inr (.inl hr.2.2.1)),hr.2.2.2⟩))))))
     ·refine as_ (ay_ (jq_cut () [0,0,0] trivial O ?_))
      exact Ww
    ·refine Zu ?_
     refine jc_condd O (fun h8=>?_) (fun h8=>?_)
     ·obtain ⟨hx0,hl12⟩:=hkd (by omega)
      obtain ⟨d',rfl⟩:∃ d',d=d'+1:=⟨d - 1,by omega⟩
      have hblk:=hblk d' rfl
      clear hloop
      refine am_ (jc_cut (ι:=Bool) [0,1] (fun b=>b=true→hs0=⟨#[]⟩∧0 < Sh.length) (fun b=>[(107,Bl b)]) (fun _=>[Mk bm bd V lv0 A Sh hs0 lab0 st0 il,Dk bd L,.own lv0 9 1 (LS.map Wrow)]) ?_ ?_)
      ·by_cases hh:hs0=⟨#[]⟩
       ·refine an_ (YF ?_)
        refine o_ O (cs_ O O (M_ O (Yq ?_)))
        refine bh_ O (ZW ?_)
        refine br_ O (fun hlen=>ah_ O u_ b_ (bz_ O O (o_ O (bp_ O u_ O (ak_ (jq_cut (decide (0 < ((Sh.map ShRow).length:Int))) [0,0,0] (by simp [hh]) O ?_))))))
        exact Ww
       ·refine an_ (YF ?_)
        refine o_ O (cs_ O O (M_ O (Zg ?_)))
        refine ai_ O w_ b_ (YA ?_)
        refine ak_ (jq_cut false [0,0,0] (by simp) O ?_)
        exact Ww
      intro b2 hb2
      refine jc_cond O (fun hbt=>?_) (fun hbt=>?_)
      ·obtain ⟨rfl,hSh0⟩:=hb2 hbt
       have hShm:=gv.hSh
       have eSh:(Sh.map ShRow).length=Sh.length:=List.length_map _
       refine am_ (jc_anyB 18 none O k_ k_ (yM_ O (yM_ O (yN_ O (yF_ O (yL_ 0 O (Yb ?_)))))))
       refine aa_ (fun c=>ow_callA [1] O O (gNext_c L _ _ gv.hL gv.hLn g_)) (aa_ (fun c=>ow_exarg 122 O (fun i=>cv_ O O (by have:=i.2; omega) (by have:=i.2; omega) O O b_ ⟨rfl,.refl _⟩)) (aa_ (fun c=>ow_exarg 123 O (fun i=>cf_ O O O b_ O b_ ⟨rfl,.refl _⟩)) (aa_ (fun c=>ow_exarg 124 O (fun i=>cb_ O O ⟨rfl,.refl _⟩)) (ae_ (afin_none (jl_slot 125 O (fun i=>N_ O (F_ O ?_))))))))
       refine W_ 0 O (T_ (R_ (YF ?_)))
       refine E_ O (T_ (R_ (M_ O (M_ O (M_ O (o_ O (cg_ O O g_ (o_ O (ow_callNP [0,0,0] O O (hblk ⟨lv0,lab0,st0⟩ Sh[i.1.toNat].2.2 il LS (x - 1) 2 ⟨⟨hlab0,hlab1⟩,hst0,hst1⟩ hil hil2 hLS g_ g_ g_) (fun r n hn hr=>?_))))))))))
       obtain ⟨⟨lv1,lab1,st1⟩,v1,l1⟩:=r
       obtain ⟨hok1,hf1,hl1,hsh1,hcz1⟩:=hr
       dsimp only at hok1 hl1 hsh1 hf1 hcz1 ⊢
       refine jl_freezeF 136 0 O O (hf1.mono hn) (o_ O (bu_ O O O O O (Yt (fun bl=>?_))))
       refine R_ (M_ O (N_ O (F_ O (W_ 1 O (T_ (R_ (A_ 1 O (o_ O (bq_ O O b_ O O b_ (E_ O (T_ ?_)))))))))))
       refine ar_ (az_ (aw_ (jq_sle 4 O (SLe.cell (CLe.list (.cons (sm_le 5 Sh[i.1.toNat].2.2 [] [] 0 0 l1 [] .nil .nil (.refl _) .nil) .nil))) ?_)))
       first | exact jq_ret1 rfl rfl [0,1,1] rfl (fin1 _ ⟨lv1,lab1,st1⟩ hok1 (.inn (.inr (.inr ⟨rfl,_,List.getElem_mem (h:=by have:=i.2; omega),l1,hsh1,rfl⟩))) (lock_cz hcz1)) | exact jq_ret1 rfl rfl [0,2,1] rfl (fin1 _ ⟨lv1,lab1,st1⟩ hok1 (.inn (.inr (.inr ⟨rfl,_,List.getElem_mem (h:=by have:=i.2; omega),l1,hsh1,rfl⟩))) (lock_cz hcz1)) | exact jq_ret1 rfl rfl [0,0,0] rfl (fin1 _ ⟨lv1,lab1,st1⟩ hok1 (.inn (.inr (.inr ⟨rfl,_,List.getElem_mem (h:=by have:=i.2; omega),l1,hsh1,rfl⟩))) (lock_cz hcz1)) | exact jq_ret1 rfl rfl [0,0,1] rfl (fin1 _ ⟨lv1,lab1,st1⟩ hok1 (.inn (.inr (.inr ⟨rfl,_,List.getElem_mem (h:=by have:=i.2; omega),l1,hsh1,rfl⟩))) (lock_cz hcz1)) | exact jq_ret1 rfl rfl [0,1,0] rfl (fin1 _ ⟨lv1,lab1,st1⟩ hok1 (.inn (.inr (.inr ⟨rfl,_,List.getElem_mem (h:=by have:=i.2; omega),l1,hsh1,rfl⟩))) (lock_cz hcz1)) | exact jq_ret1 rfl rfl [1,0,0] rfl (fin1 _ ⟨lv1,lab1,st1⟩ hok1 (.inn (.inr (.inr ⟨rfl,_,List.getElem_mem (h:=by have:=i.2; omega),l1,hsh1,rfl⟩))) (lock_cz hcz1)) | exact jq_ret1 rfl rfl [1,1,0] rfl (fin1 _ ⟨lv1,lab1,st1⟩ hok1 (.inn (.inr (.inr ⟨rfl,_,List.getElem_mem (h:=by have:=i.2; omega),l1,hsh1,rfl⟩))) (lock_cz hcz1))
      ·refine as_ (ay_ (jq_cut () [0,0,0] trivial O ?_))
       exact Ww
     ·refine as_ (ay_ (jq_cut () [0,0,0] trivial O ?_))
      exact Ww
 ·intro _ _
  refine R_ (M_ O (o_ O (bt_ [0,0,0] O O (gtarget_c gv.hL gv.hLn gv.hV0 gv.hV g_) (fun s1 hs1=>M_ O (o_ O (bt_ [0,0] O O (gexpr_c gv.hL gv.hLn gv.hV0 gv.hV gv.hA gv.hSh 2 2 g_ g_ g_) (fun e1 he1=>YK ?_)))))))
  refine bu_ O O O O O (o_ O (bq_ O O b_ O O b_ (E_ O (T_ (ar_ ?_)))))
  exact jq_sle 4 O (SLe.cell (CLe.list (.cons (sm_le 1 s1 [] [e1] 0 0 [] [] .nil (ex1_le e1) .nil .nil) .nil))) (jq_ret1 O O [0,0,0] O (fin0 _ ⟨rfl,.inl ⟨s1,e1,hs1,he1,rfl⟩⟩))
end
end Go.Proofs.YtalkkcfojplmdaaGreatDoor
end
section
namespace Go.Proofs.YtalkkcfojplmdaaGreatDoor
open Go.Vc
attribute [local irreducible] JL JC JQ OpWp Con ConN
section
variable {L:List Int} {bm bd:Nat} {V A:List ByteArray} {Sh:List Shd}
theorem maker_c (gv:Gv L V A Sh):∀ d:Nat,d≤10→StmtP L bm bd V A Sh d∧BlockP L bm bd V A Sh d∧LoopP L bm bd V A Sh d
 | 0,h=>by
  have h1:StmtP L bm bd V A Sh 0:=stmt_step gv 0 h (fun d' h=>by omega) (fun d' h=>by omega)
  have h2:=block_step gv 0 h1
  exact ⟨h1,h2,loop_step gv 0 h h2⟩
 | d+1,h=>by
  obtain ⟨_,g2,g3⟩:=maker_c gv d (by omega)
  have e2:∀ d',d+1=d'+1→BlockP L bm bd V A Sh d':=fun d' e=>by
   have e:d'=d:=by omega
   subst e
   exact g2
  have e3:∀ d',d+1=d'+1→LoopP L bm bd V A Sh d':=fun d' e=>by
   have e:d'=d:=by omega
   subst e
   exact g3
  have h1:=stmt_step gv (d+1) h e2 e3
  have h2:=block_step gv (d+1) h1
  exact ⟨h1,h2,loop_step gv (d+1) h h2⟩
end
theorem flat_szs {f:Sm→List Int} (h:∀ s,(f s).length≤s.sz):∀ l:List Sm,(l.flatMap f).length≤Sm.szs l
 | []=>by simp
 | s :: l=>by
  have:=flat_szs h l
  have:=h s
  simp only [List.flatMap_cons,List.length_append,Sm.szs]
  omega
theorem rlOne_le:∀ (f:Nat) (s:Sm),(rlOne f s).length≤s.sz
 | 0,s=>by simp [rlOne]
 | f+1,s=>by
  have h1:=flat_szs (rlOne_le f) s.thn
  have h2:=flat_szs (rlOne_le f) s.els
  have h3:(rlSelf s).length≤1:=by unfold rlSelf; split <;> simp
  simp only [rlOne,List.length_append,Sm.sz_eq s]
  omega
theorem ifs_le (l:List Sm):(ifsOf l).length≤Sm.szs l:=flat_szs (rlOne_le 20) l
def cntG:Nat→Nat
 | 0=>1
 | d+1=>3+4 * cntG d
theorem cntG_pos (d:Nat):1≤cntG d:=by cases d <;> simp [cntG]; omega
theorem pc_szs {St:Int→Int→List Sm→Prop} {n:Nat} (h:∀ a b l,St a b l→Sm.szs l≤n) {k:Nat} {a b:Int} {l:List Sm} (hp:PcG St k a b l):Sm.szs l≤k * n:=by
 induction hp with
 | nil=>simp [Sm.szs]
 | snoc k _ _ _ l l2 _ h2 ih =>
  have:=h _ _ _ h2
  rw [Sm.szs_app,Nat.add_mul]
  omega
theorem bl_szs {St:Int→Int→List Sm→Prop} {n:Nat} (h:∀ a b l,St a b l→Sm.szs l≤n) {m:Nat} {a b:Int} {l:List Sm} (hp:BlG St m a b l):Sm.szs l≤m * n:=by
 obtain ⟨k,hk,hp⟩:=hp
 exact Nat.le_trans (pc_szs h hp) (Nat.mul_le_mul_right _ (by omega))
theorem StG_szs {V A:List ByteArray} {Sh:List Shd}:∀ (d:Nat) (il:Int) (hs:ByteArray) (a b:Int) (l:List Sm),StG V A Sh d il hs a b l→Sm.szs l≤cntG d:=by
 have leaf:∀ {U:List ByteArray} {a b:Int} {l:List Sm},LeafG V U a b l→Sm.szs l=1:=by
  rintro U a b l ⟨_,⟨s,e,_,_,rfl⟩ | ⟨s,e,e2,_,_,_,rfl⟩⟩ <;> simp [Sm.szs,Sm.sz]
 intro d
 induction d with
 | zero =>
  intro il hs a b l h
  have:=leaf h
  simp [cntG,this]
 | succ d ih =>
  intro il hs a b l h
  have b2:∀ il hs a b l,BlG (StG V A Sh d il hs) 2 a b l→Sm.szs l≤2 * cntG d:=fun il hs a b l h=>bl_szs (m:=2) (ih il hs) h
  have hp:=cntG_pos d
  rcases h with h | h | h | h
  ·have:=leaf h
   simp only [cntG]
   omega
  ·obtain ⟨_,c,l1,l2,lab1,_,h1,h2,rfl⟩:=h
   have e1:=b2 _ _ _ _ _ h1
   have e2:Sm.szs l2≤2 * cntG d:=by
    rcases h2 with ⟨rfl,_⟩ | h2
    ·simp [Sm.szs]
    ·exact b2 _ _ _ _ _ h2
   simp only [Sm.szs,Sm.sz,cntG]
   omega
  ·obtain ⟨_,_,h | h⟩:=h
   ·obtain ⟨c,mx,l1,_,_,h1,rfl⟩:=h
    have e1:=b2 _ _ _ _ _ h1
    simp only [Sm.szs,Sm.sz,cntG]
    omega
   ·obtain ⟨v,n,op,top,mx,l1,st,_,_,_,_,_,_,h1,rfl⟩:=h
    have e1:=b2 _ _ _ _ _ h1
    simp only [Sm.szs,Sm.sz,cntG,Sm.szs_app]
    omega
  ·obtain ⟨_,sh,_,l1,h1,rfl⟩:=h
   have e1:=b2 _ _ _ _ _ h1
   simp only [Sm.szs,Sm.sz,cntG]
   omega
theorem body_szs {V A:List ByteArray} {Sh:List Shd} {a b:Int} {l:List Sm} (h:BlG (StG V A Sh 3 0 E0) 5 a b l):Sm.szs l≤635:=bl_szs (m:=5) (StG_szs 3 0 E0) h
end Go.Proofs.YtalkkcfojplmdaaGreatDoor
end
section
namespace Go.Proofs.YtalkkcfojplmdaaGreatDoor
open Go.Vc
attribute [local irreducible] JL JC JQ OpWp Con ConN
attribute [local irreducible] byteAt runLen isL isD isName hasW
set_option maxHeartbeats 4000000
def dpx (x:T):Bool:=decide (8 < x.dep)
def dpS (rec:List Sm→Bool) (s:Sm):Bool:=rec s.thn || rec s.els || s.index.any dpx || s.value.any dpx
def dpF:Nat→List Sm→Bool
 | 0,l=>!l.isEmpty
 | n+1,l=>l.any (dpS (dpF n))
def Fx (x:T):Prop:=x.ok∧x.dep≤8
def Pl (n:Int):Prop:=0≤n∧n≤2147483647
def fineS:Nat→Sm→Prop
 | 0,_=>False
 | n+1,s =>
  (s.kind=1∧nmOk s.name∧∃ x,s.value=[x]∧Fx x) ∨
  (s.kind=2∧nmOk s.name∧∃ y x,s.index=[y]∧s.value=[x]∧Fx y∧Fx x) ∨
  (s.kind=3∧(∃ x,s.value=[x]∧Fx x)∧Pl s.label∧(∀ t ∈ s.thn,fineS n t)∧∀ t ∈ s.els,fineS n t) ∨
  (s.kind=4∧(∃ x,s.value=[x]∧Fx x)∧Pl s.max∧Pl s.label∧(∀ t ∈ s.thn,fineS n t)∧s.els=[]) ∨
  (s.kind=5∧nmOk s.name∧(∀ t ∈ s.thn,fineS n t)∧s.els=[])
theorem nameB_ok {s:ByteArray}:nameB s=true ↔ nmOk s:=by
 unfold nameB nmOk
 rw [Bool.and_eq_true,Bool.not_eq_true']
theorem smallB_ok {n:Int}:smallB n=true ↔ -2147483647≤n∧n≤2147483647:=by
 unfold smallB
 rw [Bool.and_eq_true,decide_eq_true_eq,decide_eq_true_eq]; omega
theorem plainB_ok {n:Int}:plainB n=true ↔ Pl n:=by
 unfold plainB Pl
 rw [Bool.and_eq_true,decide_eq_true_eq,decide_eq_true_eq]; omega
theorem shpF_ok : ∀ (F : Nat) (t : T), t.dep ≤ F → (shpF F t = true ↔ t.ok)
  | 0, t, h => by have : 1 ≤ t.dep := by rw [T.dep_args]; omega
                  omega
  | F + 1, t, h => by
    cases t with
    | nu n => simp only [shpF, T.ok]; exact smallB_ok
    | nm s => simp only [shpF, T.ok]; exact nameB_ok
    | ix s x =>
      simp only [T.dep] at h
      simp only [shpF, T.ok, Bool.and_eq_true, nameB_ok, shpF_ok F x (by omega)]
    | bn o a b =>
      simp only [T.dep] at h
      simp only [shpF, T.ok, Bool.and_eq_true, decide_eq_true_eq, shpF_ok F a (by omega), shpF_ok F b (by omega), and_assoc]
theorem oneB_ok {l:List T} (h:oneB l=true) (hd:l.any dpx=false):∃ x,l=[x]∧Fx x:=by
 match l,h with
 | [x],h =>
  have hd:¬ 8 < x.dep:=by simpa [dpx] using hd
  exact ⟨x,rfl,(shpF_ok 20 x (by omega)).1 h,by omega⟩
theorem fine_of:∀ (n F:Nat) (l:List Sm),n≤F→okSs F l=true→dpF n l=false→∀ s ∈ l,fineS n s
 | 0,F,l,_,_,hd,s,hs=>by
  cases l with
  | nil=>cases hs
  | cons a l=>cases hd
 | n+1,0,l,hle,_,_,s,hs=>by omega
 | n+1,F+1,l,hle,ho,hd,s,hs=>by
  have h1:okOne (okSs F) s=true:=List.all_eq_true.1 ho s hs
  have h2:dpS (dpF n) s=false:=by
   have:=List.any_eq_false.1 hd s hs
   simpa using this
  simp only [dpS,Bool.or_eq_false_iff] at h2
  obtain ⟨⟨⟨d1,d2⟩,d3⟩,d4⟩:=h2
  have ht:=fun h=>fine_of n F s.thn (by omega) h d1
  have he:=fun h=>fine_of n F s.els (by omega) h d2
  unfold okOne at h1
  unfold fineS
  split at h1
  ·rename_i hk
   simp only [Bool.and_eq_true] at h1
   exact .inl ⟨hk,nameB_ok.1 h1.1.1.1.1.1.1,oneB_ok h1.1.1.1.1.2 d4⟩
  split at h1
  ·rename_i hk
   simp only [Bool.and_eq_true] at h1
   obtain ⟨y,hy,fy⟩:=oneB_ok h1.1.1.1.1.1.2 d3
   obtain ⟨x,hx,fx⟩:=oneB_ok h1.1.1.1.1.2 d4
   exact .inr (.inl ⟨hk,nameB_ok.1 h1.1.1.1.1.1.1,y,x,hy,hx,fy,fx⟩)
  split at h1
  ·rename_i hk
   simp only [Bool.and_eq_true] at h1
   exact .inr (.inr (.inl ⟨hk,oneB_ok h1.1.1.1.1.2 d4,plainB_ok.1 h1.1.1.2,ht h1.1.2,he h1.2⟩))
  split at h1
  ·rename_i hk
   simp only [Bool.and_eq_true,decide_eq_true_eq] at h1
   exact .inr (.inr (.inr (.inl ⟨hk,oneB_ok h1.1.1.1.1.2 d4,plainB_ok.1 h1.1.1.1.2,plainB_ok.1 h1.1.1.2,ht h1.1.2,List.eq_nil_of_length_eq_zero h1.2⟩)))
  split at h1
  ·rename_i hk
   simp only [Bool.and_eq_true,decide_eq_true_eq] at h1
   exact .inr (.inr (.inr (.inr ⟨hk,nameB_ok.1 h1.1.1.1.1.1.1,ht h1.1.2,List.eq_nil_of_length_eq_zero h1.2⟩)))
  ·cases h1
abbrev Ksp:ByteArray:=⟨#[32,32]⟩
abbrev Kelse2:ByteArray:=⟨#[125,32,101,108,115,101,32,123,10]⟩
abbrev Kclose:ByteArray:=⟨#[125,10]⟩
abbrev Kopen:ByteArray:=⟨#[32,123,10]⟩
abbrev Kif2:ByteArray:=⟨#[105,102,32]⟩
abbrev Klab:ByteArray:=⟨#[32,108,97,98,101,108,32]⟩
abbrev Kwh:ByteArray:=⟨#[119,104,105,108,101,32]⟩
abbrev Kmx:ByteArray:=⟨#[32,109,97,120,32]⟩
abbrev Klk:ByteArray:=⟨#[108,111,99,107,32]⟩
abbrev Kst:ByteArray:=⟨#[32,61,32]⟩
abbrev Knl:ByteArray:=⟨#[10]⟩
abbrev Kx1:ByteArray:=⟨#[91]⟩
abbrev Kx2:ByteArray:=⟨#[93,32,61,32]⟩
def tx1:List T→ByteArray
 | x :: _=>textT x
 | []=>⟨#[]⟩
def hdT (s:Sm):ByteArray :=
 if s.kind=1 then ((s.name ++ Kst) ++ tx1 s.value) ++ Knl
 else if s.kind=2 then ((((s.name ++ Kx1) ++ tx1 s.index) ++ Kx2) ++ tx1 s.value) ++ Knl
 else if s.kind=3 then (((Kif2 ++ tx1 s.value) ++ Klab) ++ numS s.label) ++ Kopen
 else if s.kind=4 then (((((Kwh ++ tx1 s.value) ++ Kmx) ++ numS s.max) ++ Klab) ++ numS s.label) ++ Kopen
 else (Klk ++ s.name) ++ Kopen
mutual
def stT (sp:ByteArray):Sm→ByteArray
 | .mk k nm i v m lb t e =>
  if k=1 ∨ k=2 then sp ++ hdT (.mk k nm i v m lb t e)
  else (sp ++ hdT (.mk k nm i v m lb t e)) ++ stsT (sp ++ Ksp) t ++ (if e=[] then ⟨#[]⟩ else (sp ++ Kelse2) ++ stsT (sp ++ Ksp) e) ++ (sp ++ Kclose)
def stsT (sp:ByteArray):List Sm→ByteArray
 | []=>⟨#[]⟩
 | s :: l=>stT sp s ++ stsT sp l
end
theorem ba_nil (X:ByteArray):X ++ (⟨#[]⟩:ByteArray)=X:=by apply ByteArray.ext; simp
theorem nil_ba (X:ByteArray):(⟨#[]⟩:ByteArray) ++ X=X:=by apply ByteArray.ext; simp
theorem stsT_app (sp:ByteArray):∀ l m:List Sm,stsT sp (l ++ m)=stsT sp l ++ stsT sp m
 | [],m=>by rw [List.nil_append,stsT,nil_ba]
 | s :: l,m=>by rw [List.cons_append,stsT,stsT,stsT_app sp l m,ByteArray.append_assoc]
theorem stsT_take (sp:ByteArray) {l:List Sm} {k:Nat} (h:k < l.length):stsT sp (l.take (k+1))=stsT sp (l.take k) ++ stT sp l[k]:=by
 rw [List.take_succ_eq_append_getElem h,stsT_app,stsT,stsT,ba_nil]
theorem stT_leaf (sp:ByteArray) {s:Sm} (h:s.kind=1 ∨ s.kind=2):stT sp s=sp ++ hdT s:=by
 cases s
 rw [stT]
 exact if_pos h
theorem stT_node (sp:ByteArray) {s:Sm} (h:¬ (s.kind=1 ∨ s.kind=2)):stT sp s=(sp ++ hdT s) ++ stsT (sp ++ Ksp) s.thn ++ (if s.els=[] then ⟨#[]⟩ else (sp ++ Kelse2) ++ stsT (sp ++ Ksp) s.els) ++ (sp ++ Kclose):=by
 cases s
 rw [stT]
 exact if_neg h
theorem Fx.size {x:T} (h:Fx x):(textT x).size≤25600:=by
 have h1:=text_size x h.1
 have h2:2 ^ x.dep≤2 ^ 8:=Nat.pow_le_pow_right (by decide) h.2
 omega
theorem Pl.size {n:Int} (h:Pl n):(numS n).size≤21:=numS_size n (by have:=h.1; omega) h.2
theorem hd_size {n:Nat} {s:Sm} (h:fineS n s):(hdT s).size≤51400:=by
 cases n with
 | zero=>exact h.elim
 | succ n =>
  unfold fineS at h
  unfold hdT
  rcases h with ⟨hk,hn,x,hx,fx⟩ | ⟨hk,hn,y,x,hy,hx,fy,fx⟩ | ⟨hk,⟨x,hx,fx⟩,hl,_⟩ | ⟨hk,⟨x,hx,fx⟩,hm,hl,_⟩ | ⟨hk,hn,_⟩
  ·have:=name_size hn
   have:=fx.size
   rw [if_pos hk,hx]
   simp only [tx1,ByteArray.size_append,show Kst.size=3 from rfl,show Knl.size=1 from rfl]
   omega
  ·have:=name_size hn
   have:=fx.size
   have:=fy.size
   rw [if_neg (by omega),if_pos hk,hx,hy]
   simp only [tx1,ByteArray.size_append,show Kx1.size=1 from rfl,show Kx2.size=4 from rfl,show Knl.size=1 from rfl]
   omega
  ·have:=hl.size
   have:=fx.size
   rw [if_neg (by omega),if_neg (by omega),if_pos hk,hx]
   simp only [tx1,ByteArray.size_append,show Kif2.size=3 from rfl,show Klab.size=7 from rfl,show Kopen.size=3 from rfl]
   omega
  ·have:=hl.size
   have:=hm.size
   have:=fx.size
   rw [if_neg (by omega),if_neg (by omega),if_neg (by omega),if_pos hk,hx]
   simp only [tx1,ByteArray.size_append,show Kwh.size=6 from rfl,show Kmx.size=5 from rfl,show Klab.size=7 from rfl,show Kopen.size=3 from rfl]
   omega
  ·have:=name_size hn
   rw [if_neg (by omega),if_neg (by omega),if_neg (by omega),if_neg (by omega)]
   simp only [ByteArray.size_append,show Klk.size=5 from rfl,show Kopen.size=3 from rfl]
   omega
theorem sts_size_of {n:Nat} {sp:ByteArray} (h:∀ s,fineS n s→(stT sp s).size≤60000 * s.sz):∀ l:List Sm,(∀ s ∈ l,fineS n s)→(stsT sp l).size≤60000 * Sm.szs l
 | [],_=>by simp [stsT,Sm.szs]; rfl
 | s :: l,hl=>by
  have h1:=h s (hl s (by simp))
  have h2:=sts_size_of h l (fun t ht=>hl t (by simp [ht]))
  rw [stsT,Sm.szs,ByteArray.size_append]
  omega
theorem st_size:∀ (n:Nat) (sp:ByteArray) (s:Sm),fineS n s→sp.size+2 * n≤100→(stT sp s).size≤60000 * s.sz
 | 0,_,_,h,_=>h.elim
 | n+1,sp,s,h,hsp=>by
  have hh:=hd_size h
  have ez:=Sm.sz_eq s
  by_cases hk:s.kind=1 ∨ s.kind=2
  ·rw [stT_leaf sp hk,ByteArray.size_append]; omega
  ·have ih:=sts_size_of (fun s hs=>st_size n (sp ++ Ksp) s hs (by rw [ByteArray.size_append,show Ksp.size=2 from rfl]; omega))
   have ht:∀ t ∈ s.thn,fineS n t:=by
    unfold fineS at h
    rcases h with h | h | h | h | h
    ·exact absurd (.inl h.1) hk
    ·exact absurd (.inr h.1) hk
    ·exact h.2.2.2.1
    ·exact h.2.2.2.2.1
    ·exact h.2.2.1
   have he:∀ t ∈ s.els,fineS n t:=by
    unfold fineS at h
    rcases h with h | h | h | h | h
    ·exact absurd (.inl h.1) hk
    ·exact absurd (.inr h.1) hk
    ·exact h.2.2.2.2
    ·rw [h.2.2.2.2.2]; simp
    ·rw [h.2.2.2]; simp
   have h1:=ih s.thn ht
   have h2:=ih s.els he
   rw [stT_node sp hk]
   split
   ·simp only [ByteArray.size_append,show Kclose.size=2 from rfl,show (⟨#[]⟩:ByteArray).size=0 from rfl]
    omega
   ·simp only [ByteArray.size_append,show Kclose.size=2 from rfl,show Kelse2.size=9 from rfl]
    omega
theorem sts_size {n:Nat} {sp:ByteArray} {l:List Sm} (h:∀ s ∈ l,fineS n s) (hsp:sp.size+2 * n≤100):(stsT sp l).size≤60000 * Sm.szs l:=sts_size_of (fun s hs=>st_size n sp s hs hsp) l h
theorem szs_take_succ {l:List Sm} {k:Nat} (h:k < l.length):Sm.szs (l.take k)+l[k].sz≤Sm.szs l:=by
 have h1:=Sm.szs_take l (k+1)
 rw [List.take_succ_eq_append_getElem h,Sm.szs_app] at h1
 simp only [Sm.szs] at h1
 omega
end Go.Proofs.YtalkkcfojplmdaaGreatDoor
end
section
namespace Go.Proofs.YtalkkcfojplmdaaGreatDoor
open Go.Vc
attribute [local irreducible] JL JC JQ OpWp Con ConN
attribute [local irreducible] byteAt runLen isL isD isName hasW rd
set_option maxHeartbeats 4000000
theorem any_yes {α:Type} {p:α→Bool} {l:List α} {k:Nat} (h:k < l.length) (h2:p l[k]=true):l.any p=true:=List.any_eq_true.2 ⟨l[k],List.getElem_mem h,h2⟩
def RDeepP (n:Nat):Prop:=∀ l:List Sm,Con Tryz.prog 200 [.cell (.list (l.map Sm.row)),In .i64 (9 - (n:Int))] [] (fun K=>K (Bl (dpF n l)) [])
theorem rdeep_zero:RDeepP 0:=by
 intro l
 cases l with
 | nil =>
  have eL:(([]:List Sm).map Sm.row).length=0:=rfl
  refine con_intro Tryz.func200 O O b_ (fun c hc=>ZO ?_)
  refine jc_loopS (ι:=Unit) [] (fun _=>True) (fun _=>[(0,.cell (.list (([]:List Sm).map Sm.row))),(1,In .i64 (9 - ((0:Nat):Int))),(5,In .i64 0)]) (fun _=>[]) (fun _=>0) () trivial ?_ ?_ ?_
  ·exact sub_end
  ·exact Ww
  intro _ _
  refine Yr (fun hlen=>?_)
  refine T_ (ap_ O O (av_ (ax_ (ax_ (ba_ (al_ (R_ (E_ O (T_ ?_)))))))))
  refine ar_ (jq_ret1 O O [] O (fun K h=>h))
 | cons s l =>
  have eL:(((s :: l).map Sm.row).length:Int)=(l.length:Int)+1:=by simp
  refine con_intro Tryz.func200 O O b_ (fun c hc=>ZO ?_)
  refine jc_loopS (ι:=Unit) [] (fun _=>True) (fun _=>[(0,.cell (.list ((s :: l).map Sm.row))),(1,In .i64 (9 - ((0:Nat):Int))),(5,In .i64 0)]) (fun _=>[]) (fun _=>0) () trivial ?_ ?_ ?_
  ·exact sub_end
  ·exact Ww
  intro _ _
  refine Yr (fun hlen=>?_)
  refine T_ (aq_ O t_ (as_ (al_ (B_ (Wp ?_)))))
  refine M_ O ?_
  refine Zd ?_
  refine Zd ?_
  refine o_ O (bp_ O O O (M_ O (Zd ?_)))
  refine ai_ O O b_ (ai_ O O b_ ?_)
  refine Z5 ?_
  refine ZK ?_
  refine aw_ (az_ (aw_ (aw_ (az_ (aw_ (jq_ret1 O O [] O (fun K h=>h)))))))
theorem rdeep_succ (n:Nat) (hn:n+1≤8) (ih:RDeepP n):RDeepP (n+1):=by
 intro l
 have hF1:(9 - ((n+1:Nat):Int)+1)=9 - (n:Int):=by omega
 have hF2:¬ 8 < (9 - ((n+1:Nat):Int)):=by omega
 have hF3:0≤(9 - ((n+1:Nat):Int))∧(9 - ((n+1:Nat):Int))≤8:=by omega
 generalize (9 - ((n+1:Nat):Int))=d at hF1 hF2 hF3 ⊢
 have hI:=fun m=>ih m
 rw [← hF1] at hI
 clear ih
 have eL:(l.map Sm.row).length=l.length:=List.length_map _
 refine con_intro Tryz.func200 O O b_ (fun c hc=>ZO ?_)
 refine jc_loopS (ι:=Nat) [] (fun k=>k≤l.length∧(l.take k).any (dpS (dpF n))=false) (fun k=>[(0,.cell (.list (l.map Sm.row))),(1,In .i64 d),(5,In .i64 (k:Int))]) (fun _=>[]) (fun k=>l.length - k) 0 ⟨Nat.zero_le _,rfl⟩ ?_ ?_ ?_
 ·exact sub_end
 ·exact Ww
 rintro k ⟨hk,hallS⟩
 by_cases hlt:k < l.length
 ·have hlt2:(k:Int) < ((l.map Sm.row).length:Int):=by omega
  refine Yu ?_
  refine Zb (fun hlen=>?_)
  refine Wp ?_
  refine M_ O ?_
  refine ah_ O w_ b_ (bd_ O (ah_ O w_ b_ (bd_ O (ah_ O w_ b_ (cc_ O O g_ (Sm.row_eq _) O b_ (ah_ O w_ b_ (cf_ O O O b_ O b_ (ah_ O w_ b_ (cb_ O O (ah_ O w_ b_ (bd_ O (ah_ O w_ b_ (bj_ O O g_ (ah_ O w_ b_ (bm_ O (hI _) (o_ O (bv_ O w_ O (M_ O (jl_or 8 12 O O O O (nb O) ?_)))))))))))))))))))
  apply Exists.intro
  refine ⟨fun hb1=>?_,?_⟩
  refine Z8 ?_
  refine bd_ O (ah_ O h_ b_ (cc_ O O g_ (Sm.row_eq _) O b_ (ah_ O h_ b_ (cf_ O O O b_ O b_ (ah_ O h_ b_ (cb_ O O (Z8 ?_)))))))
  exact bj_ O O g_ (ah_ O h_ b_ (bm_ O (hI _) (ak_ (jq_seg 8 O O O (List.Perm.refl _)))))
  refine T_ (jc_cond O (fun hy=>?_) (fun hn=>?_))
  ·have hres:dpF (n+1) l=true:=any_yes hlt (by unfold dpS; rw [hy]; rfl)
   refine R_ (E_ O (T_ (ar_ (aw_ (az_ (aw_ (aw_ (az_ (aw_ (jq_ret1 O O [] O (fun K h=>by rw [hres] at h; exact h)))))))))))
  refine as_ (al_ (am_ (jc_cut (ι:=Unit) [] (fun _=>(l[k].index).any dpx=false) (fun _=>[(0,.cell (.list (l.map Sm.row))),(1,In .i64 d),(5,In .i64 (k:Int))]) (fun _=>[]) ?_ ?_)))
  ·refine R_ (E_ O (T_ (au_ (jc_loopS (ι:=Nat) [] (fun q=>q≤(l[k].index).length∧((l[k].index).take q).any dpx=false) (fun q=>(6,In .i64 (q:Int)) :: [(0,.cell (.list (l.map Sm.row))),(1,In .i64 d),(5,In .i64 (k:Int))]) (fun _=>[]) (fun q=>(l[k].index).length - q) 0 ⟨Nat.zero_le _,rfl⟩ ?_ ?_ ?_))))
   ·exact sub_end
   ·exact Ww
   rintro q ⟨hq,hall⟩
   have eF:((l[k].index).map T.row).length=(l[k].index).length:=List.length_map _
   by_cases hltq:q < (l[k].index).length
   ·have hltq2:(q:Int) < (((l[k].index).map T.row).length:Int):=by omega
    have hrd:=rd_eq 20 (l[k].index)[q] (Nat.le_refl _)
    by_cases hd:8 < (l[k].index)[q].dep
    ·have hd2:(8:Int) < (rd 20 (l[k].index)[q]:Int):=by omega
     have hyes:(l[k].index).any dpx=true:=any_yes hltq (by unfold dpx; exact decide_eq_true hd)
     have hres:dpF (n+1) l=true:=any_yes hlt (by unfold dpS; rw [hyes]; simp)
     refine am_ (R_ (M_ O (ZY ?_)))
     refine Zb (fun hlen=>?_)
     refine R_ ?_
     refine ZY ?_
     refine M_ O (Zy ?_)
     refine o_ O (bm_ O (RDepth_c _) (o_ O (bz_ O O (T_ (aq_ O u_ (R_ (E_ O (T_ (ar_ ?_)))))))))
     refine az_ (aw_ (aw_ (az_ (aw_ (az_ (aw_ (aw_ (az_ (aw_ (jq_ret1 O O [] O (fun K h=>by rw [hres] at h; exact h)))))))))))
    ·have hd2:¬ (8:Int) < (rd 20 (l[k].index)[q]:Int):=by omega
     refine am_ (R_ (M_ O (ZY ?_)))
     refine Zb (fun hlen=>?_)
     refine R_ ?_
     refine ZY ?_
     refine M_ O (Zy ?_)
     refine o_ O (bm_ O (RDepth_c _) (Ws ?_))
     refine ay_ (al_ (an_ ?_))
     refine YN ?_
     refine jq_againS (q+1) ⟨hltq,any_snoc hltq hall (by unfold dpx; exact decide_eq_false hd)⟩ g_ ?_ ?_
     ·exact sub_end
     ·exact Ww
   ·have hltq2:¬ (q:Int) < (((l[k].index).map T.row).length:Int):=by omega
    refine am_ (R_ (M_ O (ZY ?_)))
    refine Zh (fun hlen=>?_)
    refine jq_cutS () (by rw [List.take_of_length_le g_] at hall; exact hall) ?_ ?_
    ·exact sub_end
    ·exact Ww
  intro _ hi1
  refine R_ (E_ O (T_ (au_ (jc_loopS (ι:=Nat) [] (fun q=>q≤(l[k].value).length∧((l[k].value).take q).any dpx=false) (fun q=>(7,In .i64 (q:Int)) :: [(0,.cell (.list (l.map Sm.row))),(1,In .i64 d),(5,In .i64 (k:Int))]) (fun _=>[]) (fun q=>(l[k].value).length - q) 0 ⟨Nat.zero_le _,rfl⟩ ?_ ?_ ?_))))
  ·exact sub_end
  ·exact Ww
  rintro q ⟨hq,hall⟩
  have eF:((l[k].value).map T.row).length=(l[k].value).length:=List.length_map _
  by_cases hltq:q < (l[k].value).length
  ·have hltq2:(q:Int) < (((l[k].value).map T.row).length:Int):=by omega
   have hrd:=rd_eq 20 (l[k].value)[q] (Nat.le_refl _)
   by_cases hd:8 < (l[k].value)[q].dep
   ·have hd2:(8:Int) < (rd 20 (l[k].value)[q]:Int):=by omega
    have hyes:(l[k].value).any dpx=true:=any_yes hltq (by unfold dpx; exact decide_eq_true hd)
    have hres:dpF (n+1) l=true:=any_yes hlt (by unfold dpS; rw [hyes]; simp)
    refine am_ (R_ (M_ O (ZY ?_)))
    refine Zb (fun hlen=>?_)
    refine R_ ?_
    refine ZY ?_
    refine M_ O (Zy ?_)
    refine o_ O (bm_ O (RDepth_c _) (o_ O (bz_ O O (T_ (aq_ O u_ (R_ (E_ O (T_ (ar_ ?_)))))))))
    refine az_ (aw_ (aw_ (az_ (az_ (aw_ (aw_ (az_ (aw_ (jq_ret1 O O [] O (fun K h=>by rw [hres] at h; exact h))))))))))
   ·have hd2:¬ (8:Int) < (rd 20 (l[k].value)[q]:Int):=by omega
    refine am_ (R_ (M_ O (ZY ?_)))
    refine Zb (fun hlen=>?_)
    refine R_ ?_
    refine ZY ?_
    refine M_ O (Zy ?_)
    refine o_ O (bm_ O (RDepth_c _) (Ws ?_))
    refine ay_ (al_ (an_ ?_))
    refine YN ?_
    refine jq_againS (q+1) ⟨hltq,any_snoc hltq hall (by unfold dpx; exact decide_eq_false hd)⟩ g_ ?_ ?_
    ·exact sub_end
    ·exact Ww
  ·have hltq2:¬ (q:Int) < (((l[k].value).map T.row).length:Int):=by omega
   refine am_ (R_ (M_ O (ZY ?_)))
   refine Zh (fun hlen=>?_)
   refine Zk ?_
   rw [List.take_of_length_le (by omega)] at hall
   have hS:dpS (dpF n) l[k]=false:=by unfold dpS; rw [hn,hi1,hall]; rfl
   refine jq_againS (k+1) ⟨hlt,any_snoc hlt hallS hS⟩ g_ ?_ ?_
   ·exact sub_end
   ·exact Ww
 ·have hlt2:¬ (k:Int) < ((l.map Sm.row).length:Int):=by omega
  have hres:dpF (n+1) l=false:=by rw [List.take_of_length_le (by omega)] at hallS; exact hallS
  refine Yu ?_
  refine Zh (fun hlen=>?_)
  refine al_ (R_ (E_ O (T_ ?_)))
  refine ar_ (jq_ret1 O O [] O (fun K h=>by rw [hres] at h; exact h))
theorem rdeep_c:∀ n:Nat,n≤8→RDeepP n
 | 0,_=>rdeep_zero
 | n+1,h=>rdeep_succ n h (rdeep_c n (by omega))
theorem rDeep_c (l:List Sm):Con Tryz.prog 161 [.cell (.list (l.map Sm.row))] [] (fun K=>K (Bl (dpF 8 l)) []):=by
 have h:=rdeep_c 8 (Nat.le_refl _) l
 refine con_intro Tryz.func161 O O b_ (fun c hc=>R_ (E_ O (T_ (R_ (M_ O (o_ O (bm_ O (h) (E_ O (T_ (ar_ (jq_ret1 O O [] O (fun K h=>h))))))))))))
end Go.Proofs.YtalkkcfojplmdaaGreatDoor
end