import Derived.Test.YtalkkcfojplmdaaGreatDoorMy7
import Derived.Test.YtalkkcfojplmdaaGreatDoorCards
import Derived.Test.YtalkkcfojplmdaaGreatDoorTie
import Derived.SliceStrings
import Derived.WalkKit
import Derived.ProofKit
import Derived.OpenShut
import Derived.LaidMore
import Derived.Stop.Joined
import Derived.Stop.LaidErr
import Derived.Deep.DeepHandedRow
import Derived.Lib.LaidTab
import Derived.Lib.SmallJoins
import Derived.Carry
section
namespace Go.Proofs.YtalkkcfojplmdaaGreatDoor
open Go.Vc
attribute [local irreducible] JL JC JQ OpWp Con ConN HOk
attribute [local irreducible] evJ evF Jb.arr
set_option maxHeartbeats 4000000
end Go.Proofs.YtalkkcfojplmdaaGreatDoor
end
section
namespace Go.Proofs.YtalkkcfojplmdaaGreatDoor
open Go.Vc
attribute [local irreducible] JL JC JQ OpWp Con ConN HOk
set_option maxHeartbeats 4000000
theorem SameInts_c (a b:List Int):Con Tryz.prog 39 [.cell (.list (a.map Irow)),.cell (.list (b.map Irow))] [] (fun K=>K (Bl (decide (a=b))) []):=by
 have eA:(a.map Irow).length=a.length:=List.length_map _
 have eB:(b.map Irow).length=b.length:=List.length_map _
 refine con_intro Tryz.func39 O O b_ (fun c hc=>ZV ?_)
 refine br_ O (fun hlen=>M_ O (o_ O (br_ O (fun hlen=>o_ O (bx_ O O (T_ (jc_condd O (fun hne=>?_) (fun heq=>?_))))))))
 ·refine R_ (E_ O (T_ (ar_ (aw_ (jq_ret1 O O [] O (fun K h=>?_))))))
  rw [show decide (a=b)=false from decide_eq_false (fun e=>hne (by rw [e]))] at h
  exact h
 refine as_ (al_ (am_ (R_ (E_ O (T_ (au_ ?_))))))
 have hab:a.length=b.length:=by omega
 refine jc_loop [0,1] (fun k=>k≤a.length∧a.take k=b.take k) (fun k=>[(5,In .i64 (k:Int))]) (fun _=>[]) (fun k=>a.length - k) 0 [] ⟨Nat.zero_le _,rfl⟩ O ?_ ?_
 ·exact Ww
 ·rintro k ⟨hk,hke⟩
  refine Yr (fun hlen=>?_)
  refine T_ (jc_condd O (fun hlt=>?_) (fun hge=>?_))
  ·have hlt:k < a.length:=by omega
   have hltb:k < b.length:=by omega
   refine as_ (al_ (B_ (ZM ?_)))
   refine aa_ (fun c=>cb_ O O p_) (yM_ O (yM_ O (YG ?_)))
   refine aa_ (fun c=>bx_ O O p_) (ae_ (al_ ?_))
   refine jc_condd O (fun hne=>?_) (fun hee=>?_)
   ·refine Zr ?_
    refine aw_ (jq_ret1 O O [] O (fun K h=>?_))
    rw [show decide (a=b)=false from decide_eq_false (fun e=>hne (by subst e; rfl))] at h
    exact h
   ·have hee':a[k]=b[k]:=by omega
    refine as_ (Zk ?_)
    refine jq_again (k+1) [] ⟨hlt,by rw [List.take_succ_eq_append_getElem hlt,List.take_succ_eq_append_getElem hltb,hke,hee']⟩ g_ O ?_
    exact Ww
  ·rw [List.take_of_length_le (by omega),List.take_of_length_le (by omega)] at hke
   subst hke
   refine av_ (ax_ (ax_ (ba_ (al_ (R_ (E_ O (T_ (ar_ (jq_ret1 O O [] O (fun K h=>by simpa using h))))))))))
theorem SameIX_c (a:List Int):Con Tryz.prog 39 [.cell (.list (a.map Irow)),.cell (.list (a.map Irow))] [] (fun K=>K (Bl true) []):=by
 have:=SameInts_c a a
 rwa [decide_eq_true rfl] at this
end Go.Proofs.YtalkkcfojplmdaaGreatDoor
end
section
namespace Go.Proofs.YtalkkcfojplmdaaGreatDoor
open Go.Vc
set_option maxHeartbeats 1000000
mutual
def Sm.ev (p:Int→ByteArray→Int→Int→Bool):Sm→Bool
 | .mk k nm _ _ mx lb t e=>p k nm lb mx && Sm.evs p t && Sm.evs p e
def Sm.evs (p:Int→ByteArray→Int→Int→Bool):List Sm→Bool
 | []=>true
 | s :: l=>s.ev p && Sm.evs p l
end
section
variable {p q:Int→ByteArray→Int→Int→Bool}
theorem ev_eq (p:Int→ByteArray→Int→Int→Bool) (s:Sm):s.ev p=(p s.kind s.name s.label s.max && Sm.evs p s.thn && Sm.evs p s.els):=by cases s; rfl
theorem evs_mem:∀ {l:List Sm},Sm.evs p l=true→∀ s ∈ l,s.ev p=true
 | u :: l,h,s,hs=>by
  rw [Sm.evs,Bool.and_eq_true] at h
  rcases List.mem_cons.1 hs with rfl | hs
  ·exact h.1
  ·exact evs_mem h.2 s hs
theorem evs_of:∀ {l:List Sm},(∀ s ∈ l,s.ev p=true)→Sm.evs p l=true
 | [],_=>rfl
 | u :: l,h=>by rw [Sm.evs,h u (List.mem_cons_self ..),evs_of (fun s hs=>h s (List.mem_cons_of_mem _ hs))]; rfl
theorem run_rel {AM:AMt} {R:Jb→Jb→Prop} (hr:∀ j,R j j) (ht:∀ a b c,R a b→R b c→R a c)
 (hv:∀ (j:Jb) (V:List (ByteArray × Int)),R j (Jb.step { j with V:=V })) (hp:∀ (j:Jb) (nm:ByteArray) (i n lb mx:Int),p 2 nm lb mx=true→R j (j.put AM nm i n).step)
 (hi:∀ (nm:ByteArray) (lb mx:Int) (j:Jb),p 3 nm lb mx=true→R j ((j.up (3 * lb)).step.up (3 * lb+1))∧R j ((j.up (3 * lb)).step.up (3 * lb+2)))
 (hw:∀ (nm:ByteArray) (c:T) (lb mx:Int) (body:Jb→Jb) (j:Jb),p 4 nm lb mx=true→(∀ j,R j (body j))→R j ((whI AM c lb body mx.toNat (j.up (3 * lb))).up (3 * lb+2))) :
 ∀ l:List Sm,Sm.evs p l=true→∀ j,R j (runL AM l j):=by
 refine Sms.ind (fun l ih hl j=>?_)
 have key:∀ k,k≤l.length→R j (runL AM (l.take k) j):=by
  intro k
  induction k with
  | zero=>intro _; rw [List.take_zero,runL]; exact hr j
  | succ k ihk =>
   intro hk
   refine ht _ _ _ (ihk (by omega)) ?_
   obtain ⟨i1,i2⟩:=ih l[k] (List.getElem_mem (by omega))
   have h1:=evs_mem hl l[k] (List.getElem_mem (by omega))
   rw [ev_eq,Bool.and_eq_true,Bool.and_eq_true] at h1
   obtain ⟨⟨h0,h1⟩,h2⟩:=h1
   rw [runL_step (by omega),runS_eq]
   generalize runL AM (l.take k) j=j1
   split
   ·exact hv _ _
   split
   ·rename_i hk2
    rw [hk2] at h0
    exact hp _ _ _ _ _ _ h0
   split
   ·rename_i hk3
    rw [hk3] at h0
    have:=hi _ _ _ j1 h0
    split
    ·exact ht _ _ _ this.1 (i1 h1 _)
    ·exact ht _ _ _ this.2 (i2 h2 _)
   split
   ·rename_i hk4
    rw [hk4] at h0
    exact hw _ _ _ _ _ _ h0 (fun j=>i1 h1 j)
   split
   ·exact i1 h1 _
   ·exact hr _
 have:=key l.length (Nat.le_refl _)
 rw [List.take_of_length_le (Nat.le_refl _)] at this
 exact this
theorem whI_rel {AM:AMt} {R:Jb→Jb→Prop} (hr:∀ j,R j j) (ht:∀ a b c,R a b→R b c→R a c) {c:T} {lb:Int} {body:Jb→Jb} (hs:∀ j,R j j.step) (hu:∀ j,R j (j.step.up (3 * lb+1))) (hb:∀ j,R j (body j)):∀ (n:Nat) (j:Jb),R j (whI AM c lb body n j)
 | 0,j=>by rw [whI]; exact hr j
 | n+1,j=>by
  rw [whI]
  split
  ·exact hs j
  ·exact ht _ _ _ (ht _ _ _ (hu j) (hb _)) (whI_rel hr ht hs hu hb n _)
def cnt (j:Jb) (m:Nat):Int:=j.cn.getD m 0
theorem cnt_up (j:Jb) (i:Int) {m:Nat} (h:m < j.cn.length):cnt (j.up i) m=cnt j m+(if i.toNat=m then 1 else 0):=by
 unfold cnt Jb.up
 dsimp only
 rw [List.getD_eq_getElem?_getD,List.getD_eq_getElem?_getD,List.getD_eq_getElem?_getD,List.getElem?_set]
 by_cases hi:i.toNat=m
 ·subst hi; simp [h]
 ·simp [hi]
theorem up_len (j:Jb) (i:Int):(j.up i).cn.length=j.cn.length:=List.length_set
theorem cnt_step (j:Jb) (m:Nat):cnt j.step m=cnt j m:=rfl
theorem step_len (j:Jb):j.step.cn.length=j.cn.length:=rfl
theorem put_cn (AM:AMt) (j:Jb) (nm:ByteArray) (i n:Int):(j.put AM nm i n).cn=j.cn:=by unfold Jb.put; split <;> rfl
def Rl (F:(Nat→Int)→(Nat→Int)→Prop) (j j':Jb):Prop:=j.cn.length=39→j'.cn.length=39∧F (cnt j) (cnt j')
theorem Rl.refl {F:(Nat→Int)→(Nat→Int)→Prop} (hF:∀ a,F a a) (j:Jb):Rl F j j:=fun h=>⟨h,hF _⟩
theorem Rl.trans {F:(Nat→Int)→(Nat→Int)→Prop} (hF:∀ a b c,F a b→F b c→F a c) (i j k:Jb) (h:Rl F i j) (h':Rl F j k):Rl F i k:=fun hl=>⟨(h' (h hl).1).1,hF _ _ _ (h hl).2 (h' (h hl).1).2⟩
theorem Rl.same {F:(Nat→Int)→(Nat→Int)→Prop} (hF:∀ a,F a a) {j j':Jb} (h:j'.cn=j.cn):Rl F j j':=fun hl=>⟨by rw [h]; exact hl,(show cnt j'=cnt j by funext m; unfold cnt; rw [h]) ▸ hF _⟩
theorem cnt_up39 {j:Jb} (h:j.cn.length=39) (i:Int):∀ m,m < 39→cnt (j.up i) m=cnt j m+(if i.toNat=m then 1 else 0):=fun m hm=>cnt_up j i (by omega)
def FIf (k:Nat) (a b:Nat→Int):Prop:=b (3 * k) - b (3 * k+1) - b (3 * k+2)=a (3 * k) - a (3 * k+1) - a (3 * k+2)
def FWh (k:Nat) (a b:Nat→Int):Prop:=b (3 * k) - b (3 * k+2)=a (3 * k) - a (3 * k+2)∧32 * a (3 * k) - a (3 * k+1)≤32 * b (3 * k) - b (3 * k+1)
def F0 (a b:Nat→Int):Prop:=∀ m,m < 3→b m=a m
theorem if_i {P:Prop} [Decidable P]:(P→(if P then (1:Int) else 0)=1)∧(¬ P→(if P then (1:Int) else 0)=0):=⟨fun h=>if_pos h,fun h=>if_neg h⟩
theorem up_far {F:(Nat→Int)→(Nat→Int)→Prop} {j:Jb} {i:Int} (h:∀ a b:Nat→Int,(∀ m,m < 39→b m=a m+(if i.toNat=m then 1 else 0))→F a b):Rl F j (j.up i):=fun hl=>⟨by rw [up_len]; exact hl,h _ _ (cnt_up39 hl i)⟩
theorem FIf.refl (k:Nat) (a:Nat→Int):FIf k a a:=rfl
theorem FIf.trans (k:Nat) (a b c:Nat→Int) (h:FIf k a b) (h':FIf k b c):FIf k a c:=by unfold FIf at *; omega
theorem FWh.refl (k:Nat) (a:Nat→Int):FWh k a a:=⟨rfl,Int.le_refl _⟩
theorem FWh.trans (k:Nat) (a b c:Nat→Int) (h:FWh k a b) (h':FWh k b c):FWh k a c:=by unfold FWh at *; omega
theorem F0.trans (a b c:Nat→Int) (h:F0 a b) (h':F0 b c):F0 a c:=fun m hm=>(h' m hm).trans (h m hm)
def pIf (k:Nat) (kd:Int) (_:ByteArray) (lb _:Int):Bool:=if kd=3 then decide (1≤lb) && decide (lb≤12) else if kd=4 then decide (1≤lb) && decide (lb≤12) && !decide (lb=k) else true
def pWh (k:Nat) (kd:Int) (_:ByteArray) (lb mx:Int):Bool:=if kd=3 then decide (1≤lb) && decide (lb≤12) && !decide (lb=k) else if kd=4 then decide (1≤lb) && decide (lb≤12) && decide (0≤mx) && decide (mx≤32) else true
def p0 (kd:Int) (_:ByteArray) (lb _:Int):Bool:=if kd=3 ∨ kd=4 then decide (1≤lb) && decide (lb≤12) else true
theorem far_if {k:Nat} (hk:1≤k∧k≤12) {lb:Int} (_h:1≤lb∧lb≤12) (hne:lb≠k) (x:Int) (hx:0≤x∧x≤2) (j:Jb):Rl (FIf k) j (j.up (3 * lb+x)):=up_far (fun a b hb=>by
 unfold FIf
 rw [hb (3 * k) (by omega),hb (3 * k+1) (by omega),hb (3 * k+2) (by omega),if_i.2 (by omega),if_i.2 (by omega),if_i.2 (by omega)]
 omega)
theorem far_wh {k:Nat} (hk:1≤k∧k≤12) {lb:Int} (_h:1≤lb∧lb≤12) (hne:lb≠k) (x:Int) (hx:0≤x∧x≤2) (j:Jb):Rl (FWh k) j (j.up (3 * lb+x)):=up_far (fun a b hb=>by
 unfold FWh
 rw [hb (3 * k) (by omega),hb (3 * k+1) (by omega),hb (3 * k+2) (by omega),if_i.2 (by omega),if_i.2 (by omega),if_i.2 (by omega)]
 omega)
theorem far_0 {lb:Int} (h:1≤lb∧lb≤12) (x:Int) (hx:0≤x∧x≤2) (j:Jb):Rl F0 j (j.up (3 * lb+x)):=up_far (fun a b hb m hm=>by
 rw [hb m (by omega),if_i.2 (by omega),Int.add_zero])
theorem run_if (AM:AMt) {k:Nat} (hk:1≤k∧k≤12):∀ l:List Sm,Sm.evs (pIf k) l=true→∀ j,Rl (FIf k) j (runL AM l j):=by
 have hr:=Rl.refl (FIf.refl k)
 have ht:=Rl.trans (FIf.trans k)
 have hs:∀ j:Jb,Rl (FIf k) j j.step:=fun j=>Rl.same (FIf.refl k) rfl
 refine run_rel hr ht (fun j V=>Rl.same (FIf.refl k) O) (fun j nm i n lb mx _=>Rl.same (FIf.refl k) (put_cn AM j nm i n)) ?_ ?_
 ·intro nm lb mx j h
  unfold pIf at h
  rw [if_pos rfl] at h
  simp only [Bool.and_eq_true,decide_eq_true_eq] at h
  by_cases hne:lb=k
  ·subst hne
   refine ⟨fun hl=>⟨hl ▸ by rw [up_len,step_len,up_len],?_⟩,fun hl=>⟨hl ▸ by rw [up_len,step_len,up_len],?_⟩⟩
   all_goals
    have h1:=cnt_up39 (j:=j) hl (3 * (k:Int))
    have hl2:(j.up (3 * (k:Int))).step.cn.length=39:=by rw [step_len,up_len]; exact hl
    unfold FIf
    rw [cnt_up39 hl2 _ (3 * k) (by omega),cnt_up39 hl2 _ (3 * k+1) (by omega),cnt_up39 hl2 _ (3 * k+2) (by omega),cnt_step,cnt_step,cnt_step,h1 (3 * k) (by omega),h1 (3 * k+1) (by omega),h1 (3 * k+2) (by omega)]
    rw [if_i.1 (by omega:(3 * (k:Int)).toNat=3 * k),if_i.2 (by omega:¬ (3 * (k:Int)).toNat=3 * k+1),if_i.2 (by omega:¬ (3 * (k:Int)).toNat=3 * k+2)]
   ·rw [if_i.2 (by omega:¬ (3 * (k:Int)+1).toNat=3 * k),if_i.1 (by omega:(3 * (k:Int)+1).toNat=3 * k+1),if_i.2 (by omega:¬ (3 * (k:Int)+1).toNat=3 * k+2)]
    omega
   ·rw [if_i.2 (by omega:¬ (3 * (k:Int)+2).toNat=3 * k),if_i.2 (by omega:¬ (3 * (k:Int)+2).toNat=3 * k+1),if_i.1 (by omega:(3 * (k:Int)+2).toNat=3 * k+2)]
    omega
  ·have h0:=far_if hk h hne 0 (by omega) j
   rw [Int.add_zero] at h0
   exact ⟨ht _ _ _ (ht _ _ _ h0 (hs _)) (far_if hk h hne 1 (by omega) _),ht _ _ _ (ht _ _ _ h0 (hs _)) (far_if hk h hne 2 (by omega) _)⟩
 ·intro nm c lb mx body j h hb
  unfold pIf at h
  rw [if_neg (by decide),if_pos rfl] at h
  simp only [Bool.and_eq_true,decide_eq_true_eq,Bool.not_eq_true',decide_eq_false_iff_not] at h
  obtain ⟨h,hne⟩:=h
  have h0:=far_if hk h hne 0 (by omega) j
  rw [Int.add_zero] at h0
  exact ht _ _ _ (ht _ _ _ h0 (whI_rel hr ht hs (fun j=>ht _ _ _ (hs j) (far_if hk h hne 1 (by omega) _)) hb _ _)) (far_if hk h hne 2 (by omega) _)
theorem whB {AM:AMt} {k:Nat} (hk:1≤k∧k≤12) {c:T} {body:Jb→Jb} (hb:∀ j,Rl (FWh k) j (body j)):∀ (n:Nat) (j:Jb),j.cn.length=39→(whI AM c k body n j).cn.length=39∧cnt (whI AM c k body n j) (3 * k) - cnt (whI AM c k body n j) (3 * k+2)=cnt j (3 * k) - cnt j (3 * k+2)∧32 * cnt j (3 * k) - cnt j (3 * k+1) - n≤32 * cnt (whI AM c k body n j) (3 * k) - cnt (whI AM c k body n j) (3 * k+1)
 | 0,j,h=>by rw [whI]; exact ⟨h,rfl,by omega⟩
 | n+1,j,h=>by
  rw [whI]
  split
  ·exact ⟨h,rfl,by rw [cnt_step,cnt_step]; omega⟩
  ·have h1:=cnt_up39 (j:=j.step) h (3 * (k:Int)+1)
   have hl2:(j.step.up (3 * (k:Int)+1)).cn.length=39:=by rw [up_len]; exact h
   obtain ⟨hl3,hB⟩:=hb _ hl2
   obtain ⟨g1,g2,g3⟩:=whB hk hb n _ hl3
   refine ⟨g1,?_,?_⟩
   all_goals
    unfold FWh at hB
    rw [h1 (3 * k) (by omega),h1 (3 * k+1) (by omega),h1 (3 * k+2) (by omega),if_i.2 (by omega:¬ (3 * (k:Int)+1).toNat=3 * k),if_i.1 (by omega:(3 * (k:Int)+1).toNat=3 * k+1),if_i.2 (by omega:¬ (3 * (k:Int)+1).toNat=3 * k+2),cnt_step,cnt_step,cnt_step] at hB
    omega
theorem run_wh (AM:AMt) {k:Nat} (hk:1≤k∧k≤12):∀ l:List Sm,Sm.evs (pWh k) l=true→∀ j,Rl (FWh k) j (runL AM l j):=by
 have hr:=Rl.refl (FWh.refl k)
 have ht:=Rl.trans (FWh.trans k)
 have hs:∀ j:Jb,Rl (FWh k) j j.step:=fun j=>Rl.same (FWh.refl k) rfl
 refine run_rel hr ht (fun j V=>Rl.same (FWh.refl k) O) (fun j nm i n lb mx _=>Rl.same (FWh.refl k) (put_cn AM j nm i n)) ?_ ?_
 ·intro nm lb mx j h
  unfold pWh at h
  rw [if_pos rfl] at h
  simp only [Bool.and_eq_true,decide_eq_true_eq,Bool.not_eq_true',decide_eq_false_iff_not] at h
  obtain ⟨h,hne⟩:=h
  have h0:=far_wh hk h hne 0 (by omega) j
  rw [Int.add_zero] at h0
  exact ⟨ht _ _ _ (ht _ _ _ h0 (hs _)) (far_wh hk h hne 1 (by omega) _),ht _ _ _ (ht _ _ _ h0 (hs _)) (far_wh hk h hne 2 (by omega) _)⟩
 ·intro nm c lb mx body j h hb
  unfold pWh at h
  rw [if_neg (by decide),if_pos rfl] at h
  simp only [Bool.and_eq_true,decide_eq_true_eq] at h
  obtain ⟨⟨h,hm0⟩,hm1⟩:=h
  by_cases hne:lb=k
  ·subst hne
   intro hl
   have h1:=cnt_up39 (j:=j) hl (3 * (k:Int))
   have hl2:(j.up (3 * (k:Int))).cn.length=39:=by rw [up_len]; exact hl
   obtain ⟨g1,g2,g3⟩:=whB (AM:=AM) (c:=c) hk hb mx.toNat _ hl2
   have h3:=cnt_up39 g1 (3 * (k:Int)+2)
   refine ⟨by rw [up_len]; exact g1,?_⟩
   unfold FWh
   rw [h3 (3 * k) (by omega),h3 (3 * k+1) (by omega),h3 (3 * k+2) (by omega),if_i.2 (by omega:¬ (3 * (k:Int)+2).toNat=3 * k),if_i.2 (by omega:¬ (3 * (k:Int)+2).toNat=3 * k+1),if_i.1 (by omega:(3 * (k:Int)+2).toNat=3 * k+2)]
   rw [h1 (3 * k) (by omega),h1 (3 * k+2) (by omega),if_i.1 (by omega:(3 * (k:Int)).toNat=3 * k),if_i.2 (by omega:¬ (3 * (k:Int)).toNat=3 * k+2)] at g2
   rw [h1 (3 * k) (by omega),h1 (3 * k+1) (by omega),if_i.1 (by omega:(3 * (k:Int)).toNat=3 * k),if_i.2 (by omega:¬ (3 * (k:Int)).toNat=3 * k+1)] at g3
   omega
  ·have h0:=far_wh hk h hne 0 (by omega) j
   rw [Int.add_zero] at h0
   exact ht _ _ _ (ht _ _ _ h0 (whI_rel hr ht hs (fun j=>ht _ _ _ (hs j) (far_wh hk h hne 1 (by omega) _)) hb _ _)) (far_wh hk h hne 2 (by omega) _)
theorem run_0 (AM:AMt):∀ l:List Sm,Sm.evs p0 l=true→∀ j,Rl F0 j (runL AM l j):=by
 have hr:=Rl.refl (F:=F0) (fun a m _=>rfl)
 have ht:=Rl.trans F0.trans
 have hs:∀ j:Jb,Rl F0 j j.step:=fun j=>Rl.same (fun a m _=>rfl) rfl
 refine run_rel hr ht (fun j V=>Rl.same (fun a m _=>O) O) (fun j nm i n lb mx _=>Rl.same (fun a m _=>O) (put_cn AM j nm i n)) ?_ ?_
 ·intro nm lb mx j h
  unfold p0 at h
  rw [if_pos (.inl rfl)] at h
  simp only [Bool.and_eq_true,decide_eq_true_eq] at h
  have h0:=far_0 h 0 (by omega) j
  rw [Int.add_zero] at h0
  exact ⟨ht _ _ _ (ht _ _ _ h0 (hs _)) (far_0 h 1 (by omega) _),ht _ _ _ (ht _ _ _ h0 (hs _)) (far_0 h 2 (by omega) _)⟩
 ·intro nm c lb mx body j h hb
  unfold p0 at h
  rw [if_pos (.inr rfl)] at h
  simp only [Bool.and_eq_true,decide_eq_true_eq] at h
  have h0:=far_0 h 0 (by omega) j
  rw [Int.add_zero] at h0
  exact ht _ _ _ (ht _ _ _ h0 (whI_rel hr ht hs (fun j=>ht _ _ _ (hs j) (far_0 h 1 (by omega) _)) hb _ _)) (far_0 h 2 (by omega) _)
theorem whI_st {AM:AMt} {c:T} {lb:Int} {body:Jb→Jb} {B:Nat} (hb:∀ j,(body j).st≤j.st+B):∀ (n:Nat) (j:Jb),(whI AM c lb body n j).st≤j.st+(n * (2+B):Nat)
 | 0,j=>by rw [whI]; omega
 | n+1,j=>by
  rw [whI]
  have e:(n+1) * (2+B)=n * (2+B)+(2+B):=by rw [Nat.add_mul,Nat.one_mul]
  split
  ·show j.st+1≤_; omega
  ·have h1:=whI_st (AM:=AM) (c:=c) (lb:=lb) hb n (body (j.step.up (3 * lb+1)))
   have h2:=hb (j.step.up (3 * lb+1))
   have h3:(j.step.up (3 * lb+1)).st=j.st+1:=rfl
   omega
theorem runL_st (AM:AMt):∀ (l:List Sm) (j:Jb),(runL AM l j).st≤j.st+Sm.csts l:=by
 refine Sms.ind (fun l ih j=>?_)
 have key:∀ k,k≤l.length→(runL AM (l.take k) j).st≤j.st+Sm.csts (l.take k):=by
  intro k
  induction k with
  | zero=>intro _; rw [List.take_zero,runL,Sm.csts]; omega
  | succ k ihk =>
   intro hk
   have h1:=ihk (by omega)
   obtain ⟨i1,i2⟩:=ih l[k] (List.getElem_mem (by omega))
   rw [runL_step (by omega),runS_eq]
   have e1:Sm.csts (l.take (k+1))=Sm.csts (l.take k)+l[k].cst:=by
    rw [List.take_succ_eq_append_getElem (by omega),csts_app,Sm.csts,Sm.csts,Nat.add_zero]
   rw [e1,cst_eq]
   generalize runL AM (l.take k) j=j1 at h1 ⊢
   split
   ·show j1.st+1≤_; omega
   split
   ·have:(j1.put AM l[k].name (evJ AM j1 (hd0 l[k].index)) (evJ AM j1 (hd0 l[k].value))).st=j1.st:=by unfold Jb.put; split <;> rfl
    show (j1.put AM l[k].name (evJ AM j1 (hd0 l[k].index)) (evJ AM j1 (hd0 l[k].value))).st+1≤_
    omega
   split
   ·split
    ·have:=i1 ((j1.up (3 * l[k].label)).step.up (3 * l[k].label+1))
     have h3:((j1.up (3 * l[k].label)).step.up (3 * l[k].label+1)).st=j1.st+1:=rfl
     omega
    ·have:=i2 ((j1.up (3 * l[k].label)).step.up (3 * l[k].label+2))
     have h3:((j1.up (3 * l[k].label)).step.up (3 * l[k].label+2)).st=j1.st+1:=rfl
     omega
   split
   ·have:=whI_st (AM:=AM) (c:=hd0 l[k].value) (lb:=l[k].label) (B:=Sm.csts l[k].thn) i1 l[k].max.toNat (j1.up (3 * l[k].label))
    have h3:(j1.up (3 * l[k].label)).st=j1.st:=rfl
    show (whI AM (hd0 l[k].value) l[k].label (runL AM l[k].thn) l[k].max.toNat (j1.up (3 * l[k].label))).st≤_
    omega
   split
   ·have:=i1 j1; omega
   ·omega
 have:=key l.length (Nat.le_refl _)
 rw [List.take_of_length_le (Nat.le_refl _)] at this
 exact this
end
theorem ev_lbs {p:Int→ByteArray→Int→Int→Bool} (hp:∀ k nm lb mx,k≠3→k≠4→p k nm lb mx=true):∀ l:List Sm,Sm.wdss l=true→(∀ lb ∈ Sm.lbss isIf l,∀ nm mx,p 3 nm lb mx=true)→(∀ lb ∈ Sm.lbss (fun k=>decide (k=4)) l,∀ nm mx,0≤mx∧mx≤32→p 4 nm lb mx=true)→Sm.evs p l=true:=by
 refine Sms.ind (fun l ih hw h1 h2=>evs_of (fun s hs=>?_))
 obtain ⟨i1,i2⟩:=ih s hs
 have hw1:s.wds=true:=by rw [Sm.wdss_all,List.all_eq_true] at hw; exact hw s hs
 have sub:∀ (w:Int→Bool) (l:List Sm),s ∈ l→∀ x ∈ s.lbs w,x ∈ Sm.lbss w l:=by
  intro w l
  induction l with
  | nil=>intro h; cases h
  | cons u l il =>
   intro h x hx
   rw [Sm.lbss,List.mem_append]
   rcases List.mem_cons.1 h with rfl | h
   ·exact .inl hx
   ·exact .inr (il h x hx)
 have g1:∀ lb ∈ s.lbs isIf,∀ nm mx,p 3 nm lb mx=true:=fun lb hlb=>h1 lb (sub _ l hs lb hlb)
 have g2:∀ lb ∈ s.lbs (fun k=>decide (k=4)),∀ nm mx,0≤mx∧mx≤32→p 4 nm lb mx=true:=fun lb hlb=>h2 lb (sub _ l hs lb hlb)
 cases s with
 | mk k nm i v mx lb t e =>
  rw [Sm.wds] at hw1
  simp only [Bool.and_eq_true,decide_eq_true_eq] at hw1
  obtain ⟨⟨⟨⟨⟨w1,w2⟩,_⟩,_⟩,wt⟩,we⟩:=hw1
  rw [Sm.lbs] at g1 g2
  rw [Sm.ev,Bool.and_eq_true,Bool.and_eq_true]
  refine ⟨⟨?_,i1 wt (fun x hx=>g1 x (List.mem_append_left _ (List.mem_append_right _ hx))) (fun x hx=>g2 x (List.mem_append_left _ (List.mem_append_right _ hx)))⟩,i2 we (fun x hx=>g1 x (List.mem_append_right _ hx)) (fun x hx=>g2 x (List.mem_append_right _ hx))⟩
  by_cases h3:k=3
  ·subst h3
   exact g1 lb (List.mem_append_left _ (List.mem_append_left _ (by rw [if_pos (by decide)]; exact List.mem_singleton.2 O))) _ _
  ·by_cases h4:k=4
   ·subst h4
    exact g2 lb (List.mem_append_left _ (List.mem_append_left _ (by rw [if_pos (by decide)]; exact List.mem_singleton.2 O))) _ _ ⟨w1,w2⟩
   ·exact hp _ _ _ _ h3 h4
abbrev isWh (k:Int):Bool:=decide (k=4)
theorem lbs_perm:∀ l:List Sm,(Sm.lbss isIW l).Perm (Sm.lbss isIf l ++ Sm.lbss isWh l):=by
 have sw:∀ (a b c d:List Int),(a ++ b ++ (c ++ d)).Perm (a ++ c ++ (b ++ d)):=fun a b c d=>by
  rw [List.append_assoc,List.append_assoc]
  refine List.Perm.append_left a ?_
  rw [← List.append_assoc,← List.append_assoc]
  exact List.Perm.append_right d List.perm_append_comm
 refine Sms.ind (fun l ih=>?_)
 induction l with
 | nil=>exact List.Perm.refl _
 | cons s l il =>
  have il:=il (fun u hu=>ih u (List.mem_cons_of_mem _ hu))
  obtain ⟨i1,i2⟩:=ih s (List.mem_cons_self ..)
  rw [Sm.lbss,Sm.lbss,Sm.lbss]
  refine ((?_:(s.lbs isIW).Perm (s.lbs isIf ++ s.lbs isWh)).append il).trans (sw _ _ _ _)
  cases s with
  | mk k nm i v mx lb t e =>
   rw [Sm.lbs,Sm.lbs,Sm.lbs]
   refine (((?_:(if isIW k=true then [lb] else []).Perm ((if isIf k=true then [lb] else []) ++ (if isWh k=true then [lb] else []))).append i1).append i2).trans (((sw _ _ _ _).append_right _).trans (sw _ _ _ _))
   unfold isIW isIf isWh
   by_cases h3:k=3
   ·subst h3; exact List.Perm.refl _
   ·by_cases h4:k=4
    ·subst h4; exact List.Perm.refl _
    ·rw [if_neg (by simp [h3,h4]),if_neg (by simp [h3]),if_neg (by simp [h4])]; exact List.Perm.refl _
theorem run_counts {t:Tk} (hl:labT t=true) (hw:Sm.wdss t.body=true) {AM:AMt} {j:Jb} (hj:j.cn.length=39) (hz:∀ m,1≤m→cnt j m=0) :
 (runL AM t.body j).cn.length=39∧(∀ m,m < 3→cnt (runL AM t.body j) m=cnt j m)∧(∀ k ∈ Sm.lbss isIf t.body,1≤k∧k≤12∧cnt (runL AM t.body j) (3 * k).toNat=cnt (runL AM t.body j) (3 * k+1).toNat+cnt (runL AM t.body j) (3 * k+2).toNat) ∧
  (∀ k ∈ Sm.lbss isWh t.body,1≤k∧k≤12∧cnt (runL AM t.body j) (3 * k).toNat=cnt (runL AM t.body j) (3 * k+2).toNat∧cnt (runL AM t.body j) (3 * k+1).toNat≤32 * cnt (runL AM t.body j) (3 * k).toNat):=by
 unfold labT at hl
 simp only [Bool.and_eq_true,List.all_eq_true,decide_eq_true_eq,Bool.not_eq_true'] at hl
 obtain ⟨⟨hb,hd⟩,_⟩:=hl
 have hP:=lbs_perm t.body
 have hN:(Sm.lbss isIf t.body ++ Sm.lbss isWh t.body).Nodup:=hP.nodup_iff.1 (dupI_nodup.1 hd)
 rw [List.nodup_append] at hN
 have bI:∀ x ∈ Sm.lbss isIf t.body,1≤x∧x≤12:=fun x hx=>hb x (hP.mem_iff.2 (List.mem_append_left _ hx))
 have bW:∀ x ∈ Sm.lbss isWh t.body,1≤x∧x≤12:=fun x hx=>hb x (hP.mem_iff.2 (List.mem_append_right _ hx))
 have r0:=run_0 AM t.body (ev_lbs (fun k nm lb mx h3 h4=>by unfold p0; rw [if_neg (by omega)]) t.body hw (fun lb h nm mx=>by unfold p0; have:=bI lb h; simp [this]) (fun lb h nm mx _=>by unfold p0; have:=bW lb h; simp [this])) j hj
 refine ⟨r0.1,r0.2,fun k hk=>?_,fun k hk=>?_⟩
 ·have hk1:=bI k hk
  obtain ⟨n,rfl⟩:∃ n:Nat,k=(n:Int):=⟨k.toNat,by omega⟩
  have r:=(run_if AM (k:=n) (by omega) t.body (ev_lbs (fun k nm lb mx h3 h4=>by unfold pIf; rw [if_neg h3,if_neg h4]) t.body hw (fun lb h nm mx=>by unfold pIf; have:=bI lb h; simp [this]) (fun lb h nm mx _=>by
   unfold pIf; have:=bW lb h; have hne:¬ lb=(n:Int):=fun e=>hN.2.2 _ hk _ h e.symm; simp [this,hne])) j hj).2
  unfold FIf at r
  rw [hz (3 * n) (by omega),hz (3 * n+1) (by omega),hz (3 * n+2) (by omega)] at r
  rw [show (3 * (n:Int)).toNat=3 * n by omega,show (3 * (n:Int)+1).toNat=3 * n+1 by omega,show (3 * (n:Int)+2).toNat=3 * n+2 by omega]
  exact ⟨hk1.1,hk1.2,by omega⟩
 ·have hk1:=bW k hk
  obtain ⟨n,rfl⟩:∃ n:Nat,k=(n:Int):=⟨k.toNat,by omega⟩
  have r:=(run_wh AM (k:=n) (by omega) t.body (ev_lbs (fun k nm lb mx h3 h4=>by unfold pWh; rw [if_neg h3,if_neg h4]) t.body hw (fun lb h nm mx=>by
   unfold pWh; have:=bI lb h; have hne:¬ lb=(n:Int):=fun e=>hN.2.2 _ h _ hk e; simp [this,hne]) (fun lb h nm mx hm=>by unfold pWh; have:=bW lb h; simp [this,hm])) j hj).2
  unfold FWh at r
  rw [hz (3 * n) (by omega),hz (3 * n+1) (by omega),hz (3 * n+2) (by omega)] at r
  rw [show (3 * (n:Int)).toNat=3 * n by omega,show (3 * (n:Int)+1).toNat=3 * n+1 by omega,show (3 * (n:Int)+2).toNat=3 * n+2 by omega]
  exact ⟨hk1.1,hk1.2,by omega,by omega⟩
end Go.Proofs.YtalkkcfojplmdaaGreatDoor
end
section
namespace Go.Proofs.YtalkkcfojplmdaaGreatDoor
open Go.Vc
set_option maxHeartbeats 1000000
abbrev Na:ByteArray:=⟨#[97]⟩
abbrev Nbuf:ByteArray:=⟨#[98,117,102]⟩
theorem ar_names {l:List Arr} (h:ArG l):l.map (·.1)=[] ∨ l.map (·.1)=[Na]:=by
 rcases h with rfl | ⟨k,_,rfl⟩
 ·exact .inl O
 ·exact .inr O
theorem sh_names {R:List ByteArray} {l:List Shd} (h:ShG R l):l.map (·.1)=[] ∨ l.map (·.1)=[Nbuf]:=by
 rcases h with rfl | ⟨r,k,_,_,rfl⟩
 ·exact .inl O
 ·exact .inr O
theorem in_names {l:List Inp} (h:l.length≤2∧InG l.length l):l.map (·.1)=[] ∨ l.map (·.1)=[⟨#[120]⟩] ∨ l.map (·.1)=XY:=by
 rw [h.2.1]
 have:l.length=0 ∨ l.length=1 ∨ l.length=2:=by omega
 rcases this with e | e | e <;> rw [e]
 ·exact .inl O
 ·exact .inr (.inl O)
 ·exact .inr (.inr O)
theorem made_names {R:List ByteArray} {sh:List Shd} {nm:ByteArray} {W:Int} {t:Tk} (hSh:ShG R sh) (h:TaskG sh nm W t):dupB (scaL t ++ arrL sh t)=false:=by
 unfold scaL arrL
 rw [h.vars]
 rcases in_names h.inputs with e1 | e1 | e1 <;> rcases ar_names h.arrays with e2 | e2 <;> rcases sh_names hSh with e3 | e3 <;> rw [e1,e2,e3] <;> decide +kernel
theorem sh_use {R:List ByteArray} {sh:List Shd} {A:List ByteArray} (hSh:ShG R sh) (hA:A=[] ∨ A=[Na]):∀ hs,∀ s ∈ usableF A sh hs,s ∈ A ++ sh.map (·.1)∧allowB sh hs s=true:=by
 intro hs s hm
 unfold usableF at hm
 rcases List.mem_append.1 hm with hm | hm
 ·refine ⟨List.mem_append_left _ hm,?_⟩
  rcases hA with rfl | rfl
  ·cases hm
  ·have e:s=Na:=List.mem_singleton.1 hm
   subst e
   rcases hSh with rfl | ⟨r,k,_,_,rfl⟩
   ·rfl
   ·unfold allowB
    simp only [List.all_cons,List.all_nil,Bool.and_true,Bool.or_eq_true,Bool.not_eq_true',decide_eq_false_iff_not]
    exact .inl (by decide)
 ·obtain ⟨x,hx,he⟩:=List.mem_filterMap.1 hm
  split at he
  ·rename_i hh
   have e:x.1=s:=Option.some.inj he
   subst e
   refine ⟨List.mem_append_right _ (List.mem_map_of_mem hx),?_⟩
   rcases hSh with rfl | ⟨r,k,_,_,rfl⟩
   ·cases hx
   ·rw [List.mem_singleton.1 hx] at hh
    unfold allowB
    simp only [List.all_cons,List.all_nil,Bool.and_true,Bool.or_eq_true,decide_eq_true_eq]
    exact .inr hh
  ·cases he
theorem pow_size {k:Nat} (h:k≤3):sizeB ((2:Int) ^ k)=true:=by
 have:k=0 ∨ k=1 ∨ k=2 ∨ k=3:=by omega
 rcases this with rfl | rfl | rfl | rfl <;> decide
theorem task_right {R:List ByteArray} {n:Nat} {sh:List Shd} {nm:ByteArray} {W:Int} {t:Tk} (hR:R=RSl n) (hSh:ShG R sh) (hW:W≤2000) (h:TaskG sh nm W t) :
 limT t=true∧namT R sh t=true∧ranT t=true∧labT t=true∧Sm.lcks sh ⟨#[]⟩ t.body=true∧wAll 20 t.body 0≤2000:=by
 have hmd:=h.md (nms_of hR hSh h)
 obtain ⟨lab,l,m,hl,hb⟩:=h.body
 have hRr:∀ x ∈ sh,x.2.2 ∈ R:=by
  rcases hSh with rfl | ⟨r,k,hr,_,rfl⟩
  ·simp
  ·intro x hx
   rw [List.mem_singleton.1 hx]
   exact List.mem_of_getElem? hr
 obtain ⟨_,g⟩:=bl_all (StG.rgt (vs:=scaL t) (ar:=arrL sh t) (rs:=R) (fun s hs=>by unfold scaL; rw [h.vars]; exact hs) (sh_use hSh (ar_names h.arrays)) hRr 3 0 E0) hl (Int.le_refl _)
 obtain ⟨a1,a2,a3⟩:=rgt_all (l:=t.body) (fun s hs=>g s (by rw [hb] at hs; exact List.mem_of_mem_take hs))
 have hlb:=bl_lab (StG.lab 3 0 E0) hl (Int.le_refl _) (by omega)
 have hsub:(Sm.lbss isIW t.body).Sublist (seqI 0 (lab - 0).toNat):=by rw [hb,← hlb.2.2]; exact Sm.lbss_take _ _ _
 have hnd:(Sm.lbss isIW t.body).Nodup:=hsub.nodup (seqI_nodup _ _)
 have hnd2:(Sm.lbss isIf t.body).Nodup:=(Sm.lbss_sub t.body).nodup hnd
 have hlen1:t.arrays.length≤1:=by rcases h.arrays with e | ⟨k,_,e⟩ <;> rw [e] <;> simp
 have hlen2:t.modes.length≤1:=by rcases h.modes with e | ⟨x,lo,hi,_,_,e⟩ <;> rw [e] <;> simp
 have hlen3:t.claims.length≤1:=by rcases h.claims with e | ⟨a,b,_,_,_,e⟩ <;> rw [e] <;> simp
 have hlen4:t.vars.length=3:=by rw [h.vars]; rfl
 have hlen5:=h.inputs.1
 have hcnt:=h.size.2
 have hpe:=h.period
 have hde:=h.deadline
 have hpr:=h.priority
 have hji:=h.jitter
 refine ⟨?_,?_,?_,?_,a3,by have:=h.weight; omega⟩
 ·unfold limT
  simp only [Bool.and_eq_true,decide_eq_true_eq]
  omega
 ·unfold namT
  simp only [Bool.and_eq_true,Bool.not_eq_true']
  refine ⟨⟨⟨?_,?_⟩,made_names hSh h⟩,a1⟩
  ·rcases h.modes with e | ⟨x,lo,hi,hx,_,e⟩
   ·rw [e]; rfl
   ·rw [e]
    simp only [List.all_cons,List.all_nil,Bool.and_true]
    exact hasB_iff.2 (List.mem_map_of_mem (List.mem_of_getElem? hx))
  ·rcases h.modes with e | ⟨x,lo,hi,hx,_,e⟩ <;> rw [e] <;> rfl
 ·unfold ranT
  simp only [Bool.and_eq_true,decide_eq_true_eq]
  refine ⟨⟨⟨⟨⟨⟨⟨⟨⟨⟨⟨by omega,by omega⟩,by omega⟩,by omega⟩,by omega⟩,by omega⟩,by omega⟩,by omega⟩,a2⟩,?_⟩,?_⟩,?_⟩
  ·rcases h.arrays with e | ⟨k,hk,e⟩
   ·rw [e]; rfl
   ·rw [e]
    simp only [List.all_cons,List.all_nil,Bool.and_true]
    exact pow_size hk
  ·rw [List.all_eq_true]
   intro x hx
   exact decide_eq_true (h.inputs.2.2 x hx).2.1
  ·rw [List.all_eq_true]
   intro md hm
   rcases h.modes with e | ⟨x,lo,hi,hx,hb2,e⟩
   ·rw [e] at hm; cases hm
   ·rw [e] at hm
    rw [List.mem_singleton.1 hm]
    unfold ranM
    rw [List.all_eq_true]
    intro y hy
    simp only [Bool.or_eq_true,Bool.and_eq_true,decide_eq_true_eq,Bool.not_eq_true',decide_eq_false_iff_not]
    by_cases hxy:y.1=x.1
    ·right
     have hdup:(t.inputs.map (·.1)).Nodup:=by
      rcases in_names h.inputs with e1 | e1 | e1 <;> rw [e1] <;> exact dupB_nodup.1 (by decide +kernel)
     have:y=x:=by
      obtain ⟨i,hi1,rfl⟩:=List.mem_iff_getElem.1 hy
      obtain ⟨hj1,rfl⟩:=List.getElem?_eq_some_iff.1 hx
      have:=(List.getElem_inj (i:=i) (j:=0) hdup (h₀:=by rw [List.length_map]; exact hi1) (h₁:=by rw [List.length_map]; exact hj1)).1 (by rw [List.getElem_map,List.getElem_map]; exact hxy)
      simp [this]
     rw [this]
     exact ⟨⟨hb2.2.1,hb2.1⟩,hb2.2.2⟩
    ·exact .inl hxy
 ·unfold labT
  simp only [Bool.and_eq_true,Bool.not_eq_true']
  refine ⟨⟨?_,dupI_nodup.2 hnd⟩,?_⟩
  ·rw [List.all_eq_true]
   intro k hk
   have:=seqI_mem (hsub.subset hk)
   have:=hlb.2.1
   simp only [Bool.and_eq_true,decide_eq_true_eq]
   have:=hlb.1
   omega
  ·rcases h.claims with e | ⟨a,b,ha,hb2,hab,e⟩
   ·rw [e]; rfl
   ·rw [e]
    have ei:=ifs_lbs hmd
    simp only [List.all_cons,List.all_nil,Bool.and_true,Bool.and_eq_true,Bool.not_eq_true',decide_eq_false_iff_not]
    refine ⟨⟨fun hh=>hab ?_,?_⟩,?_⟩
    ·rw [← ei] at hnd2
     exact (List.getElem_inj hnd2).1 hh
    ·rw [← ei]; exact hasI_iff.2 (List.getElem_mem ha)
    ·rw [← ei]; exact hasI_iff.2 (List.getElem_mem hb2)
theorem nmT_inj {i j:Nat} (hi:i < 6) (hj:j < 6) (h:nmT i=nmT j):i=j:=by
 have:∀ i:Fin 6,∀ j:Fin 6,nmT i.1=nmT j.1→i=j:=by decide +kernel
 have:=this ⟨i,hi⟩ ⟨j,hj⟩ h
 simpa using this
structure Right (p:Pg):Prop where
 lim:limB p=true
 nam:namB p=true
 ran:ranB p=true
 lab:∀ t ∈ p.tasks,labT t=true
 lck:∀ t ∈ p.tasks,Sm.lcks p.shared ⟨#[]⟩ t.body=true
 wgt:∀ t ∈ p.tasks,wAll 20 t.body 0≤2000
theorem made_right {T:Nat} {W:Int} {p:Pg} (hT:1≤T∧T≤6) (hW:W≤2000) (h:PgG T W p):Right p:=by
 obtain ⟨n,hn,hR⟩:=h.res
 have hlen:=h.len
 have htk:∀ t ∈ p.tasks,limT t=true∧namT p.res p.shared t=true∧ranT t=true∧labT t=true∧Sm.lcks p.shared ⟨#[]⟩ t.body=true∧wAll 20 t.body 0≤2000:=fun t ht=>by
  obtain ⟨i,hi,rfl⟩:=List.mem_iff_getElem.1 ht
  exact task_right hR h.shared hW (h.tasks i hi)
 have hsl:p.shared.length≤1:=by rcases h.shared with e | ⟨r,k,_,_,e⟩ <;> rw [e] <;> simp
 have hrl:p.res.length≤2:=by rw [hR]; rcases n with _ | _ | n <;> simp [RSl]
 refine ⟨?_,?_,?_,fun t ht=>(htk t ht).2.2.2.1,fun t ht=>(htk t ht).2.2.2.2.1,fun t ht=>(htk t ht).2.2.2.2.2⟩
 ·unfold limB
  simp only [Bool.and_eq_true,decide_eq_true_eq,List.all_eq_true]
  exact ⟨⟨⟨⟨by omega,by omega⟩,by omega⟩,by omega⟩,fun t ht=>(htk t ht).1⟩
 ·unfold namB
  simp only [Bool.and_eq_true,Bool.not_eq_true',List.all_eq_true]
  refine ⟨⟨⟨?_,?_⟩,?_⟩,fun t ht=>(htk t ht).2.1⟩
  ·rw [hR]
   rcases n with _ | _ | n
   ·rfl
   ·decide +kernel
   ·show dupB [Nr,Ns]=false
    decide +kernel
  ·rw [dupB_nodup]
   unfold List.Nodup
   rw [List.pairwise_iff_getElem]
   intro i j hi hj hij he
   rw [List.length_map] at hi hj
   rw [List.getElem_map,List.getElem_map,(h.tasks i hi).name,(h.tasks j hj).name] at he
   have:=nmT_inj (by omega) (by omega) he
   omega
  ·intro x hx
   rcases h.shared with e | ⟨r,k,hr,_,e⟩
   ·rw [e] at hx; cases hx
   ·rw [e] at hx
    rw [List.mem_singleton.1 hx]
    exact hasB_iff.2 (List.mem_of_getElem? hr)
 ·unfold ranB
  simp only [Bool.and_eq_true,List.all_eq_true]
  refine ⟨fun x hx=>?_,fun t ht=>(htk t ht).2.2.1⟩
  rcases h.shared with e | ⟨r,k,hr,hk,e⟩
  ·rw [e] at hx; cases hx
  ·rw [e] at hx
   rw [List.mem_singleton.1 hx]
   exact pow_size hk
end Go.Proofs.YtalkkcfojplmdaaGreatDoor
end
section
namespace Go.Proofs.YtalkkcfojplmdaaGreatDoor
open Go.Vc
attribute [local irreducible] progT StG BlG
set_option maxHeartbeats 1000000
theorem md_lns:∀ (n:Nat) (l:List Sm),(∀ s ∈ l,mdS n s)→Sm.lnss l
 | _,[],_=>trivial
 | 0,s :: l,h=>(h s (List.mem_cons_self ..)).elim
 | n+1,s :: l,h=>by
  have h1:=h s (List.mem_cons_self ..)
  have h2:=md_lns (n+1) l (fun u hu=>h u (List.mem_cons_of_mem _ hu))
  rw [Sm.lnss]
  refine ⟨?_,h2⟩
  unfold mdS at h1
  rcases h1 with ⟨v,x,_,_,rfl⟩ | ⟨v,y,x,_,_,_,rfl⟩ | ⟨x,lab,t,e,_,_,ht,he,rfl⟩ | ⟨x,mx,lab,t,_,_,_,ht,rfl⟩ | ⟨v,t,_,ht,rfl⟩
  ·rw [Sm.lns]; exact ⟨by simp,by simp,md_lns n [] (by simp),md_lns n [] (by simp)⟩
  ·rw [Sm.lns]; exact ⟨by simp,by simp,md_lns n [] (by simp),md_lns n [] (by simp)⟩
  ·rw [Sm.lns]; exact ⟨by simp,by simp,md_lns n t ht,md_lns n e he⟩
  ·rw [Sm.lns]; exact ⟨by simp,by simp,md_lns n t ht,md_lns n [] (by simp)⟩
  ·rw [Sm.lns]; exact ⟨by simp,by simp,md_lns n t ht,md_lns n [] (by simp)⟩
theorem made_ok {T:Nat} {W:Int} {p:Pg} (hT:T≤6) (h:PgG T W p):PgOk p:=⟨h.sz (by omega),fun t ht=>md_lns 4 t.body (h.md t ht)⟩
theorem ck_right {p:Pg} (h1:okPg p=true) (h2:p.tasks.any (fun t=>dpF 8 t.body)=false) (h3:(progT p).size≤8192) (hR:Right p):ckF p=0:=by
 have h0:(progF p).2=0:=by
  unfold progF
  rw [if_neg (by rw [h1]; decide),if_neg (by rw [h2]; decide),if_neg (by omega)]
 have hlab:p.tasks.all labF=true:=by
  rw [List.all_eq_true]
  intro t ht
  rw [List.any_eq_false] at h2
  have hd:=h2 t ht
  rw [labF_labT (by revert hd; cases dpF 8 t.body <;> simp)]
  exact hR.lab t ht
 have hlck:p.tasks.all (fun t=>Sm.lcks p.shared ⟨#[]⟩ t.body)=true:=List.all_eq_true.2 hR.lck
 have hwgt:p.tasks.all (fun t=>decide (wAll 20 t.body 0≤2000))=true:=List.all_eq_true.2 (fun t ht=>decide_eq_true (hR.wgt t ht))
 unfold ckF
 rw [if_neg (by rw [h0]; decide),if_neg (by rw [hR.lim]; decide),if_neg (by rw [hR.nam]; decide),if_neg (by rw [hR.ran]; decide),if_neg (by rw [hlab]; decide),if_neg (by rw [hlck]; decide),if_neg (by rw [hwgt]; decide)]
theorem made_ck {T:Nat} {W:Int} {p:Pg} (hT:1≤T∧T≤4) (hW:W≤2000) (h:PgG T W p):ckF p=0:=by
 obtain ⟨h1,h2,h3⟩:=prog_okT hT.2 h
 exact ck_right h1 h2 h3 (made_right (by omega) hW h)
theorem made_arr {Sh:List Shd} {nm:ByteArray} {W:Int} {t:Tk} (h:TaskG Sh nm W t):t.arrays.length≤1:=by
 rcases h.arrays with e | ⟨k,_,e⟩ <;> rw [e] <;> simp
theorem made_shl {R:List ByteArray} {l:List Shd} (h:ShG R l):l.length≤1:=by
 rcases h with e | ⟨r,k,_,_,e⟩ <;> rw [e] <;> simp
theorem made_rn {T:Nat} {W:Int} {p:Pg} (h:PgG T W p):ckF p=0→∀ t ∈ p.tasks,Rn p t:=fun hc t ht=>by
 obtain ⟨i,hi,rfl⟩:=List.mem_iff_getElem.1 ht
 exact rn_of hc ht (made_arr (h.tasks i hi)) (made_shl h.shared)
def InZ (l:List Inp):Prop:=l.length≤2∧∀ x ∈ l,-2≤x.2.1∧x.2.1≤x.2.2∧x.2.2≤14
theorem made_inz {Sh:List Shd} {nm:ByteArray} {W:Int} {t:Tk} (h:TaskG Sh nm W t):InZ t.inputs:=⟨h.inputs.1,fun x hx=>by have:=h.inputs.2.2 x hx; omega⟩
def ShZ (l:List Shd):Prop:=l.length≤1∧∀ x ∈ l,1≤x.2.1∧x.2.1≤16
theorem made_shz {R:List ByteArray} {l:List Shd} (h:ShG R l):ShZ l:=by
 refine ⟨made_shl h,fun x hx=>?_⟩
 rcases h with e | ⟨r,k,_,hk,e⟩
 ·rw [e] at hx; cases hx
 ·rw [e] at hx
  rw [List.mem_singleton.1 hx]
  exact sizeB_le (pow_size hk)
theorem runF_in {p:Pg} {k:Nat} (h0:ckF p=0) (hk:k < p.tasks.length) {ins:List Int} {ss:List (List Int)} (hi:fitB (p.tasks[k]).inputs ins=true) (hs:filB p.shared ss=true):runF p (k:Int) ins ss=(runO p p.tasks[k] ins ss,0):=by
 have e:p.tasks.getD ((k:Int)).toNat tk0=p.tasks[k]:=by
  rw [show ((k:Int)).toNat=k by omega,List.getD_eq_getElem?_getD,List.getElem?_eq_getElem hk]
  rfl
 unfold runF
 rw [if_neg (fun h=>h h0),if_pos ⟨by omega,by omega⟩,e,if_neg (by rw [hi]; decide),if_neg (by rw [hs]; decide)]
theorem made_counts {p:Pg} (h0:ckF p=0) {t:Tk} (ht:t ∈ p.tasks) (ins:List Int) (ss:List (List Int)) :
 let o:=runO p t ins ss
 o.counts.length=39∧o.counts.getD 0 0=1∧o.counts.getD 1 0=0∧o.counts.getD 2 0=0∧o.steps≤wAll 20 t.body 0 ∧
 (∀ k ∈ Sm.lbss isIf t.body,1≤k∧k≤12∧o.counts.getD (3 * k).toNat 0=o.counts.getD (3 * k+1).toNat 0+o.counts.getD (3 * k+2).toNat 0) ∧
 (∀ k ∈ Sm.lbss isWh t.body,1≤k∧k≤12∧o.counts.getD (3 * k).toNat 0=o.counts.getD (3 * k+2).toNat 0∧o.counts.getD (3 * k+1).toNat 0≤32 * o.counts.getD (3 * k).toNat 0) ∧
 (∀ x ∈ o.counts,0≤x∧x≤2001):=by
 have hF:=fine_ck h0
 obtain ⟨hd,hf⟩:=prog_fine hF.pr ht
 have hl:=List.all_eq_true.1 hF.lab t ht
 rw [labF_labT hd] at hl
 have hrn:=hF.ran
 unfold ranB at hrn
 rw [Bool.and_eq_true,List.all_eq_true,List.all_eq_true] at hrn
 have hrt:=hrn.2 t ht
 unfold ranT at hrt
 simp only [Bool.and_eq_true,List.all_eq_true] at hrt
 have hwd:=hrt.1.1.1.2
 have hw:=of_decide_eq_true (List.all_eq_true.1 hF.wt t ht)
 have hc:=csts_le (n:=8) (f:=20) (by omega) hf hwd (by omega)
 have hj:(jb0 p t ins ss).cn.length=39:=by show ((List.replicate 39 (0:Int)).set 0 1).length=39; rw [List.length_set,List.length_replicate]
 have hz:∀ m,1≤m→cnt (jb0 p t ins ss) m=0:=fun m hm=>by
  show ((List.replicate 39 (0:Int)).set 0 1).getD m 0=0
  rw [List.getD_eq_getElem?_getD,List.getElem?_set,if_neg (by omega),List.getElem?_replicate]
  split <;> rfl
 obtain ⟨r1,r2,r3,r4⟩:=run_counts hl hwd (AM:=AMof p t) hj hz
 have r5:=runL_st (AMof p t) t.body (jb0 p t ins ss)
 have e0:(jb0 p t ins ss).st=0:=rfl
 have h1:=r2 0 (by omega)
 have h2:=r2 1 (by omega)
 have h3:=r2 2 (by omega)
 rw [hz 1 (by omega)] at h2
 rw [hz 2 (by omega)] at h3
 have r6:=runL_ok (AMof p t) t.body 1 (jb0 p t ins ss) jb0_ok
 refine ⟨r1,h1,h2,h3,?_,r3,r4,fun x hx=>by have:=r6.cn x hx; omega⟩
 show (runL (AMof p t) t.body (jb0 p t ins ss)).st≤_
 omega
end Go.Proofs.YtalkkcfojplmdaaGreatDoor
end
section
namespace Go.Proofs.YtalkkcfojplmdaaGreatDoor
open Go.Vc
attribute [local irreducible] progT StG BlG
set_option maxHeartbeats 1000000
structure Ez (x:T):Prop where
 fm:Fm x
 use:useB VS [] x=true
 wd:wdT x=true
 txt:(textT x).size≤40
 wp:wPartsL [x] 20 0≤5
 fr:∀ h,freeB [] h x=true
structure Ql (n w z c:Nat) (labs:List Int) (l:List Sm):Prop where
 md:∀ s ∈ l,mdS n s
 txt:∀ sp:ByteArray,sp.size+2 * n≤20→(stsT sp l).size≤z
 szs:Sm.szs l≤c
 nms:Sm.nmss VS [] [] l=true
 wds:Sm.wdss l=true
 lbs:Sm.lbss isIW l=labs
 lck:∀ h,Sm.lcks [] h l=true
 wgt:∀ f (m:Int),n≤f→0≤m→wAll f l m≤m+w
theorem lim_le (n:Int):lim n≤n:=by unfold lim; omega
theorem wAll_app (f:Nat):∀ (l m:List Sm) (n:Int),wAll f (l ++ m) n=wAll f m (wAll f l n)
 | [],m,n=>by rw [List.nil_append,wAll]
 | s :: l,m,n=>by rw [List.cons_append,wAll,wAll,wAll_app f l m]
theorem wAll_nn (f:Nat):∀ (l:List Sm) (n:Int),0≤n→0≤wAll f l n
 | [],n,h=>by rw [wAll]; exact h
 | s :: l,n,h=>by rw [wAll]; exact wAll_nn f l _ (lim_bd _ (by have:=wOne_bd f s; omega)).1
theorem mdS_mono:∀ (n:Nat) (s:Sm),mdS n s→mdS (n+1) s
 | 0,_,h=>h.elim
 | n+1,s,h=>by
  unfold mdS at h ⊢
  rcases h with h | h | ⟨x,lab,t,e,hx,hl,ht,he,rfl⟩ | ⟨x,mx,lab,t,hx,hm,hl,ht,rfl⟩ | ⟨v,t,hv,ht,rfl⟩
  ·exact .inl h
  ·exact .inr (.inl h)
  ·exact .inr (.inr (.inl ⟨x,lab,t,e,hx,hl,fun u hu=>mdS_mono n u (ht u hu),fun u hu=>mdS_mono n u (he u hu),rfl⟩))
  ·exact .inr (.inr (.inr (.inl ⟨x,mx,lab,t,hx,hm,hl,fun u hu=>mdS_mono n u (ht u hu),rfl⟩)))
  ·exact .inr (.inr (.inr (.inr ⟨v,t,hv,fun u hu=>mdS_mono n u (ht u hu),rfl⟩)))
theorem Ql.nil (n:Nat):Ql n 0 0 0 [] []:=⟨by simp,fun _ _=>by rw [stsT]; exact Nat.le_refl _,Nat.le_refl _,rfl,rfl,rfl,fun _=>rfl,fun f m _ _=>by rw [wAll]; omega⟩
theorem Ql.app {n w1 z1 c1 w2 z2 c2:Nat} {la lb:List Int} {l m:List Sm} (h:Ql n w1 z1 c1 la l) (g:Ql n w2 z2 c2 lb m):Ql n (w1+w2) (z1+z2) (c1+c2) (la ++ lb) (l ++ m):=by
 refine ⟨fun s hs=>?_,fun sp hsp=>?_,?_,?_,?_,?_,fun hd=>?_,fun f k hf hk=>?_⟩
 ·rcases List.mem_append.1 hs with hs | hs
  ·exact h.md s hs
  ·exact g.md s hs
 ·rw [stsT_app,ByteArray.size_append]
  have:=h.txt sp hsp
  have:=g.txt sp hsp
  omega
 ·rw [Sm.szs_app]; have:=h.szs; have:=g.szs; omega
 ·have:=h.nms; have:=g.nms
  rw [Sm.nmss_all,List.all_append,← Sm.nmss_all,← Sm.nmss_all,h.nms,g.nms]; rfl
 ·rw [Sm.wdss_all,List.all_append,← Sm.wdss_all,← Sm.wdss_all,h.wds,g.wds]; rfl
 ·rw [Sm.lbss_app,h.lbs,g.lbs]
 ·rw [Sm.lcks_all,List.all_append,← Sm.lcks_all,← Sm.lcks_all,h.lck,g.lck]; rfl
 ·rw [wAll_app]
  have h1:=h.wgt f k hf hk
  have h2:=g.wgt f (wAll f l k) hf (wAll_nn f l k hk)
  omega
theorem Ql.up {n w z c:Nat} {la:List Int} {l:List Sm} (h:Ql n w z c la l):Ql (n+1) w z c la l :=
 ⟨fun s hs=>mdS_mono n s (h.md s hs),fun sp hsp=>h.txt sp (by omega),h.szs,h.nms,h.wds,h.lbs,h.lck,fun f m hf hm=>h.wgt f m (by omega) hm⟩
theorem Ql.mono {n w z c w' z' c':Nat} {la:List Int} {l:List Sm} (h:Ql n w z c la l) (hw:w≤w') (hz:z≤z') (hc:c≤c'):Ql n w' z' c' la l :=
 ⟨h.md,fun sp hsp=>Nat.le_trans (h.txt sp hsp) hz,Nat.le_trans h.szs hc,h.nms,h.wds,h.lbs,h.lck,fun f m hf hm=>by have:=h.wgt f m hf hm; omega⟩
theorem VS_ok {s:ByteArray} (h:s ∈ VS):nmOk s∧s.size=1∧hasB VS s=true:=by
 simp only [List.mem_cons,List.not_mem_nil,or_false] at h
 rcases h with rfl | rfl | rfl <;> exact ⟨nmOk_lit (by decide +kernel),by decide,by decide +kernel⟩
theorem one_le (f:Nat) (s:Sm) (m:Int):wAll f [s] m≤m+wOne f s:=by rw [wAll,wAll]; exact lim_le _
theorem Ql.set {v:ByteArray} {x:T} (n:Nat) (hv:v ∈ VS) (hx:Ez x):Ql (n+1) 6 66 1 [] [.mk 1 v [] [x] 0 0 [] []]:=by
 have hv:=VS_ok hv
 refine ⟨fun s hs=>?_,fun sp hsp=>?_,by simp [Sm.szs,Sm.sz],?_,?_,rfl,fun hd=>?_,fun f m hf hm=>?_⟩
 ·rw [List.mem_singleton.1 hs]; exact .inl ⟨v,x,hv.1,hx.fm,rfl⟩
 ·rw [stsT,stsT,stT_leaf sp (.inl rfl),ByteArray.size_append,ByteArray.size_append]
  have:=hx.txt
  simp only [hdT,Sm.kind,Sm.name,Sm.value,tx1,if_true,ByteArray.size_append,show Kst.size=3 from rfl,show Knl.size=1 from rfl,ba_lit,List.length_nil]
  omega
 ·simp [Sm.nmss,Sm.nms,hv.2.2,hx.use]
 ·simp [Sm.wdss,Sm.wds,hx.wd]
 ·simp [Sm.lcks,Sm.lck,hx.fr]
 ·obtain ⟨g,rfl⟩:∃ g,f=g+1:=⟨f - 1,by omega⟩
  refine Int.le_trans (one_le _ _ _) ?_
  rw [wOne,if_pos (.inl rfl)]
  have h1:=lim_le (1+wPartsL (Sm.mk 1 v [] [x] 0 0 [] []).index 20 0+wPartsL (Sm.mk 1 v [] [x] 0 0 [] []).value 20 0)
  have h2:wPartsL (Sm.mk 1 v [] [x] 0 0 [] []).index 20 0=0:=rfl
  have h3:wPartsL (Sm.mk 1 v [] [x] 0 0 [] []).value 20 0=wPartsL [x] 20 0:=rfl
  have:=hx.wp
  omega
def VEq (V V':List (ByteArray × Int)):Prop:=∀ s,(aget V s).getD 0=(aget V' s).getD 0
theorem VEq.set {V V':List (ByteArray × Int)} (h:VEq V V') (k:ByteArray) (v:Int):VEq (aset V k v) (aset V' k v):=fun s=>by
 rw [aget_aset,aget_aset]
 split
 ·rfl
 ·exact h s
end Go.Proofs.YtalkkcfojplmdaaGreatDoor
end
section
namespace Go.Vc
open Go.RowKit
section
variable {P:Program} [Gl P] {nt:Nat} {c:Cx P nt} {env:Env} {H Hr:List Ch} {L:List (Nat × List Value × TypeId)} {t ty:TypeId} {pos:String} {af:Array Edge} {x:Operand}
theorem hok_loadAllK {d:Option Tmp} {b:Nat} {row:List C} {bt:TypeId} {cs:List Value} [TI P t] (j:Nat) (ha:aggB (TI.u P t)=true) (hx:env.ev x=some (.cell (.val (.pointer (some ⟨b,0,none⟩))))) (hp:pick [j] H=some ([.blk b bt row],Hr))
 (hm:(b,cs,bt) ∈ L) (hz:(TI.i P t).size=row.length):HOk c (Keep L) env H ⟨d,.load t x,ty,pos,af,none⟩ (.row (row.map unk)) :=
 fun a w hst hS=>by
  obtain ⟨v,h1,cs',h2,h3⟩:=hok_loadAll (d:=d) (ty:=ty) (pos:=pos) (af:=af) j ha hx hp hm hz a w hst hS
  exact ⟨v,h1,cs',h2,rdRow_unk h3⟩
end
section
variable {P:Program} [Gl P] {nt:Nat} {c:Cx P nt} {env:Env} {H Hr:List Ch} {K:S→List Ch→Prop}
end
section
variable {P:Program} [Gl P] {nt:Nat} {c:Cx P nt} {env:Env} {H Hr:List Ch} {ops:Array Oper} {Q:Exit→Act→World→Prop} {Sw:World→Prop}
variable {m fuel:Nat} {listed:Array Bool} {i j d:Nat} {op:Op} {ty:TypeId} {pos:String} {af:Array Edge} {want b:Bool}
end
section
variable {P:Program} [Gl P] {nt:Nat} {c:Cx P nt} {env:Env} {H:List Ch} {Sw:World→Prop} {t ty:TypeId} {pos:String} {af:Array Edge} {x y:Operand} {d:Option Tmp}
theorem hok_indexMapE [SL P t] {α:Type} {f:α→List C} {l:List α} {k:Nat} {row:List C} (hx:env.ev x=some (.cell (.list (l.map f)))) (hy:env.ev y=some (In .i64 (k:Int)))
 (hlt:k < l.length) (hrow:f l[k]=row) (hz:(TI.i P (SL.e P t)).size=row.length) (hp:0 < row.length):HOk c Sw env H ⟨d,.indexAddr t x y,ty,pos,af,none⟩ (.cell (.place row)) :=
 hok_indexList hx hy (by omega) (by subst hrow; simp [List.getElem?_eq_getElem hlt]) hz hp
theorem hok_fieldAddrP {row r:List C} {f off size:Nat} [TI P t] [TS P t] (hs:structB (TI.u P t)=true) (hx:env.ev x=some (.cell (.place row))) (hf:(TS.pl P t)[f]?=some (off,size))
 (hz:0 < size) (hr:(row.drop off).take size=r) (hp:0 < r.length):HOk c Sw env H ⟨d,.fieldAddr t x f,ty,pos,af,none⟩ (.cell (.place r)) :=
 fun a w h _=>by
  obtain ⟨b,o,vs,he,hb,_,hc,hrow⟩:=ev_ok h hx
  subst hr
  refine ⟨.pointer (some ⟨b,o+off,none⟩),fun w' _=>?_,place_sub hb hc hrow _ _ hp⟩
  simp only [execOp,he,Sem.run_bind,run_fieldAt t hs hf hz,Result.andThen_ok,Sem.run_pure]
end
end Go.Vc
end
section
namespace Go.Proofs.YtalkkcfojplmdaaGreatDoor
open Go.Vc
attribute [local irreducible] JL JC JQ OpWp Con ConN HOk
set_option maxHeartbeats 4000000
abbrev Ni:ByteArray:=⟨#[105]⟩
end Go.Proofs.YtalkkcfojplmdaaGreatDoor
end
section
namespace Go.Proofs.YtalkkcfojplmdaaGreatDoor
open Go.Vc
attribute [local irreducible] JL JC JQ OpWp Con ConN HOk
set_option maxHeartbeats 4000000
theorem fit_snoc {l:List Inp} {B:List Int} {k:Nat} (hk:k < l.length) (h:fitB (l.take k) B=true) {n:Int} (hn:(l[k]).2.1≤n∧n≤(l[k]).2.2):fitB (l.take (k+1)) (B ++ [n])=true:=by
 unfold fitB at *
 rw [Bool.and_eq_true,decide_eq_true_eq] at *
 obtain ⟨h1,h2⟩:=h
 rw [List.take_succ_eq_append_getElem hk]
 refine ⟨by rw [List.length_append,List.length_append,h1]; rfl,?_⟩
 rw [List.zip_append h1,List.all_append,h2]
 simp [hn]
theorem fil_snoc {l:List Shd} {B:List (List Int)} {k:Nat} (hk:k < l.length) (h:filB (l.take k) B=true) {a:List Int} (ha:(a.length:Int)=(l[k]).2.1) (hw:a.all wordB=true):filB (l.take (k+1)) (B ++ [a])=true:=by
 unfold filB at *
 rw [Bool.and_eq_true,decide_eq_true_eq] at *
 obtain ⟨h1,h2⟩:=h
 rw [List.take_succ_eq_append_getElem hk]
 refine ⟨by rw [List.length_append,List.length_append,h1]; rfl,?_⟩
 rw [List.zip_append h1,List.all_append,h2]
 simp only [List.zip_cons_cons,List.zip_nil_right,List.all_cons,List.all_nil,Bool.and_true,Bool.true_and,Bool.and_eq_true,decide_eq_true_eq]
 exact ⟨ha,hw⟩
theorem fit_len {l:List Inp} {B:List Int} (h:fitB l B=true):l.length=B.length:=by
 unfold fitB at h
 rw [Bool.and_eq_true,decide_eq_true_eq] at h
 exact h.1
theorem fil_len {l:List Shd} {B:List (List Int)} (h:filB l B=true):l.length=B.length:=by
 unfold filB at h
 rw [Bool.and_eq_true,decide_eq_true_eq] at h
 exact h.1
section
variable {L:List Int} {bd:Nat}
theorem gInputsL_c (hL:InR L) (hLn:L.length≤400) (t:Tk) (hz:InZ t.inputs) :
 Con Tryz.prog 17 [Ptr bd,.row t.row] [Dk bd L] (fun K=>∀ l:List Int,fitB t.inputs l=true→K (.cell (.list (l.map Irow))) [Dk bd L]):=by
 have hz1:=hz.1
 refine con_intro Tryz.func17 O O b_ (fun c hc=>Wv (fun bx=>?_))
 refine ZO ?_
 refine jc_ownNil 3 1 g_ ?_
 refine jc_loopS (ι:=Nat × Value × List Int) [] (fun i=>i.1≤(t.inputs).length∧i.2.1.oneCell'=true∧fitB (t.inputs.take i.1) i.2.2=true) (fun i=>(6,In .i64 (i.1:Int)) :: [(5,.cell (.val i.2.1)),(3,.cell (.val (.pointer (some ⟨bx,0,none⟩)))),(0,Ptr bd)]) (fun i=>[.own i.2.1 3 1 (i.2.2.map Irow),.blk bx 39 t.row,Dk bd L]) (fun i=>(t.inputs).length - i.1) (0,.slice none 0 0,[]) ⟨Nat.zero_le _,⟨rfl,rfl⟩⟩ ?_ ?_ ?_
 ·exact WG
 ·exact Ww
 rintro ⟨k,v,B⟩ hz
 dsimp only at hz ⊢
 obtain ⟨hk,⟨hv,hB⟩⟩:=hz
 have eLk:((t.inputs).map InRow).length=(t.inputs).length:=List.length_map _
 by_cases hltk:k < (t.inputs).length
 ·have hltk2:(k:Int) < (((t.inputs).map InRow).length:Int):=by omega
  have hBl:=fit_len hB
  rw [List.length_take] at hBl
  have hbz:=hz.2 t.inputs[k] (List.getElem_mem hltk)
  refine Z6 ?_
  refine Zb (fun hlen=>?_)
  refine R_ (F_ O (L_ 1 O (M_ O ?_)))
  refine Zm (fun bl=>?_)
  refine jc_hpM 14 (n:=15) O 0 k_ O (fun cs1 hcs1 hv1=>?_)
  obtain ⟨u10,u11,u12,rfl⟩:=len3 hcs1
  obtain rfl:=Option.some.inj (hv1 0 _ rfl)
  obtain rfl:=Option.some.inj (hv1 1 _ rfl)
  obtain rfl:=Option.some.inj (hv1 2 _ rfl)
  refine hp_know 0 O mem0 ?_
  dsimp only [List.zipWith,know]
  refine df_ (i:=0) O k_ k_ k_ b_ ZP (dk_ O) ?_
  refine df_ (i:=1) O k_ k_ k_ b_ ZP (dl_ O O O b_) ?_
  refine df_ (i:=2) O k_ k_ k_ b_ ZP (dm_ 0 O O O mem0 O) ?_
  refine df_ (i:=3) O k_ k_ k_ b_ ZP (dk_ O) ?_
  refine df_ (i:=4) O k_ k_ k_ b_ ZP (dl_ O O O b_) ?_
  refine df_ (i:=5) O k_ k_ k_ b_ ZP (dm_ 0 O O O mem0 O) ?_
  refine df_ (i:=6) O k_ k_ k_ b_ ZP (dl_ O O O b_) ?_
  refine df_ (i:=7) O k_ k_ k_ b_ ZP (dm_ 0 O O O mem0 O) ?_
  refine df_ (i:=8) O k_ k_ k_ b_ ZP (dp_ O O g_) ?_
  refine df_ (i:=9) O k_ k_ k_ b_ ZP (do_ O O g_) ?_
  refine dg_ (i:=10) O k_ b_ (bt_ [3] O O (Nx_c _ hL hLn g_) (fun pp hpp=>⟨?_,?_⟩))
  exact keepK 1 O O
  refine df_ (i:=11) O k_ k_ k_ b_ ZP (do_ O O g_) ?_
  refine dg_ (i:=12) O k_ b_ (bq_ O O b_ O O b_ ⟨?_,?_⟩)
  exact keepK 1 O O
  refine dg_ (i:=13) O k_ b_ (ow_append1 2 ((t.inputs[k]).2.1+pp) O O O O O O O (fun _=>O) (by show (_+1) * 8≤_;first | omega | (simp;done)) (by first | omega | (simp;done)) (fun v1 hv1=>⟨?_,?_⟩))
  exact keepK 2 O O
  refine df_ (i:=14) O k_ k_ k_ b_ ZP (hok_assign O) ?_
  refine hp_done k_ (jq_unk _ 2 O O ?_)
  dsimp only [List.map,unk]
  refine Zk ?_
  refine jq_againS (i:=(k,v,B)) (k+1,v1,B ++ [(t.inputs[k]).2.1+pp]) ⟨hltk,hv1,fit_snoc hltk hB g_⟩ (by dsimp only; omega) ?_ ?_
  ·exact bc_ 1 O (bc_ 2 O (bc_ 1 O sub_end))
  ·exact Ww
 ·have hltk2:¬ (k:Int) < (((t.inputs).map InRow).length:Int):=by omega
  rw [List.take_of_length_le (by omega)] at hB
  refine Z6 ?_
  refine Zh (fun hlen=>?_)
  refine al_ (R_ (M_ O ?_))
  refine E_ O (T_ (ar_ (jq_freeze 4 0 O O (by rw [hc]; simp [hb,Ch.bs]) (jq_ret1 O O [1] O (fun K h=>h B hB)))))
theorem gSharedL_c (hL:InR L) (hLn:L.length≤400) (p:Pg) (hz:ShZ p.shared) :
 Con Tryz.prog 18 [Ptr bd,.row p.row] [Dk bd L] (fun K=>∀ l:List (List Int),filB p.shared l=true→K (.cell (.list (l.map LRow))) [Dk bd L]):=by
 have hz1:=hz.1
 refine con_intro Tryz.func18 O O b_ (fun c hc=>Wv (fun bx=>?_))
 refine ZO ?_
 refine jc_ownNil 22 1 g_ ?_
 refine jc_loopS (ι:=Nat × Value × List (List Int)) [] (fun i=>i.1≤(p.shared).length∧i.2.1.oneCell'=true∧filB (p.shared.take i.1) i.2.2=true) (fun i=>(6,In .i64 (i.1:Int)) :: [(5,.cell (.val i.2.1)),(3,.cell (.val (.pointer (some ⟨bx,0,none⟩)))),(0,Ptr bd)]) (fun i=>[.own i.2.1 22 1 (i.2.2.map LRow),.blk bx 31 p.row,Dk bd L]) (fun i=>(p.shared).length - i.1) (0,.slice none 0 0,[]) ⟨Nat.zero_le _,⟨rfl,rfl⟩⟩ ?_ ?_ ?_
 ·exact WG
 ·exact Ww
 rintro ⟨k,v,B⟩ hz
 dsimp only at hz ⊢
 obtain ⟨hk,⟨hv,hB⟩⟩:=hz
 have eLk:((p.shared).map ShRow).length=(p.shared).length:=List.length_map _
 by_cases hltk:k < (p.shared).length
 ·have hltk2:(k:Int) < (((p.shared).map ShRow).length:Int):=by omega
  have hBl:=fil_len hB
  rw [List.length_take] at hBl
  have hbz:=hz.2 p.shared[k] (List.getElem_mem hltk)
  refine Z6 ?_
  refine Zb (fun hlen=>?_)
  refine R_ (E_ O (T_ (am_ ?_)))
  refine R_ (E_ O (T_ (au_ (jc_ownNil 3 1 g_ ?_))))
  obtain ⟨n,hn⟩:∃ n:Nat,(p.shared[k]).2.1=(n:Int):=⟨((p.shared[k]).2.1).toNat,by omega⟩
  have hn16:n≤16:=by omega
  refine jc_loopS (ι:=Nat × Value × List Int) [] (fun i=>i.1≤n∧i.2.2.length=i.1∧i.2.2.all wordB=true) (fun i=>[(8,In .i64 (i.1:Int)),(7,.cell (.val i.2.1)),(6,In .i64 (k:Int)),(5,.cell (.val v)),(3,.cell (.val (.pointer (some ⟨bx,0,none⟩)))),(0,Ptr bd)]) (fun i=>[.own i.2.1 3 1 (i.2.2.map Irow),.own v 22 1 (B.map LRow),.blk bx 31 p.row,Dk bd L]) (fun i=>n - i.1) (0,.slice none 0 0,[]) ⟨Nat.zero_le _,rfl,rfl⟩ ?_ ?_ ?_
  ·refine Y8 ?_
   exact Wy
  ·exact Ww
  rintro ⟨m,va,A⟩ hz2
  dsimp only at hz2 ⊢
  obtain ⟨hm,hAl,hA⟩:=hz2
  by_cases hltm:m < n
  ·have hltm2:(m:Int) < (p.shared[k]).2.1:=by omega
   refine am_ (R_ (M_ O (F_ O (L_ 2 O (M_ O (ZI ?_))))))
   refine cf_ O O O b_ O b_ (o_ O (Yo ?_))
   refine bw_ O O (T_ (aq_ O u_ (as_ (al_ (B_ ?_)))))
   refine an_ (M_ O (M_ O (o_ O (bt_ [3] O O (gWord_c hL hLn) (fun pp hpp=>YK ?_)))))
   refine ow_append1 1 (pp) O O O O O O O (fun _=>O) (by show (_+1) * 8≤_;first | omega | (simp;done)) (by first | omega | (simp;done)) (fun v1 hv1=>E_ O (ak_ (Zk ?_)))
   refine jq_againS (i:=(m,va,A)) (m+1,v1,A ++ [pp]) ⟨hltm,by rw [List.length_append,hAl]; rfl,?_⟩ (by dsimp only; omega) ?_ ?_
   ·rw [List.all_append,hA]
    simp only [List.all_cons,List.all_nil,Bool.and_true,Bool.true_and]
    unfold wordB
    rw [Bool.and_eq_true,decide_eq_true_eq,decide_eq_true_eq]
    omega
   ·exact bc_ 0 O (bc_ 1 O (bc_ 1 O (bc_ 0 O sub_end)))
   ·exact Ww
  ·have hltm2:¬ (m:Int) < (p.shared[k]).2.1:=by omega
   refine am_ (R_ (M_ O (F_ O (L_ 2 O (M_ O (ZI ?_))))))
   refine cf_ O O O b_ O b_ (o_ O (Yo ?_))
   refine bw_ O O (T_ (ap_ O w_ (av_ (ax_ (ax_ ?_)))))
   refine ba_ (al_ (jc_freeze 7 0 O O (by rw [hc]; simp [hb,Ch.bs]) (an_ (M_ O (M_ O (YK ?_))))))
   refine ow_append1 0 (A) O O O O O O O (fun _=>O) (by show (_+1) * 24≤_;first | omega | (simp;done)) (by first | omega | (simp;done)) (fun v1 hv1=>E_ O (ak_ (Wt ?_)))
   refine E_ O ?_
   refine ak_ (jq_againS (i:=(k,v,B)) (k+1,v1,B ++ [A]) ⟨hltk,hv1,fil_snoc hltk hB g_ hA⟩ (by dsimp only; omega) ?_ ?_)
   ·exact WG
   ·exact Ww
 ·have hltk2:¬ (k:Int) < (((p.shared).map ShRow).length:Int):=by omega
  rw [List.take_of_length_le (by omega)] at hB
  refine Z6 ?_
  refine Zh (fun hlen=>?_)
  refine al_ (R_ (M_ O ?_))
  refine E_ O (T_ (ar_ (jq_freeze 4 0 O O (by rw [hc]; simp [hb,Ch.bs]) (jq_ret1 O O [1] O (fun K h=>h B hB)))))
end
end Go.Proofs.YtalkkcfojplmdaaGreatDoor
end
section
namespace Go.Proofs.YtalkkcfojplmdaaGreatDoor
open Go.Vc
attribute [local irreducible] JL JC JQ OpWp Con ConN HOk
set_option maxHeartbeats 4000000
theorem rWord6_c (n:Int):Con Tryz.prog 131 [In .i64 n] [] (fun K=>K (Bl (wordB n)) []):=by
 refine con_intro Tryz.func131 O O b_ (fun c hc=>R_ (YX ?_))
 refine cn_ O O (M_ O (jl_and 2 2 O O O O (nb O) ?_))
 apply Exists.intro
 refine ⟨fun hb1=>?_,?_⟩
 refine Z8 ?_
 exact bw_ O O (ak_ (jq_seg 2 O O O (List.Perm.refl _)))
 refine E_ O (T_ (ar_ (jq_ret1 O O [] O (fun K h=>h))))
theorem rPoints6_c (t:Tk):Con Tryz.prog 81 [.row t.row] [] (fun K=>K (In .i64 39) []):=by
 refine con_intro Tryz.func81 O O b_ (fun c hc=>R_ (o_ O (ci_ O (fun bx=>E_ O (T_ (R_ (E_ O (T_ (ar_ (jq_ret1 O O [] O (fun K h=>h)))))))))))
theorem rInputs6_c (ins:List Inp) (vs:List Int):Con Tryz.prog 79 [.cell (.list (ins.map InRow)),.cell (.list (vs.map Irow))] [] (fun K=>K (Bl (fitB ins vs)) []):=by
 have eI:(ins.map InRow).length=ins.length:=List.length_map _
 have eV:(vs.map Irow).length=vs.length:=List.length_map _
 refine con_intro Tryz.func79 O O b_ (fun c hc=>?_)
 by_cases hl:ins.length=vs.length
 ·have hl2:¬ ((vs.map Irow).length:Int)≠((ins.map InRow).length:Int):=by omega
  have h0:fitB ins vs=(ins.zip vs).all (fun p=>decide (p.1.2.1≤p.2) && decide (p.2≤p.1.2.2)):=by unfold fitB; rw [decide_eq_true hl,Bool.true_and]
  have hz:(ins.zip vs).length=ins.length:=by rw [List.length_zip]; omega
  refine ZV ?_
  refine br_ O (fun hlen=>M_ O (o_ O (br_ O (fun hlen=>o_ O (bx_ O O (T_ (ap_ O w_ (as_ (al_ (am_ (R_ ?_)))))))))))
  refine E_ O (T_ (au_ (jc_loopS (ι:=Nat) [] (fun k=>k≤(ins).length∧((ins.zip vs).take k).all (fun p=>decide (p.1.2.1≤p.2) && decide (p.2≤p.1.2.2))=true) (fun k=>(5,In .i64 (k:Int)) :: [(1,.cell (.list (vs.map Irow))),(0,.cell (.list (ins.map InRow)))]) (fun k=>[]) (fun k=>(ins).length - k) 0 ⟨Nat.zero_le _,rfl⟩ ?_ ?_ ?_)))
  ·exact sub_end
  ·exact Ww
  rintro k ⟨hk,hI⟩
  have eLk:((ins).map InRow).length=(ins).length:=List.length_map _
  by_cases hltk:k < (ins).length
  ·have hltk2:(k:Int) < (((ins).map InRow).length:Int):=by omega
   have hkv:k < vs.length:=by omega
   have hkv2:(k:Int) < ((vs.map Irow).length:Int):=by omega
   have hkz:k < (ins.zip vs).length:=by omega
   have hg:(ins.zip vs)[k]=(ins[k],vs[k]):=List.getElem_zip
   by_cases h1:vs[k] < (ins[k]).2.1
   ·have hres:fitB ins vs=false:=by rw [h0]; exact all_no hkz (by rw [hg]; simp only [Bool.and_eq_false_iff,decide_eq_false_iff_not]; omega)
    refine Yu ?_
    refine Zb (fun hlen=>?_)
    refine ZM ?_
    refine aa_ (fun c=>cb_ O O p_) (yM_ O (Zi ?_))
    refine aa_ (fun c=>bw_ O O p_) (yM_ O (ZL ?_))
    refine ac_ O u_ (ac_ O u_ (ac_ O u_ ?_))
    refine ac_ O u_ (ac_ O u_ (aa_ (fun c=>bp_ O u_ O p_) (ae_ (al_ (aq_ O O (Zr ?_))))))
    refine aw_ (jq_ret1 O O [] O (fun K h=>by rw [hres] at h; exact h))
   by_cases h2:vs[k] > (ins[k]).2.2
   ·have hres:fitB ins vs=false:=by rw [h0]; exact all_no hkz (by rw [hg]; simp only [Bool.and_eq_false_iff,decide_eq_false_iff_not]; omega)
    refine Yu ?_
    refine Zb (fun hlen=>?_)
    refine ZM ?_
    refine aa_ (fun c=>cb_ O O p_) (yM_ O (Zi ?_))
    refine aa_ (fun c=>bw_ O O p_) (yM_ O (ZF ?_))
    refine ab_ O w_ (fun c=>bd_ O p_) (ab_ O w_ (fun c=>bd_ O p_) ?_)
    refine ab_ O w_ (fun c=>cc_ O O g_ O O b_ p_) (ab_ O w_ (fun c=>cf_ O O O b_ O b_ p_) (ab_ O w_ (fun c=>cb_ O O p_) (YY ?_)))
    refine ae_ (al_ (aq_ O u_ (Zr ?_)))
    refine aw_ (jq_ret1 O O [] O (fun K h=>by rw [hres] at h; exact h))
   refine Yu ?_
   refine Zb (fun hlen=>?_)
   refine ZM ?_
   refine aa_ (fun c=>cb_ O O p_) (yM_ O (Zi ?_))
   refine aa_ (fun c=>bw_ O O p_) (yM_ O (ZF ?_))
   refine ab_ O w_ (fun c=>bd_ O p_) (ab_ O w_ (fun c=>bd_ O p_) ?_)
   refine ab_ O w_ (fun c=>cc_ O O g_ O O b_ p_) (ab_ O w_ (fun c=>cf_ O O O b_ O b_ p_) (ab_ O w_ (fun c=>cb_ O O p_) (YY ?_)))
   refine ae_ (al_ (ap_ O w_ (as_ (Zk ?_))))
   refine jq_againS (i:=k) (k+1) ⟨hltk,all_snoc hkz hI (by rw [hg]; simp only [Bool.and_eq_true,decide_eq_true_eq]; omega)⟩ g_ ?_ ?_
   ·exact sub_end
   ·exact Ww
  ·have hltk2:¬ (k:Int) < (((ins).map InRow).length:Int):=by omega
   rw [List.take_of_length_le (by omega)] at hI
   have hres:fitB ins vs=true:=by rw [h0]; exact hI
   refine Yu ?_
   refine Zh (fun hlen=>?_)
   refine al_ (R_ (E_ O (T_ ?_)))
   refine ar_ (jq_ret1 O O [] O (fun K h=>by rw [hres] at h; exact h))
 ·have hl2:((vs.map Irow).length:Int)≠((ins.map InRow).length:Int):=by omega
  have hres:fitB ins vs=false:=by unfold fitB; rw [decide_eq_false hl]; rfl
  refine ZV ?_
  refine br_ O (fun hlen=>M_ O (o_ O (br_ O (fun hlen=>o_ O (bx_ O O (T_ (aq_ O u_ (R_ (E_ O (T_ (ar_ ?_)))))))))))
  refine aw_ (jq_ret1 O O [] O (fun K h=>by rw [hres] at h; exact h))
theorem rShared6_c (p:Pg) (ss:List (List Int)):Con Tryz.prog 80 [.row p.row,.cell (.list (ss.map LRow))] [] (fun K=>K (Bl (filB p.shared ss)) []):=by
 have eI:(p.shared.map ShRow).length=p.shared.length:=List.length_map _
 have eV:(ss.map LRow).length=ss.length:=List.length_map _
 refine con_intro Tryz.func80 O O b_ (fun c hc=>?_)
 by_cases hl:p.shared.length=ss.length
 ·have hl2:¬ ((ss.map LRow).length:Int)≠((p.shared.map ShRow).length:Int):=by omega
  have h0:filB p.shared ss=(p.shared.zip ss).all (fun q=>decide ((q.2.length:Int)=q.1.2.1) && q.2.all wordB):=by unfold filB; rw [decide_eq_true hl,Bool.true_and]
  have hz:(p.shared.zip ss).length=p.shared.length:=by rw [List.length_zip]; omega
  refine ZD (fun bx=>?_)
  refine M_ O (o_ O (br_ O (fun hlen=>F_ O (L_ 0 O (o_ O (br_ O (fun hlen=>o_ O (bx_ O O (T_ (ap_ O w_ (as_ (al_ ?_))))))))))))
  refine am_ (R_ (E_ O (T_ (au_ (jc_loopS (ι:=Nat) [] (fun k=>k≤(ss).length∧((p.shared.zip ss).take k).all (fun q=>decide ((q.2.length:Int)=q.1.2.1) && q.2.all wordB)=true) (fun k=>(5,In .i64 (k:Int)) :: [(1,.cell (.list (ss.map LRow))),(2,.cell (.val (.pointer (some ⟨bx,0,none⟩))))]) (fun k=>[.blk bx 31 p.row]) (fun k=>(ss).length - k) 0 ⟨Nat.zero_le _,rfl⟩ ?_ ?_ ?_)))))
  ·exact Wy
  ·exact Ww
  rintro k ⟨hk,hI⟩
  have eLk:((ss).map LRow).length=(ss).length:=List.length_map _
  by_cases hltk:k < (ss).length
  ·have hltk2:(k:Int) < (((ss).map LRow).length:Int):=by omega
   have hkv:k < p.shared.length:=by omega
   have hkv2:(k:Int) < ((p.shared.map ShRow).length:Int):=by omega
   have hkz:k < (p.shared.zip ss).length:=by omega
   have hg:(p.shared.zip ss)[k]=(p.shared[k],ss[k]):=List.getElem_zip
   have eK:((ss[k]).map Irow).length=(ss[k]).length:=List.length_map _
   by_cases h1:((ss[k]).length:Int)=(p.shared[k]).2.1
   ·have h1':¬ (((ss[k]).map Irow).length:Int)≠(p.shared[k]).2.1:=by omega
    refine Yu ?_
    refine Zb (fun hlen=>?_)
    refine am_ (am_ (ao_ O O k_ k_ (yM_ O (yM_ O ?_))))
    refine YG ?_
    refine aa_ (fun c=>br_ O (fun hlen=>p_)) (yF_ O (yL_ 0 O (yM_ O (aa_ (fun c=>cc_ O O g_ O O b_ p_) (aa_ (fun c=>cf_ O O O b_ O b_ p_) (YM ?_))))))
    refine aa_ (fun c=>bx_ O O p_) (ae_ (al_ (ap_ O w_ (as_ (al_ ?_)))))
    refine R_ (E_ O (T_ (au_ (jc_loopS (ι:=Nat) [] (fun m=>m≤(ss[k]).length∧((ss[k]).take m).all wordB=true) (fun m=>(6,In .i64 (m:Int)) :: [(5,In .i64 (k:Int)),(1,.cell (.list (ss.map LRow))),(2,.cell (.val (.pointer (some ⟨bx,0,none⟩))))]) (fun m=>[.blk bx 31 p.row]) (fun m=>(ss[k]).length - m) 0 ⟨Nat.zero_le _,rfl⟩ ?_ ?_ ?_))))
    ·exact Wy
    ·exact Ww
    rintro m ⟨hm,hW⟩
    have eLm:((ss[k]).map Irow).length=(ss[k]).length:=List.length_map _
    by_cases hltm:m < (ss[k]).length
    ·have hltm2:(m:Int) < (((ss[k]).map Irow).length:Int):=by omega
     have hC:=rWord6_c (ss[k])[m]
     cases hw:wordB (ss[k])[m] with
     | false =>
      rw [hw] at hC
      have hres:filB p.shared ss=false:=by rw [h0]; exact all_no hkz (by rw [hg]; dsimp only; rw [all_no hltm hw,Bool.and_false])
      refine Yu ?_
      refine M_ O (ZI ?_)
      refine cb_ O O (Zb (fun hlen=>?_))
      refine R_ (M_ O ?_)
      refine M_ O (ZI ?_)
      refine cb_ O O (M_ O (ZI ?_))
      refine cb_ O O (o_ O (bm_ O (hC) (o_ O (cd_ O (ZK ?_)))))
      refine az_ (aw_ ?_)
      refine aw_ (az_ (az_ (aw_ (aw_ (az_ (aw_ (jq_ret1 O O [] O (fun K h=>by rw [hres] at h; exact h))))))))
     | true =>
      rw [hw] at hC
      refine Yu ?_
      refine M_ O (ZI ?_)
      refine cb_ O O (Zb (fun hlen=>?_))
      refine R_ (M_ O ?_)
      refine M_ O (ZI ?_)
      refine cb_ O O (M_ O (ZI ?_))
      refine cb_ O O (o_ O (bm_ O (hC) (o_ O (cd_ O (T_ (ap_ O O (as_ (Wt ?_))))))))
      refine E_ O (ak_ (jq_againS (i:=m) (m+1) ⟨hltm,all_snoc hltm hW hw⟩ g_ ?_ ?_))
      ·exact Wy
      ·exact Ww
    ·have hltm2:¬ (m:Int) < (((ss[k]).map Irow).length:Int):=by omega
     rw [List.take_of_length_le (by omega)] at hW
     refine Yu ?_
     refine M_ O (ZI ?_)
     refine cb_ O O (Zh (fun hlen=>?_))
     refine ay_ ?_
     refine al_ (an_ (YN ?_))
     refine jq_againS (i:=k) (k+1) ⟨hltk,all_snoc hkz hI (by rw [hg,decide_eq_true h1,hW]; rfl)⟩ g_ ?_ ?_
     ·exact Wy
     ·exact Ww
   ·have h1':(((ss[k]).map Irow).length:Int)≠(p.shared[k]).2.1:=by omega
    have hres:filB p.shared ss=false:=by rw [h0]; exact all_no hkz (by rw [hg,decide_eq_false h1]; rfl)
    refine Yu ?_
    refine Zb (fun hlen=>?_)
    refine am_ (am_ (ao_ O O k_ k_ (yM_ O (yM_ O ?_))))
    refine YG ?_
    refine aa_ (fun c=>br_ O (fun hlen=>p_)) (yF_ O (yL_ 0 O (yM_ O (aa_ (fun c=>cc_ O O g_ O O b_ p_) (aa_ (fun c=>cf_ O O O b_ O b_ p_) (YM ?_))))))
    refine aa_ (fun c=>bx_ O O p_) (ae_ (al_ (aq_ O u_ (R_ (E_ O ?_)))))
    refine T_ (ar_ (aw_ (az_ (aw_ (aw_ (az_ (aw_ (jq_ret1 O O [] O (fun K h=>by rw [hres] at h; exact h)))))))))
  ·have hltk2:¬ (k:Int) < (((ss).map LRow).length:Int):=by omega
   rw [List.take_of_length_le (by omega)] at hI
   have hres:filB p.shared ss=true:=by rw [h0]; exact hI
   refine Yu ?_
   refine Zh (fun hlen=>?_)
   refine al_ (R_ (E_ O (T_ ?_)))
   refine ar_ (jq_ret1 O O [] O (fun K h=>by rw [hres] at h; exact h))
 ·have hl2:((ss.map LRow).length:Int)≠((p.shared.map ShRow).length:Int):=by omega
  have hres:filB p.shared ss=false:=by unfold filB; rw [decide_eq_false hl]; rfl
  refine ZD (fun bx=>?_)
  refine M_ O (o_ O (br_ O (fun hlen=>F_ O (L_ 0 O (o_ O (br_ O (fun hlen=>o_ O (bx_ O O (T_ (aq_ O u_ (R_ (E_ O ?_))))))))))))
  refine T_ (ar_ (aw_ (jq_ret1 O O [] O (fun K h=>by rw [hres] at h; exact h))))
end Go.Proofs.YtalkkcfojplmdaaGreatDoor
end
section
namespace Go.Vc
variable {P:Program} [Gl P] {nt:Nat} {c:Cx P nt} {env:Env} {H:List Ch} {ops:Array Oper} {Q:Exit→Act→World→Prop} {Sw:World→Prop} {m fuel:Nat} {listed:Array Bool}
theorem hp_pani (hQ:PanI Q) (h:PanI Q→HP c ops Q Sw m fuel listed env H):HP c ops Q Sw m fuel listed env H:=h hQ
end Go.Vc
end
section
namespace Go.Proofs.YtalkkcfojplmdaaGreatDoor
open Go.Vc
attribute [local irreducible] JL JC JQ OpWp Con ConN HOk
attribute [local irreducible] evJ evF Jb.arr
set_option maxHeartbeats 40000000
theorem rRunOk_c (p:Pg) (hp:PgOk p) (h0:ckF p=0) (n:Nat) (hn:n < p.tasks.length) (hRn:Rn p p.tasks[n]) (ins:List Int) (ss:List (List Int)) (hf:fitB (p.tasks[n]).inputs ins=true) (hfl:filB p.shared ss=true) :
 Con Tryz.prog 48 [.row p.row,In .i64 (n:Int),.cell (.list (ins.map Irow)),.cell (.list (ss.map LRow))] [] (fun K=>K (.tup [.row (OutRow (runO p p.tasks[n] ins ss)),In .i64 0]) []):=by
 have hC:=rProgram5_c p hp
 rw [h0] at hC
 have eT:(p.tasks.map Tk.row).length=p.tasks.length:=List.length_map _
 have hn1:¬ (n:Int) < 0:=by omega
 have hn2:¬ (n:Int) ≥ ((p.tasks.map Tk.row).length:Int):=by omega
 have htz:=hp.sz.tasks p.tasks[n] (List.getElem_mem hn)
 have hI:=rInputs6_c (p.tasks[n]).inputs ins
 have hS:=rShared6_c p ss
 rw [hf] at hI
 rw [hfl] at hS
 obtain ⟨OO,hres⟩:∃ OO,runO p p.tasks[n] ins ss=OO:=⟨_,rfl⟩
 rw [hres]
 refine con_intro Tryz.func48 O O b_ (fun c hc=>R_ (o_ O (ci_ O (fun bx=>Yx (fun bl=>?_)))))
 refine ap_ O O (as_ (al_ (am_ (R_ (M_ O (o_ O (bw_ O O (M_ O (Zs ?_)))))))))
 refine bf_ O O O b_ (ah_ O O b_ (bg_ 1 O O O O (ah_ O O b_ (br_ O (fun hlen=>ah_ O O b_ (cn_ O O (o_ O (bv_ O O O (T_ (ap_ O w_ ?_))))))))))
 refine as_ (al_ (R_ (F_ O (L_ 1 O (M_ O (Zm (fun bl=>?_)))))))
 refine am_ (am_ ?_)
 generalize p.tasks[n]=t at *
 refine an_ (F_ O (L_ 0 O (M_ O (o_ O (bm_ O (hI) (o_ O (cd_ O (Wl ?_))))))))
 refine R_ (A_ 2 O (M_ O (o_ O (bm_ O (hS) (o_ O (cd_ O ?_))))))
 refine Wl ?_
 rename_i bo
 generalize bx=bp at *
 refine an_ (o_ O (ow_makeMapE ByteArray Int (Value.int .i64) (fun bv hbv=>o_ O (ow_makeMapE ByteArray Int (Value.int .i64) (fun bv hbv=>A_ 2 O (o_ O (bm_ O (rPoints6_c _) (o_ O (ow_makeSliceI 39 O O O O O O g_ (fun vc hvc fvc=>o_ O (bu_ O O O O O (o_ O (ci_ O (fun bx=>E_ O (T_ (am_ (R_ (E_ O (T_ ?_)))))))))))))))))))
 rename_i bV hbV
 generalize bl=bt at *
 generalize bx=bj at *
 have zi:=htz.inputs
 have zv:=htz.vars
 have hA1:=hRn.a1
 have hS1:=hRn.s1
 have hfl2:t.inputs.length=ins.length:=by
  unfold fitB at hf
  simp only [Bool.and_eq_true,decide_eq_true_eq] at hf
  exact hf.1
 have hsl0:∀ h:0 < ss.length,(ss[0]).length≤1000000:=fil_hd hfl hRn.ssz
 have hsl:p.shared.length=ss.length:=by
  unfold filB at hfl
  rw [Bool.and_eq_true,decide_eq_true_eq] at hfl
  exact hfl.1
 refine au_ ?_
 refine jc_loopS (ι:=Nat) [] (fun k=>k≤(ins).length) (fun k=>(13,In .i64 (k:Int)) :: [(11,.cell (.val (.pointer (some ⟨bt,0,none⟩)))),(4,.cell (.val (.pointer (some ⟨bp,0,none⟩)))),(12,.cell (.val (.pointer (some ⟨bj,0,none⟩)))),(2,.cell (.list (ins.map Irow))),(3,.cell (.list (ss.map LRow))),(8,.cell (.val (.pointer (some ⟨bo,0,none⟩))))]) (fun k=>[.mapc bV (mapE (Value.int .i64) (fillF [] (((t.inputs.map (·.1)).zip ins).take k))),.mapc bv (mapE (fun v:Value=>v) ([]:List (ByteArray × Value))),.blk bj 126 [.val (.map (some bV)),.val (.map (some bv)),.val vc,.val (.int .i64 0)],.own vc 3 1 ((List.replicate 39 (0:Int)).map Irow),.blk bt 39 t.row,.blk bp 31 p.row,.blk bo 46 [.val (.slice none 0 0),.val (.slice none 0 0),.val (.slice none 0 0),.val (.slice none 0 0),.val (.int .i64 0)]]) (fun k=>(ins).length - k) 0 (Nat.zero_le _) ?_ ?_ ?_
 ·refine bc_ 3 O (bc_ 2 O (Y8 ?_))
  exact bc_ 1 O (bc_ 0 O sub_end)
 ·exact Ww
 rintro k hk
 have eLk:((ins).map Irow).length=(ins).length:=List.length_map _
 by_cases hltk:k < (ins).length
 ·have hltk2:(k:Int) < (((ins).map Irow).length:Int):=by omega
  have hkv:k < t.inputs.length:=by omega
  have hkv2:(k:Int) < ((t.inputs.map InRow).length:Int):=by rw [List.length_map]; omega
  have hkz:k < ((t.inputs.map (·.1)).zip ins).length:=by rw [List.length_zip,List.length_map]; omega
  have hgz:((t.inputs.map (·.1)).zip ins)[k]=((t.inputs[k]).1,ins[k]):=by rw [List.getElem_zip,List.getElem_map]
  refine Yu ?_
  refine Zb (fun hlen=>?_)
  refine jc_anyB 14 none O k_ k_ (yM_ O (yN_ O (yF_ O (yL_ 2 O ?_))))
  refine yF_ O (yL_ 4 O (Zi ?_))
  refine yM_ O (yM_ O (YG ?_))
  refine ae_ (afin_none (ag_ (ow_mapPut (κ:=ByteArray) (vv:=Value.int .i64) (M:=fillF [] (((t.inputs.map (·.1)).zip ins).take k)) 0 O O O O O (ak_ (ay_ (al_ ?_))))))
  refine an_ (YN ?_)
  refine jq_againS (i:=k) (k+1) hltk g_ ?_ ?_
  ·rw [List.take_succ_eq_append_getElem hkz,hgz,fill_snoc]
   refine Zp ?_
   exact WG
  ·exact Ww
 ·have hltk2:¬ (k:Int) < (((ins).map Irow).length:Int):=by omega
  have hzl:((t.inputs.map (·.1)).zip ins).length≤k:=by rw [List.length_zip,List.length_map]; omega
  rw [List.take_of_length_le hzl]
  clear hzl
  refine Yu ?_
  refine Zh (fun hlen=>?_)
  refine al_ (am_ (R_ (E_ O ?_)))
  refine T_ (au_ (jc_ownNil 3 1 g_ (jc_ownNil 3 1 g_ ?_)))
  skip
  refine jc_loopS (ι:=Nat × Value) [] (fun i=>i.1≤(t.arrays).length∧i.2.oneCell'=true) (fun i=>(14,In .i64 (i.1:Int)) :: [(11,.cell (.val (.pointer (some ⟨bt,0,none⟩)))),(4,.cell (.val (.pointer (some ⟨bp,0,none⟩)))),(12,.cell (.val (.pointer (some ⟨bj,0,none⟩)))),(2,.cell (.list (ins.map Irow))),(3,.cell (.list (ss.map LRow))),(8,.cell (.val (.pointer (some ⟨bo,0,none⟩))))]) (fun i=>(.own i.2 3 1 ((kIf i.1 (List.replicate (t.arrays.headD (⟨#[]⟩,0)).2.toNat (0:Int))).map Irow)) :: [.own (.slice none 0 0) 3 1 (([]:List Int).map Irow),.mapc bV (mapE (Value.int .i64) (fillF [] ((t.inputs.map (·.1)).zip ins))),.mapc bv (mapE (fun v:Value=>v) (fillF [] ((t.arrays.take i.1).map (fun x=>(x.1,i.2))))),.blk bj 126 [.val (.map (some bV)),.val (.map (some bv)),.val vc,.val (.int .i64 0)],.own vc 3 1 ((List.replicate 39 (0:Int)).map Irow),.blk bt 39 t.row,.blk bp 31 p.row,.blk bo 46 [.val (.slice none 0 0),.val (.slice none 0 0),.val (.slice none 0 0),.val (.slice none 0 0),.val (.int .i64 0)]]) (fun i=>(t.arrays).length - i.1) (0,.slice none 0 0) ⟨Nat.zero_le _,rfl⟩ ?_ ?_ ?_
  ·refine Zp ?_
   refine Zp ?_
   exact Wy
  ·exact Ww
  rintro ⟨k,v⟩ hz
  dsimp only at hz ⊢
  obtain ⟨hk,hva⟩:=hz
  have eLk:((t.arrays).map ArRow).length=(t.arrays).length:=List.length_map _
  by_cases hltk:k < (t.arrays).length
  ·have hltk2:(k:Int) < (((t.arrays).map ArRow).length:Int):=by omega
   obtain rfl:k=0:=by omega
   have hsz:(t.arrays[0]).2=(((t.arrays.headD (⟨#[]⟩,0)).2.toNat:Nat):Int)∧(t.arrays.headD (⟨#[]⟩,0)).2.toNat≤16:=by
    have h1:=hRn.asz t.arrays[0] (List.getElem_mem hltk)
    rw [hd_get hltk]
    omega
   obtain ⟨hsz,hszl⟩:=hsz
   have hone:∀ v:Value,fillF [] ((t.arrays.take 1).map (fun x=>(x.1,v)))=aset [] (t.arrays[0]).1 v:=by intro v; rw [one_take hltk]; rfl
   refine am_ (R_ (M_ O (F_ O (L_ 6 O (Zb (fun hlen=>?_))))))
   refine jc_hpM2 17 (n:=18) O 4 6 k_ O O (fun cs1 cs2 hcs1 hv1 hcs2 hv2=>?_)
   obtain ⟨u10,u11,u12,u13,rfl⟩:=len4 hcs1
   obtain ⟨u20,u21,u22,u23,u24,u25,u26,u27,u28,u29,u210,rfl⟩:=len11 hcs2
   obtain rfl:=Option.some.inj (hv1 0 _ rfl)
   obtain rfl:=Option.some.inj (hv1 1 _ rfl)
   obtain rfl:=Option.some.inj (hv1 2 _ rfl)
   obtain rfl:=Option.some.inj (hv1 3 _ rfl)
   obtain rfl:=Option.some.inj (hv2 0 _ rfl)
   obtain rfl:=Option.some.inj (hv2 1 _ rfl)
   obtain rfl:=Option.some.inj (hv2 2 _ rfl)
   obtain rfl:=Option.some.inj (hv2 3 _ rfl)
   obtain rfl:=Option.some.inj (hv2 4 _ rfl)
   refine hp_know 4 O mem0 ?_
   dsimp only [List.zipWith,know]
   refine hp_know 6 O mem1 ?_
   dsimp only [List.zipWith,know]
   refine hp_pani ZP (fun hPan=>?_)
   refine df_ (i:=0) O k_ k_ k_ b_ hPan (dk_ O) (df_ (i:=1) O k_ k_ k_ b_ hPan (dr_ O) (df_ (i:=2) O k_ k_ k_ b_ hPan (dl_ O O O b_) (df_ (i:=3) O k_ k_ k_ b_ hPan (dm_ 1 O O O mem0 O) (df_ (i:=4) O k_ k_ k_ b_ hPan (dl_ O O O b_) (df_ (i:=5) O k_ k_ k_ b_ hPan (hok_loadK 0 O O O mem1 O) (df_ (i:=6) O k_ k_ k_ b_ hPan (dk_ O) ?_))))))
   refine df_ (i:=7) O k_ k_ k_ b_ hPan (hok_indexMapE O O g_ O O b_) (df_ (i:=8) O k_ k_ k_ b_ hPan (hok_fieldAddrP O O O b_ O b_) (df_ (i:=10) O k_ k_ k_ b_ hPan (dl_ O O O b_) (df_ (i:=11) O k_ k_ k_ b_ hPan (hok_loadK 0 O O O mem1 O) (df_ (i:=12) O k_ k_ k_ b_ hPan (dk_ O) (df_ (i:=13) O k_ k_ k_ b_ hPan (hok_indexMapE O O g_ O O b_) ?_)))))
   refine df_ (i:=14) O k_ k_ k_ b_ hPan (hok_fieldAddrP O O O b_ O b_) (hp_br2 (i:=9) (j:=15) O O k_ O ?_ ?_)
   refine hs_v (cb_ O O ⟨?_,?_⟩)
   exact keepK2 1 0 O O O O
   refine dg_ (i:=15) O k_ b_ (cb_ O O ⟨?_,?_⟩)
   exact keepK2 1 0 O O O O
   refine dg_ (i:=16) O k_ b_ (ow_makeSliceI (t.arrays.headD (⟨#[]⟩,0)).2.toNat rfl O O O O hsz g_ (fun va1 hva1 fva1=>⟨?_,?_⟩))
   exact keepK2 2 1 O O O O
   refine Yn ?_
   clear hPan
   refine jq_unk [_,_,_,_,_,u25,u26,u27,u28,u29,u210] 2 O O ?_
   dsimp only [List.map,unk]
   rotate_left
   refine hs_v (cb_ O O ⟨?_,?_⟩)
   exact keepK2 1 0 O O O O
   refine hp_br2 (i:=9) (j:=16) O O k_ O ?_ ?_
   refine hs_v (cb_ O O ⟨?_,?_⟩)
   exact keepK2 1 0 O O O O
   refine dg_ (i:=16) O k_ b_ (ow_makeSliceI (t.arrays.headD (⟨#[]⟩,0)).2.toNat rfl O O O O hsz g_ (fun va1 hva1 fva1=>⟨?_,?_⟩))
   exact keepK2 2 1 O O O O
   refine Yn ?_
   clear hPan
   refine jq_unk [_,_,_,_,_,u25,u26,u27,u28,u29,u210] 2 O O ?_
   dsimp only [List.map,unk]
   rotate_left
   refine hs_v (ow_makeSliceI (t.arrays.headD (⟨#[]⟩,0)).2.toNat rfl O O O O hsz g_ (fun va1 hva1 fva1=>⟨?_,?_⟩))
   exact keepK2 2 1 O O O O
   refine dg_ (i:=9) O k_ b_ (cb_ O O ⟨?_,?_⟩)
   exact keepK2 2 1 O O O O
   refine Yn ?_
   clear hPan
   refine jq_unk [_,_,_,_,_,u25,u26,u27,u28,u29,u210] 2 O O ?_
   dsimp only [List.map,unk]
   rotate_left
   ·refine Zk ?_
    refine jq_againS (i:=(0,v)) (1,va1) ⟨by omega,hva1⟩ (by dsimp only; omega) ?_ ?_
    ·dsimp only
     rw [hone]
     exact WV
    ·exact Ww
   ·refine Zk ?_
    refine jq_againS (i:=(0,v)) (1,va1) ⟨by omega,hva1⟩ (by dsimp only; omega) ?_ ?_
    ·dsimp only
     rw [hone]
     exact WV
    ·exact Ww
   ·refine Zk ?_
    refine jq_againS (i:=(0,v)) (1,va1) ⟨by omega,hva1⟩ (by dsimp only; omega) ?_ ?_
    ·dsimp only
     rw [hone]
     exact WV
    ·exact Ww
  ·have hltk2:¬ (k:Int) < (((t.arrays).map ArRow).length:Int):=by omega
   rw [show t.arrays.take k=t.arrays from List.take_of_length_le (by omega)]
   obtain rfl:k=t.arrays.length:=by omega
   generalize v=va at *
   clear hltk hltk2 hk
   refine am_ (R_ (M_ O (F_ O (L_ 6 O (o_ O (br_ O (fun hlen=>o_ O (bw_ O O (T_ (ap_ O v_ (av_ (ax_ (ax_ (ba_ (al_ (am_ (R_ ?_)))))))))))))))))
   refine E_ O (T_ (au_ ?_))
   refine jc_loopS (ι:=Nat × Value) [] (fun i=>i.1≤(ss).length∧i.2.oneCell'=true) (fun i=>(15,In .i64 (i.1:Int)) :: [(11,.cell (.val (.pointer (some ⟨bt,0,none⟩)))),(4,.cell (.val (.pointer (some ⟨bp,0,none⟩)))),(12,.cell (.val (.pointer (some ⟨bj,0,none⟩)))),(2,.cell (.list (ins.map Irow))),(3,.cell (.list (ss.map LRow))),(8,.cell (.val (.pointer (some ⟨bo,0,none⟩))))]) (fun i=>(.own i.2 3 1 ((kIf i.1 (ss.headD [])).map Irow)) :: [.own va 3 1 ((ca0 t.arrays).map Irow),.mapc bV (mapE (Value.int .i64) (fillF [] ((t.inputs.map (·.1)).zip ins))),.mapc bv (mapE (fun v:Value=>v) (fillF (fillF [] (t.arrays.map (fun x=>(x.1,va)))) ((p.shared.take i.1).map (fun x=>(x.1,i.2))))),.blk bj 126 [.val (.map (some bV)),.val (.map (some bv)),.val vc,.val (.int .i64 0)],.own vc 3 1 ((List.replicate 39 (0:Int)).map Irow),.blk bt 39 t.row,.blk bp 31 p.row,.blk bo 46 [.val (.slice none 0 0),.val (.slice none 0 0),.val (.slice none 0 0),.val (.slice none 0 0),.val (.int .i64 0)]]) (fun i=>(ss).length - i.1) (0,.slice none 0 0) ⟨Nat.zero_le _,rfl⟩ ?_ ?_ ?_
   ·refine bc_ 1 O (Zp ?_)
    refine Y8 ?_
    exact Wy
   ·exact Ww
   rintro ⟨k,v⟩ hz
   dsimp only at hz ⊢
   obtain ⟨hk,hvb⟩:=hz
   have eLk:((ss).map LRow).length=(ss).length:=List.length_map _
   by_cases hltk:k < (ss).length
   ·have hltk2:(k:Int) < (((ss).map LRow).length:Int):=by omega
    obtain rfl:k=0:=by omega
    have hs0:0 < p.shared.length:=by omega
    have hhd:ss.headD []=ss[0]:=hd_get hltk
    have hone:∀ (M:List (ByteArray × Value)) (v:Value),fillF M ((p.shared.take 1).map (fun x=>(x.1,v)))=aset M (p.shared[0]).1 v:=by intro M v; rw [one_take hs0]; rfl
    have hz0:=hsl0 hltk
    refine Yu ?_
    refine Zb (fun hlen=>?_)
    refine jc_hpM2 17 (n:=18) O 4 7 k_ O O (fun cs1 cs2 hcs1 hv1 hcs2 hv2=>?_)
    obtain ⟨u10,u11,u12,u13,rfl⟩:=len4 hcs1
    obtain ⟨u20,u21,u22,rfl⟩:=len3 hcs2
    obtain rfl:=Option.some.inj (hv1 0 _ rfl)
    obtain rfl:=Option.some.inj (hv1 1 _ rfl)
    obtain rfl:=Option.some.inj (hv1 2 _ rfl)
    obtain rfl:=Option.some.inj (hv1 3 _ rfl)
    refine hp_know 4 O mem0 ?_
    dsimp only [List.zipWith,know]
    refine hp_know 7 O mem1 ?_
    dsimp only [List.zipWith,know]
    refine hp_pani ZP (fun hPan=>?_)
    refine df_ (i:=0) O k_ k_ k_ b_ hPan (dk_ O) (df_ (i:=1) O k_ k_ k_ b_ hPan (dr_ O) (df_ (i:=2) O k_ k_ k_ b_ hPan (dl_ O O O b_) (df_ (i:=3) O k_ k_ k_ b_ hPan (dm_ 1 O O O mem0 O) (df_ (i:=4) O k_ k_ k_ b_ hPan (dl_ O O O b_) (df_ (i:=5) O k_ k_ k_ b_ hPan (hok_loadK 0 O O O mem1 O) (df_ (i:=6) O k_ k_ k_ b_ hPan (dk_ O) ?_))))))
    refine df_ (i:=7) O k_ k_ k_ b_ hPan (hok_indexMapE O O g_ O O b_) (df_ (i:=8) O k_ k_ k_ b_ hPan (hok_fieldAddrP O O O b_ O b_) (df_ (i:=9) O k_ k_ k_ b_ hPan (hok_fieldAddrP O O O b_ O b_) (df_ (i:=12) O k_ k_ k_ b_ hPan (dk_ O) (df_ (i:=13) O k_ k_ k_ b_ hPan (dk_ O) (df_ (i:=14) O k_ k_ k_ b_ hPan (hok_indexMapE O O g_ O O b_) ?_)))))
    refine hp_br3 (i:=10) (j:=11) (k:=15) O O O k_ O ?_ ?_ ?_
    refine hs_v (cb_ O O ⟨?_,?_⟩)
    exact keepK2 1 0 O O O O
    refine hp_br2 (i:=11) (j:=15) O O k_ O ?_ ?_
    refine hs_v (ow_buildSliceOwn (rows:=([]:List Int).map Irow) O O (nb O) O O (nb O) (fun v0 _ fv0=>⟨?_,?_⟩))
    exact keepK2 2 1 O O O O
    refine dg_ (i:=15) O k_ b_ (cb_ O O ⟨?_,?_⟩)
    exact keepK2 2 1 O O O O
    refine ZH (fun pp hpp=>?_)
    refine ⟨?_,?_⟩
    exact keepK2 2 1 O O O O
    refine Zv ?_
    clear hPan
    refine jq_unk [u20,u21,u22] 2 O O ?_
    dsimp only [List.map,unk]
    rotate_left
    refine hs_v (cb_ O O ⟨?_,?_⟩)
    exact keepK2 1 0 O O O O
    refine dg_ (i:=11) O k_ b_ (ow_buildSliceOwn (rows:=([]:List Int).map Irow) O O b_ O O b_ (fun v0 _ fv0=>⟨?_,?_⟩))
    exact keepK2 2 1 O O O O
    refine ZH (fun pp hpp=>?_)
    refine ⟨?_,?_⟩
    exact keepK2 2 1 O O O O
    refine Zv ?_
    clear hPan
    refine jq_unk [u20,u21,u22] 2 O O ?_
    dsimp only [List.map,unk]
    rotate_left
    refine hs_v (ow_buildSliceOwn (rows:=([]:List Int).map Irow) O O (nb O) O O (nb O) (fun v0 _ fv0=>⟨?_,?_⟩))
    exact keepK2 2 1 O O O O
    refine hp_br2 (i:=10) (j:=15) O O k_ O ?_ ?_
    refine hs_v (cb_ O O ⟨?_,?_⟩)
    exact keepK2 2 1 O O O O
    refine dg_ (i:=15) O k_ b_ (cb_ O O ⟨?_,?_⟩)
    exact keepK2 2 1 O O O O
    refine ZH (fun pp hpp=>?_)
    refine ⟨?_,?_⟩
    exact keepK2 2 1 O O O O
    refine Zv ?_
    clear hPan
    refine jq_unk [u20,u21,u22] 2 O O ?_
    dsimp only [List.map,unk]
    rotate_left
    refine hs_v (cb_ O O ⟨?_,?_⟩)
    exact keepK2 2 1 O O O O
    refine hp_br2 (i:=10) (j:=16) O O k_ O ?_ ?_
    refine hs_v (cb_ O O ⟨?_,?_⟩)
    exact keepK2 2 1 O O O O
    refine ZH (fun pp hpp=>?_)
    refine ⟨?_,?_⟩
    exact keepK2 2 1 O O O O
    refine Zv ?_
    clear hPan
    refine jq_unk [u20,u21,u22] 2 O O ?_
    dsimp only [List.map,unk]
    rotate_left
    refine hs_v (ow_appendM 0 (f:=Irow) (l1:=[]) (l2:=ss[0]) O O O O O O O (fun _=>O) (by show (0+_) * 8≤_;omega) (by show 0+_≤_;omega) (fun pp hpp=>⟨?_,?_⟩))
    exact keepK2 2 1 O O O O
    refine dg_ (i:=10) O k_ b_ (cb_ O O ⟨?_,?_⟩)
    exact keepK2 2 1 O O O O
    refine Zv ?_
    clear hPan
    refine jq_unk [u20,u21,u22] 2 O O ?_
    dsimp only [List.map,unk]
    rotate_left
    refine hs_v (cb_ O O ⟨?_,?_⟩)
    exact keepK2 1 0 O O O O
    refine hp_br2 (i:=10) (j:=11) O O k_ O ?_ ?_
    refine hs_v (cb_ O O ⟨?_,?_⟩)
    exact keepK2 1 0 O O O O
    refine dg_ (i:=11) O k_ b_ (ow_buildSliceOwn (rows:=([]:List Int).map Irow) O O b_ O O b_ (fun v0 _ fv0=>⟨?_,?_⟩))
    exact keepK2 2 1 O O O O
    refine ZH (fun pp hpp=>?_)
    refine ⟨?_,?_⟩
    exact keepK2 2 1 O O O O
    refine Zv ?_
    clear hPan
    refine jq_unk [u20,u21,u22] 2 O O ?_
    dsimp only [List.map,unk]
    rotate_left
    refine hs_v (ow_buildSliceOwn (rows:=([]:List Int).map Irow) O O (nb O) O O (nb O) (fun v0 _ fv0=>⟨?_,?_⟩))
    exact keepK2 2 1 O O O O
    refine hp_br2 (i:=10) (j:=16) O O k_ O ?_ ?_
    refine hs_v (cb_ O O ⟨?_,?_⟩)
    exact keepK2 2 1 O O O O
    refine ZH (fun pp hpp=>?_)
    refine ⟨?_,?_⟩
    exact keepK2 2 1 O O O O
    refine Zv ?_
    clear hPan
    refine jq_unk [u20,u21,u22] 2 O O ?_
    dsimp only [List.map,unk]
    rotate_left
    refine hs_v (ow_appendM 0 (f:=Irow) (l1:=[]) (l2:=ss[0]) O O O O O O O (fun _=>O) (by show (0+_) * 8≤_;omega) (by show 0+_≤_;omega) (fun pp hpp=>⟨?_,?_⟩))
    exact keepK2 2 1 O O O O
    refine dg_ (i:=10) O k_ b_ (cb_ O O ⟨?_,?_⟩)
    exact keepK2 2 1 O O O O
    refine Zv ?_
    clear hPan
    refine jq_unk [u20,u21,u22] 2 O O ?_
    dsimp only [List.map,unk]
    rotate_left
    ·refine Zk ?_
     refine jq_againS (i:=(0,v)) (1,pp) ⟨by omega,hpp⟩ (by dsimp only; omega) ?_ ?_
     ·dsimp only
      rw [hone,kIf,hhd]
      refine ZZ ?_
      exact WE
     ·exact Ww
    ·refine Zk ?_
     refine jq_againS (i:=(0,v)) (1,pp) ⟨by omega,hpp⟩ (by dsimp only; omega) ?_ ?_
     ·dsimp only
      rw [hone,kIf,hhd]
      refine ZZ ?_
      exact WE
     ·exact Ww
    ·refine Zk ?_
     refine jq_againS (i:=(0,v)) (1,pp) ⟨by omega,hpp⟩ (by dsimp only; omega) ?_ ?_
     ·dsimp only
      rw [hone,kIf,hhd]
      refine ZZ ?_
      exact WE
     ·exact Ww
    ·refine Zk ?_
     refine jq_againS (i:=(0,v)) (1,pp) ⟨by omega,hpp⟩ (by dsimp only; omega) ?_ ?_
     ·dsimp only
      rw [hone,kIf,hhd]
      refine ZZ ?_
      exact WE
     ·exact Ww
    ·refine Zk ?_
     refine jq_againS (i:=(0,v)) (1,pp) ⟨by omega,hpp⟩ (by dsimp only; omega) ?_ ?_
     ·dsimp only
      rw [hone,kIf,hhd]
      refine ZZ ?_
      exact WE
     ·exact Ww
    ·refine Zk ?_
     refine jq_againS (i:=(0,v)) (1,pp) ⟨by omega,hpp⟩ (by dsimp only; omega) ?_ ?_
     ·dsimp only
      rw [hone,kIf,hhd]
      refine ZZ ?_
      exact WE
     ·exact Ww
    ·refine Zk ?_
     refine jq_againS (i:=(0,v)) (1,pp) ⟨by omega,hpp⟩ (by dsimp only; omega) ?_ ?_
     ·dsimp only
      rw [hone,kIf,hhd]
      refine ZZ ?_
      exact WE
     ·exact Ww
    ·refine Zk ?_
     refine jq_againS (i:=(0,v)) (1,pp) ⟨by omega,hpp⟩ (by dsimp only; omega) ?_ ?_
     ·dsimp only
      rw [hone,kIf,hhd]
      refine ZZ ?_
      exact WE
     ·exact Ww
   ·have hltk2:¬ (k:Int) < (((ss).map LRow).length:Int):=by omega
    rw [show p.shared.take k=p.shared from List.take_of_length_le (by omega)]
    obtain rfl:k=p.shared.length:=by omega
    generalize v=vb at *
    clear hltk hltk2 hk
    have hV:=arV_eq p t va vb
    unfold arV at hV
    rw [hV]
    have hl39:(List.replicate 39 (0:Int)).length=39:=List.length_replicate
    refine Yr (fun hlen=>?_)
    refine T_ (ap_ O v_ (av_ (ax_ (ax_ (ba_ (al_ (R_ (M_ O (N_ O ?_)))))))))
    refine F_ O (L_ 4 O (o_ O (ow_indexI 5 O O O g_ O (ag_ (ow_storeI 5 O O O g_ O (T_ (am_ ?_)))))))
    refine jc_reset [(11,.cell (.val (.pointer (some ⟨bt,0,none⟩)))),(4,.cell (.val (.pointer (some ⟨bp,0,none⟩)))),(12,.cell (.val (.pointer (some ⟨bj,0,none⟩)))),(8,.cell (.val (.pointer (some ⟨bo,0,none⟩))))] (JobH bj bV bv va vb vc (AMof p t) (jb0 p t ins ss) ++ [.blk bt 39 t.row,.blk bp 31 p.row,.blk bo 46 [.val (.slice none 0 0),.val (.slice none 0 0),.val (.slice none 0 0),.val (.slice none 0 0),.val (.int .i64 0)]]) ?_ ?_ ?_
    ·exact Ww
    ·refine bc_ 5 O (bc_ 0 O (bc_ 2 O (bc_ 2 O (bc_ 1 O (Y8 ?_)))))
     exact Wy
    have cR:=rrun6_c (bj:=bj) (bv:=bV) (ba:=bv) (va:=va) (vb:=vb) (vc:=vc) (AM:=AMof p t) _ (am_has hRn hfl) (ca0_le hRn) (cb0_le hRn hfl) hva hvb t.body hRn.rok 1 (jb0 p t ins ss) jb0_ok (by have:=hRn.cst; omega)
    refine an_ (M_ O (F_ O (L_ 6 O (o_ O (bi_ [0,0,0,0,0,0] O O cR (T_ (am_ ?_)))))))
    refine jc_reset [(11,.cell (.val (.pointer (some ⟨bt,0,none⟩)))),(4,.cell (.val (.pointer (some ⟨bp,0,none⟩)))),(12,.cell (.val (.pointer (some ⟨bj,0,none⟩)))),(8,.cell (.val (.pointer (some ⟨bo,0,none⟩))))] (JobH bj bV bv va vb vc (AMof p t) (runL (AMof p t) t.body (jb0 p t ins ss)) ++ [.blk bt 39 t.row,.blk bp 31 p.row,.blk bo 46 [.val (.slice none 0 0),.val (.slice none 0 0),.val (.slice none 0 0),.val (.slice none 0 0),.val (.int .i64 0)]]) ?_ ?_ ?_
    ·exact Ww
    ·refine Zp ?_
     refine Zp ?_
     exact Wy
    have hrun:runO p t ins ss=⟨(scaL t).map (fun s=>(aget (runL (AMof p t) t.body (jb0 p t ins ss)).V s).getD 0),t.arrays.map (fun _=>(runL (AMof p t) t.body (jb0 p t ins ss)).ca),p.shared.map (fun _=>(runL (AMof p t) t.body (jb0 p t ins ss)).cb),(runL (AMof p t) t.body (jb0 p t ins ss)).cn,(runL (AMof p t) t.body (jb0 p t ins ss)).st⟩:=rfl
    rw [hrun] at hres
    clear cR hrun
    generalize (runL (AMof p t) t.body (jb0 p t ins ss))=J at hres ⊢
    have eNl:(scaL t).length=t.inputs.length+t.vars.length:=by unfold scaL; rw [List.length_append,List.length_map]
    refine jc_anyB 10 (some 9) O k_ k_ (yM_ O (yN_ O (yF_ O (yL_ 0 O (yM_ O (yN_ O (yF_ O (yL_ 0 O (aa_ (fun c=>bu_ O O O O O p_) (af_ (ae_ (afin_some O O O (fun bl=>S_ 0 O (T_ (R_ ?_)))))))))))))))
    refine A_ 7 O (o_ O (bm_ O (rScalars_c t zi zv) (E_ O (T_ (am_ (R_ (E_ O (T_ (au_ ?_)))))))))
    generalize bl=b2 at *
    refine jc_ownNil 3 1 g_ ?_
    refine jc_loopS (ι:=Nat × Value × List Int) [] (fun i=>i.1≤((scaL t)).length∧i.2.2=(((scaL t)).take i.1).map (fun s=>(aget J.V s).getD 0)) (fun i=>(18,In .i64 (i.1:Int)) :: (17,.cell (.list ((scaL t).map Wrow))) :: [(16,.cell (.val (.pointer (some ⟨b2,0,none⟩)))),(11,.cell (.val (.pointer (some ⟨bt,0,none⟩)))),(4,.cell (.val (.pointer (some ⟨bp,0,none⟩)))),(12,.cell (.val (.pointer (some ⟨bj,0,none⟩)))),(8,.cell (.val (.pointer (some ⟨bo,0,none⟩))))]) (fun i=>(.own i.2.1 3 1 (i.2.2.map Irow)) :: .blk b2 46 [.val i.2.1,.val (.slice none 0 0),.val (.slice none 0 0),.val vc,.val (.int .i64 J.st)] :: (JobH bj bV bv va vb vc (AMof p t) J ++ [.blk bt 39 t.row,.blk bp 31 p.row,.blk bo 46 [.val (.slice none 0 0),.val (.slice none 0 0),.val (.slice none 0 0),.val (.slice none 0 0),.val (.int .i64 0)]])) (fun i=>((scaL t)).length - i.1) (0,.slice none 0 0,[]) ⟨Nat.zero_le _,rfl⟩ ?_ ?_ ?_
    ·refine Zp ?_
     refine Zp ?_
     exact WG
    ·exact Ww
    rintro ⟨k,v,B⟩ hz
    dsimp only at hz ⊢
    obtain ⟨hk,hB⟩:=hz
    have eLk:(((scaL t)).map Wrow).length=((scaL t)).length:=List.length_map _
    by_cases hltk:k < ((scaL t)).length
    ·have hltk2:(k:Int) < ((((scaL t)).map Wrow).length:Int):=by omega
     have hBl:=congrArg List.length hB
     simp only [List.length_map,List.length_take] at hBl
     refine Yu ?_
     refine Zb (fun hlen=>?_)
     refine jc_hpV2 13 (n:=15) O 1 1 [v,.slice none 0 0,.slice none 0 0,vc,.int .i64 J.st] [.map (some bV),.map (some bv),vc,.int .i64 J.st] k_ O O O (hp_pani ZP (fun hPan=>?_))
     refine df_ (i:=0) O k_ k_ k_ b_ hPan (dl_ O O O b_) (df_ (i:=1) O k_ k_ k_ b_ hPan (dm_ 1 O O O mem0 O) (YI ?_))
     refine df_ (i:=5) O k_ k_ k_ b_ hPan (dm_ 2 O O O mem1 O) (df_ (i:=6) O k_ k_ k_ b_ hPan (dk_ O) (df_ (i:=7) O k_ k_ k_ b_ hPan (dk_ O) ?_))
     refine df_ (i:=8) O k_ k_ k_ b_ hPan (hok_indexMapE O O g_ O O b_) (dg_ (i:=9) O k_ b_ (cb_ O O ⟨?_,?_⟩))
     exact keep2 1 2 O O
     refine dg_ (i:=10) O k_ b_ (ow_mapGetOI 4 O O O O O ⟨?_,?_⟩)
     exact keep2 1 2 O O
     refine dg_ (i:=11) O k_ b_ (bq_ O O b_ O O b_ ⟨?_,?_⟩)
     exact keep2 1 2 O O
     refine dg_ (i:=12) O k_ b_ (ow_append1 0 ((aget J.V ((scaL t))[k]).getD 0) O O O O O O O (fun _=>O) (by show (_+1) * 8≤_;first | omega | (simp;done)) (by first | omega | (simp;done)) (fun v1 hv1=>⟨?_,?_⟩))
     exact keep2 1 2 O O
     refine df_ (i:=13) O k_ k_ k_ b_ hPan (dl_ O O O b_) (hp_tail (dj_ (i:=14) O k_ (by decide) (ca_ 1 O O O O b_ (ht_done k_ ?_))))
     clear hPan
     refine Zk ?_
     refine jq_againS (i:=(k,v,B)) (k+1,v1,B ++ [(aget J.V ((scaL t))[k]).getD 0]) ⟨hltk,by dsimp only; rw [hB,List.take_succ_eq_append_getElem hltk,List.map_append]; rfl⟩ (by dsimp only; omega) ?_ ?_
     ·refine bc_ 1 O (Zp ?_)
      refine Zp ?_
      exact Wx
     ·exact Ww
    ·have hltk2:¬ (k:Int) < ((((scaL t)).map Wrow).length:Int):=by omega
     rw [show ((scaL t)).take k=(scaL t) from List.take_of_length_le (by omega)] at hB
     generalize v=vV at *
     refine Yu ?_
     refine Zh (fun hlen=>?_)
     refine al_ (am_ (R_ (E_ O ?_)))
     refine T_ (au_ ?_)
     subst hB
     clear hltk hltk2 hk eLk
     refine jc_ownNil 22 1 g_ ?_
     refine jc_loopS (ι:=Nat × Value) [] (fun i=>i.1≤(t.arrays).length) (fun i=>(19,In .i64 (i.1:Int)) :: [(16,.cell (.val (.pointer (some ⟨b2,0,none⟩)))),(11,.cell (.val (.pointer (some ⟨bt,0,none⟩)))),(4,.cell (.val (.pointer (some ⟨bp,0,none⟩)))),(12,.cell (.val (.pointer (some ⟨bj,0,none⟩)))),(8,.cell (.val (.pointer (some ⟨bo,0,none⟩))))]) (fun i=>(.own i.2 22 1 ((t.arrays.take i.1).map (fun _=>[C.val va]))) :: .blk b2 46 [.val vV,.val i.2,.val (.slice none 0 0),.val vc,.val (.int .i64 J.st)] :: .own vV 3 1 (((scaL t).map (fun s=>(aget J.V s).getD 0)).map Irow) :: (JobH bj bV bv va vb vc (AMof p t) J ++ [.blk bt 39 t.row,.blk bp 31 p.row,.blk bo 46 [.val (.slice none 0 0),.val (.slice none 0 0),.val (.slice none 0 0),.val (.slice none 0 0),.val (.int .i64 0)]])) (fun i=>(t.arrays).length - i.1) (0,.slice none 0 0) (Nat.zero_le _) ?_ ?_ ?_
     ·refine bc_ 0 O (bc_ 1 O (Zp ?_))
      refine Zp ?_
      exact Wx
     ·exact Ww
     rintro ⟨k,v⟩ hz
     dsimp only at hz ⊢
     obtain hk:=hz
     have eLk:((t.arrays).map ArRow).length=(t.arrays).length:=List.length_map _
     by_cases hltk:k < (t.arrays).length
     ·have hltk2:(k:Int) < (((t.arrays).map ArRow).length:Int):=by omega
      obtain rfl:k=0:=by omega
      have hAM:=am_arr hRn hltk
      refine am_ (R_ (M_ O (F_ O (L_ 9 O (Zb (fun hlen=>?_))))))
      refine jc_hpM3 15 (n:=17) O 1 3 9 k_ O O O (fun cs1 cs2 cs3 hcs1 hv1 hcs2 hv2 hcs3 hv3=>?_)
      obtain ⟨u10,u11,u12,u13,u14,rfl⟩:=len5 hcs1
      obtain ⟨u20,u21,u22,u23,rfl⟩:=len4 hcs2
      obtain ⟨u30,u31,u32,u33,u34,u35,u36,u37,u38,u39,u310,rfl⟩:=len11 hcs3
      obtain rfl:=Option.some.inj (hv1 0 _ rfl)
      obtain rfl:=Option.some.inj (hv1 1 _ rfl)
      obtain rfl:=Option.some.inj (hv1 2 _ rfl)
      obtain rfl:=Option.some.inj (hv1 3 _ rfl)
      obtain rfl:=Option.some.inj (hv1 4 _ rfl)
      obtain rfl:=Option.some.inj (hv2 0 _ rfl)
      obtain rfl:=Option.some.inj (hv2 1 _ rfl)
      obtain rfl:=Option.some.inj (hv2 2 _ rfl)
      obtain rfl:=Option.some.inj (hv2 3 _ rfl)
      obtain rfl:=Option.some.inj (hv3 0 _ rfl)
      obtain rfl:=Option.some.inj (hv3 1 _ rfl)
      obtain rfl:=Option.some.inj (hv3 2 _ rfl)
      obtain rfl:=Option.some.inj (hv3 3 _ rfl)
      obtain rfl:=Option.some.inj (hv3 4 _ rfl)
      refine hp_know 1 O mem0 ?_
      dsimp only [List.zipWith,know]
      refine hp_know 3 O mem1 ?_
      dsimp only [List.zipWith,know]
      refine hp_know 9 O mem2 ?_
      dsimp only [List.zipWith,know]
      refine hp_pani ZP (fun hPan=>?_)
      refine df_ (i:=0) O k_ k_ k_ b_ hPan (dl_ O O O b_) (df_ (i:=1) O k_ k_ k_ b_ hPan (dm_ 2 O O O mem0 O) (YI ?_))
      refine df_ (i:=5) O k_ k_ k_ b_ hPan (dm_ 1 O O O mem1 O) (df_ (i:=6) O k_ k_ k_ b_ hPan (dl_ O O O b_) ?_)
      refine df_ (i:=7) O k_ k_ k_ b_ hPan (hok_loadK 0 O O O mem2 O) (df_ (i:=8) O k_ k_ k_ b_ hPan (dk_ O) (df_ (i:=9) O k_ k_ k_ b_ hPan (hok_indexMapE O O g_ O O b_) (df_ (i:=10) O k_ k_ k_ b_ hPan (hok_fieldAddrP O O O b_ O b_) (dg_ (i:=11) O k_ b_ (cb_ O O ⟨?_,?_⟩)))))
      refine keepK3 ?_ ?_ ?_
      exact keepAt 2 O O
      exact keepAt 1 O O
      exact keepAt 0 O O
      refine dg_ (i:=12) O k_ b_ (ow_mapGetOW (κ:=ByteArray) (vv:=fun q=>cond q va vb) (M:=AMof p t) (w:=true) (u:=va) 7 O O hAM O hva O O O ⟨?_,?_⟩)
      refine keepK3 ?_ ?_ ?_
      exact keepAt 2 O O
      exact keepAt 1 O O
      exact keepAt 0 O O
      refine dg_ (i:=13) O k_ b_ (bq_ O O b_ O O b_ ⟨?_,?_⟩)
      refine keepK3 ?_ ?_ ?_
      exact keepAt 2 O O
      exact keepAt 1 O O
      exact keepAt 0 O O
      refine dg_ (i:=14) O k_ b_ (ow_append1 3 (t.arrays[0]) O O O O O O O (fun _=>O) (by show (_+1) * 24≤_;first | omega | (simp;done)) (by first | omega | (simp;done)) (fun v1 hv1=>⟨?_,?_⟩))
      refine keepK3 ?_ ?_ ?_
      exact keepAt 3 O O
      exact keepAt 2 O O
      exact keepAt 1 O O
      refine df_ (i:=15) O k_ k_ k_ b_ hPan (dl_ O O O b_) (hp_tail (dj_ (i:=16) O k_ (by decide) (ca_ 3 O O O O b_ (ht_done k_ ?_))))
      clear hPan
      refine jq_unk [_,_,_,_,_,u35,u36,u37,u38,u39,u310] 2 O O ?_
      dsimp only [List.map,unk]
      ·refine Zk ?_
       refine jq_againS (i:=(0,v)) (1,v1) (by first | omega | (dsimp only; omega)) (by first | omega | (dsimp only; omega)) ?_ ?_
       ·dsimp only
        rw [one_take hltk]
        refine bc_ 2 O (bc_ 1 O (bc_ 2 O (Yz ?_)))
        exact bc_ 1 O (bc_ 1 O (bc_ 0 O (bc_ 0 O (bc_ 0 O sub_end))))
       ·exact Ww
     ·have hltk2:¬ (k:Int) < (((t.arrays).map ArRow).length:Int):=by omega
      rw [show t.arrays.take k=t.arrays from List.take_of_length_le (by omega)]
      generalize v=vA at *
      refine am_ (R_ (M_ O (F_ O (L_ 9 O (Zh (fun hlen=>?_))))))
      refine al_ (am_ (R_ ?_))
      refine E_ O (T_ (au_ (jc_ownNil 22 1 g_ ?_)))
      refine jc_loopS (ι:=Nat × Value) [] (fun i=>i.1≤(p.shared).length) (fun i=>(20,In .i64 (i.1:Int)) :: [(16,.cell (.val (.pointer (some ⟨b2,0,none⟩)))),(11,.cell (.val (.pointer (some ⟨bt,0,none⟩)))),(4,.cell (.val (.pointer (some ⟨bp,0,none⟩)))),(12,.cell (.val (.pointer (some ⟨bj,0,none⟩)))),(8,.cell (.val (.pointer (some ⟨bo,0,none⟩))))]) (fun i=>(.own i.2 22 1 ((p.shared.take i.1).map (fun _=>[C.val vb]))) :: .blk b2 46 [.val vV,.val vA,.val i.2,.val vc,.val (.int .i64 J.st)] :: .own vA 22 1 (t.arrays.map (fun _=>[C.val va])) :: .own vV 3 1 (((scaL t).map (fun s=>(aget J.V s).getD 0)).map Irow) :: (JobH bj bV bv va vb vc (AMof p t) J ++ [.blk bt 39 t.row,.blk bp 31 p.row,.blk bo 46 [.val (.slice none 0 0),.val (.slice none 0 0),.val (.slice none 0 0),.val (.slice none 0 0),.val (.int .i64 0)]])) (fun i=>(p.shared).length - i.1) (0,.slice none 0 0) (Nat.zero_le _) ?_ ?_ ?_
      ·refine bc_ 0 O (bc_ 1 O (Zp ?_))
       refine Zp ?_
       exact WG
      ·exact Ww
      rintro ⟨k,v⟩ hz
      dsimp only at hz ⊢
      obtain hk:=hz
      have eLk:((p.shared).map ShRow).length=(p.shared).length:=List.length_map _
      by_cases hltk:k < (p.shared).length
      ·have hltk2:(k:Int) < (((p.shared).map ShRow).length:Int):=by omega
       obtain rfl:k=0:=by omega
       have hAM:=am_shr hRn hltk
       refine am_ (R_ (M_ O (F_ O (L_ 11 O (Zb (fun hlen=>?_))))))
       refine jc_hpM3 16 (n:=18) O 1 4 11 k_ O O O (fun cs1 cs2 cs3 hcs1 hv1 hcs2 hv2 hcs3 hv3=>?_)
       obtain ⟨u10,u11,u12,u13,u14,rfl⟩:=len5 hcs1
       obtain ⟨u20,u21,u22,u23,rfl⟩:=len4 hcs2
       obtain ⟨u30,u31,u32,rfl⟩:=len3 hcs3
       obtain rfl:=Option.some.inj (hv1 0 _ rfl)
       obtain rfl:=Option.some.inj (hv1 1 _ rfl)
       obtain rfl:=Option.some.inj (hv1 2 _ rfl)
       obtain rfl:=Option.some.inj (hv1 3 _ rfl)
       obtain rfl:=Option.some.inj (hv1 4 _ rfl)
       obtain rfl:=Option.some.inj (hv2 0 _ rfl)
       obtain rfl:=Option.some.inj (hv2 1 _ rfl)
       obtain rfl:=Option.some.inj (hv2 2 _ rfl)
       obtain rfl:=Option.some.inj (hv2 3 _ rfl)
       refine hp_know 1 O mem0 ?_
       dsimp only [List.zipWith,know]
       refine hp_know 4 O mem1 ?_
       dsimp only [List.zipWith,know]
       refine hp_know 11 O mem2 ?_
       dsimp only [List.zipWith,know]
       refine hp_pani ZP (fun hPan=>?_)
       refine df_ (i:=0) O k_ k_ k_ b_ hPan (dl_ O O O b_) (df_ (i:=1) O k_ k_ k_ b_ hPan (dm_ 2 O O O mem0 O) (YI ?_))
       refine df_ (i:=5) O k_ k_ k_ b_ hPan (dm_ 1 O O O mem1 O) (df_ (i:=6) O k_ k_ k_ b_ hPan (dl_ O O O b_) ?_)
       refine df_ (i:=7) O k_ k_ k_ b_ hPan (hok_loadK 0 O O O mem2 O) (df_ (i:=8) O k_ k_ k_ b_ hPan (dk_ O) (df_ (i:=9) O k_ k_ k_ b_ hPan (hok_indexMapE O O g_ O O b_) (df_ (i:=10) O k_ k_ k_ b_ hPan (hok_fieldAddrP O O O b_ O b_) (df_ (i:=11) O k_ k_ k_ b_ hPan (hok_fieldAddrP O O O b_ O b_) (dg_ (i:=12) O k_ b_ (cb_ O O ⟨?_,?_⟩))))))
       refine keepK3 ?_ ?_ ?_
       exact keepAt 2 O O
       exact keepAt 1 O O
       exact keepAt 0 O O
       refine dg_ (i:=13) O k_ b_ (ow_mapGetOW (κ:=ByteArray) (vv:=fun q=>cond q va vb) (M:=AMof p t) (w:=false) (u:=vb) 8 O O hAM O hvb O O O ⟨?_,?_⟩)
       refine keepK3 ?_ ?_ ?_
       exact keepAt 2 O O
       exact keepAt 1 O O
       exact keepAt 0 O O
       refine dg_ (i:=14) O k_ b_ (bq_ O O b_ O O b_ ⟨?_,?_⟩)
       refine keepK3 ?_ ?_ ?_
       exact keepAt 2 O O
       exact keepAt 1 O O
       exact keepAt 0 O O
       refine dg_ (i:=15) O k_ b_ (ow_append1 3 (p.shared[0]) O O O O O O O (fun _=>O) (by show (_+1) * 24≤_;first | omega | (simp;done)) (by first | omega | (simp;done)) (fun v1 hv1=>⟨?_,?_⟩))
       refine keepK3 ?_ ?_ ?_
       exact keepAt 3 O O
       exact keepAt 2 O O
       exact keepAt 1 O O
       refine df_ (i:=16) O k_ k_ k_ b_ hPan (dl_ O O O b_) (hp_tail (dj_ (i:=17) O k_ (by decide) (ca_ 3 O O O O b_ (ht_done k_ ?_))))
       clear hPan
       refine jq_unk [u30,u31,u32] 2 O O ?_
       dsimp only [List.map,unk]
       ·refine Zk ?_
        refine jq_againS (i:=(0,v)) (1,v1) (by first | omega | (dsimp only; omega)) (by first | omega | (dsimp only; omega)) ?_ ?_
        ·dsimp only
         rw [one_take hltk]
         refine bc_ 2 O (bc_ 1 O (bc_ 2 O (bc_ 2 O (Yz ?_))))
         exact bc_ 1 O (bc_ 1 O (bc_ 1 O (bc_ 0 O (bc_ 0 O sub_end))))
        ·exact Ww
      ·have hltk2:¬ (k:Int) < (((p.shared).map ShRow).length:Int):=by omega
       rw [show p.shared.take k=p.shared from List.take_of_length_le (by omega)]
       generalize v=vS at *
       refine am_ (R_ (M_ O (F_ O (L_ 11 O (Zh (fun hlen=>?_))))))
       refine al_ (am_ (jc_freezeO1 (l:=p.shared) hRn.s1 9 0 O (by rw [hc]; simp [hb]) ?_))
       refine jc_freezeO1 (l:=t.arrays) hRn.a1 8 2 O (by rw [hc]; simp [hb]) ?_
       rw [show t.arrays.map (fun _=>[C.list (J.ca.map Irow)])=(t.arrays.map (fun _=>J.ca)).map LRow by rw [List.map_map]; rfl,show p.shared.map (fun _=>[C.list (J.cb.map Irow)])=(p.shared.map (fun _=>J.cb)).map LRow by rw [List.map_map]; rfl]
       exact jc_freezeBi 0 1 1 O O O (by rw [hc]; simp [hb]) (jc_freezeBi 1 0 2 O O O (by rw [hc]; simp [hb]) (jc_freezeBi 1 0 0 O O O (by rw [hc]; simp [hb]) (jc_freezeBi 2 0 3 O O O (by rw [hc]; simp [hb]) (an_ (A_ 0 O (S_ 6 O (E_ O (T_ (ar_ (jq_retRowT O O O O O 0 O (fun K h=>by rw [← hres] at h; exact h) sub_end))))))))))
theorem rRun_c (p:Pg) (hp:PgOk p) (hr:ckF p=0→∀ t ∈ p.tasks,Rn p t) (task:Int) (ins:List Int) (ss:List (List Int)) :
 Con Tryz.prog 48 [.row p.row,In .i64 task,.cell (.list (ins.map Irow)),.cell (.list (ss.map LRow))] [] (fun K=>K (.tup [.row (OutRow (runF p task ins ss).1),In .i64 (runF p task ins ss).2]) []):=by
 have hC:=rProgram5_c p hp
 by_cases hne:ckF p≠0
 ·have hres:runF p task ins ss=(outZ,ckF p):=by unfold runF; rw [if_pos hne]
  refine con_intro Tryz.func48 O O b_ (fun c hc=>R_ (o_ O (ci_ O (fun bx=>Yx (fun bl=>?_)))))
  refine aq_ O u_ (R_ (o_ O (bu_ O O O O O (M_ O (S_ 0 O (E_ O (T_ (ar_ (aw_ (jq_row 0 (OutRow outZ) O ?_ ?_))))))))))
  ·(repeat (first | exact RowLe.nil | refine RowLe.cons (CLe.refl _) ?_ | refine RowLe.cons CLe.nil ?_))
  ·exact WW
 have h0:ckF p=0:=Classical.not_not.1 hne
 have eT:(p.tasks.map Tk.row).length=p.tasks.length:=List.length_map _
 by_cases ht:¬ (0≤task∧task < (p.tasks.length:Int))
 ·have hres:runF p task ins ss=(outZ,8):=by unfold runF; rw [if_neg hne,if_neg ht]
  by_cases ht0:task < 0
  ·refine con_intro Tryz.func48 O O b_ (fun c hc=>R_ (o_ O (ci_ O (fun bx=>Yx (fun bl=>?_)))))
   refine ap_ O w_ (as_ (al_ (am_ (R_ (M_ O (o_ O (bw_ O O (M_ O (Yg ?_)))))))))
   refine ai_ O u_ b_ (ai_ O u_ b_ (o_ O (bp_ O u_ O (T_ (aq_ O O ?_)))))
   refine R_ (o_ O (bu_ O O O O O (S_ 0 O (E_ O (T_ (ar_ (aw_ (jq_row 0 (OutRow outZ) O ?_ ?_))))))))
   ·(repeat (first | exact RowLe.nil | refine RowLe.cons (CLe.refl _) ?_ | refine RowLe.cons CLe.nil ?_))
   ·exact WW
  ·have ht1:task ≥ ((p.tasks.map Tk.row).length:Int):=by omega
   refine con_intro Tryz.func48 O O b_ (fun c hc=>R_ (o_ O (ci_ O (fun bx=>Yx (fun bl=>?_)))))
   refine ap_ O w_ (as_ (al_ (am_ (R_ (M_ O (o_ O (YQ ?_)))))))
   refine bf_ O O O b_ (ah_ O w_ b_ (bg_ 1 O O O O (ah_ O w_ b_ (br_ O (fun hlen=>ah_ O w_ b_ (cn_ O O (o_ O (bv_ O w_ O (T_ (aq_ O u_ ?_))))))))))
   refine R_ (o_ O (bu_ O O O O O (S_ 0 O (E_ O (T_ (ar_ (aw_ (jq_row 0 (OutRow outZ) O ?_ ?_))))))))
   ·(repeat (first | exact RowLe.nil | refine RowLe.cons (CLe.refl _) ?_ | refine RowLe.cons CLe.nil ?_))
   ·exact WW
 have ht:=Classical.not_not.1 ht
 obtain ⟨n,rfl⟩:∃ n:Nat,task=(n:Int):=⟨task.toNat,by omega⟩
 have hn:n < p.tasks.length:=by omega
 have hn1:¬ (n:Int) < 0:=by omega
 have hn2:¬ (n:Int) ≥ ((p.tasks.map Tk.row).length:Int):=by omega
 have hRn:=hr h0 p.tasks[n] (List.getElem_mem hn)
 have htz:=hp.sz.tasks p.tasks[n] (List.getElem_mem hn)
 have hF:runF p (n:Int) ins ss=if fitB (p.tasks[n]).inputs ins=false then (outZ,9) else if filB p.shared ss=false then (outZ,10) else (runO p p.tasks[n] ins ss,0):=by
  unfold runF
  rw [if_neg hne,if_pos ht,show ((n:Int)).toNat=n by omega,List.getD_eq_getElem?_getD,List.getElem?_eq_getElem hn]
  rfl
 have hI:=rInputs6_c (p.tasks[n]).inputs ins
 have hS:=rShared6_c p ss
 cases hf:fitB (p.tasks[n]).inputs ins with
 | false =>
  rw [hf] at hI
  have hres:runF p (n:Int) ins ss=(outZ,9):=by rw [hF,if_pos hf]
  refine con_intro Tryz.func48 O O b_ (fun c hc=>R_ (o_ O (ci_ O (fun bx=>Yx (fun bl=>?_)))))
  refine ap_ O w_ (as_ (al_ (am_ (R_ (M_ O (o_ O (YQ ?_)))))))
  refine bf_ O O O b_ (ah_ O w_ b_ (bg_ 1 O O O O (ah_ O w_ b_ (br_ O (fun hlen=>ah_ O w_ b_ (cn_ O O (o_ O (bv_ O O O (T_ (ap_ O w_ ?_))))))))))
  refine as_ (al_ (R_ (F_ O (L_ 1 O (M_ O (Zm (fun bl=>?_)))))))
  refine am_ (Y6 ?_)
  refine o_ O (bm_ O (hI) (o_ O (cd_ O (T_ (aq_ O O (R_ (o_ O (bu_ O O O O O (S_ 1 O (E_ O (T_ (ar_ (aw_ (jq_row 0 (OutRow outZ) O ?_ ?_))))))))))))))
  ·(repeat (first | exact RowLe.nil | refine RowLe.cons (CLe.refl _) ?_ | refine RowLe.cons CLe.nil ?_))
  ·exact WW
 | true =>
  rw [hf] at hI
  cases hfl:filB p.shared ss with
  | false =>
   rw [hfl] at hS
   have hres:runF p (n:Int) ins ss=(outZ,10):=by rw [hF,if_neg (by rw [hf]; decide),if_pos hfl]
   refine con_intro Tryz.func48 O O b_ (fun c hc=>R_ (o_ O (ci_ O (fun bx=>Yx (fun bl=>?_)))))
   refine ap_ O w_ (as_ (al_ (am_ (R_ (M_ O (o_ O (YQ ?_)))))))
   refine bf_ O O O b_ (ah_ O w_ b_ (bg_ 1 O O O O (ah_ O w_ b_ (br_ O (fun hlen=>ah_ O w_ b_ (cn_ O O (o_ O (bv_ O O O (T_ (ap_ O w_ ?_))))))))))
   refine as_ (al_ (R_ (F_ O (L_ 1 O (M_ O (Zm (fun bl=>?_)))))))
   refine am_ (Y6 ?_)
   refine o_ O (bm_ O (hI) (o_ O (cd_ O (Wl ?_))))
   refine R_ (A_ 2 O (M_ O (o_ O (bm_ O (hS) (o_ O (cd_ O (T_ (aq_ O O (R_ (o_ O (bu_ O O O O O ?_)))))))))))
   refine S_ 1 O (E_ O (T_ (ar_ (aw_ (jq_row 0 (OutRow outZ) O ?_ ?_)))))
   ·(repeat (first | exact RowLe.nil | refine RowLe.cons (CLe.refl _) ?_ | refine RowLe.cons CLe.nil ?_))
   ·exact WW
  | true =>
   rw [hfl] at hS
   have hres:runF p (n:Int) ins ss=(runO p p.tasks[n] ins ss,0):=by rw [hF,if_neg (by rw [hf]; decide),if_neg (by rw [hfl]; decide)]
   rw [hres]
   exact rRunOk_c p hp h0 n hn hRn ins ss hf hfl
end Go.Proofs.YtalkkcfojplmdaaGreatDoor
end
section
namespace Go.Proofs.YtalkkcfojplmdaaGreatDoor
open Go.Vc
attribute [local irreducible] JL JC JQ OpWp Con ConN HOk
attribute [local irreducible] StG BlG runO ckF runF findF
set_option maxHeartbeats 4000000
def aw5:List Sm:=[.mk 4 E0 [] [.nm Ni] 10 3 [.mk 1 Ni [] [.bn 1 (.nm Ni) (.nu 1)] 0 0 [] []] []]
theorem aw5_w:wAll 20 aw5 0=79:=by
 show wAll 20 [.mk 4 E0 [] [.nm Ni] 10 3 [.mk 1 Ni [] [.bn 1 (.nm Ni) (.nu 1)] 0 0 [] []] []] 0=79
 simp [wAll,wOne,wPartsL,wParts,wP,T.args,Sm.kind,Sm.index,Sm.value,Sm.thn,Sm.max,lim]
 decide
theorem aw5_l:LB aw5=[3]:=by decide +kernel
theorem awake5_c:Con Tryz.prog 13 [] [] (fun K=>K (Bl true) []):=by
 have hW:=cWeight_c aw5
 have hL:=cLabels_c aw5 (by decide)
 rw [aw5_w] at hW
 rw [aw5_l] at hL
 have hS:=SameIX_c [3]
 refine con_intro Tryz.func13 O O b_ (fun c hc=>R_ (E_ O (T_ (R_ (o_ O (bm_ O (gName_c _) (Yt (fun bl=>?_))))))))
 refine am_ (jc_anyB 10 none O k_ k_ (aa_ (fun c=>bs_ 0 O O O O p_) (aa_ (fun c=>bq_ O O b_ O O b_ p_) (aa_ (fun c=>bs_ 0 O O O O p_) (aa_ (fun c=>bm_ O (gNum_c _) p_) (aa_ (fun c=>bm_ O (gBin_c _ _ _) p_) ?_))))))
 refine aa_ (fun c=>bq_ O O b_ O O b_ p_) (aa_ (fun c=>bu_ O O O O O p_) (aa_ (fun c=>bq_ O O b_ O O b_ p_) (aa_ (fun c=>bu_ O O O O O p_) (Z7 ?_))))
 refine E_ O (T_ (am_ (jc_sle 2 O (s':=.cell (.list (aw5.map Sm.row))) (SLe.cell (CLe.list (.cons ?_ .nil))) ?_)))
 ·(repeat (first | exact RowLe.nil | exact RowsLe.nil | exact CLe.nil | exact CLe.refl _ | refine RowLe.cons ?_ ?_ | refine RowsLe.cons ?_ ?_ | refine CLe.list ?_))
 refine an_ (M_ O (o_ O (bm_ O (hW) (o_ O (bn_ O O (M_ O (Zs ?_)))))))
 refine bm_ O (hL) (ah_ O O b_ (bq_ O O b_ O O b_ (ah_ O O b_ (bm_ O (hS) (o_ O (bp_ O x_ O (E_ O (T_ (ar_ (jq_ret1 O O [] O (fun K h=>h)))))))))))
theorem gRun_c (p:Pg) (hok:PgOk p) (hrn:ckF p=0→∀ t ∈ p.tasks,Rn p t) (task:Int) (ins:List Int) (ss:List (List Int)):Con Tryz.prog 19 [.row p.row,In .i64 task,.cell (.list (ins.map Irow)),.cell (.list (ss.map LRow))] [] (fun K=>K (.tup [.row (OutRow (runF p task ins ss).1),In .i64 (runF p task ins ss).2]) []):=by
 have h1:=rRun_c p hok hrn task ins ss
 generalize runF p task ins ss=R at h1 ⊢
 refine con_intro Tryz.func19 O O b_ (fun c hc=>R_ (o_ O (ci_ O (fun bx=>o_ O (bl_ O O (fun bl=>E_ O (T_ (R_ (A_ 1 O (M_ O (M_ O (M_ O (o_ O (bm_ O (h1) (X_ O (X_ O (S_ 0 O (E_ O ?_))))))))))))))))))
 exact T_ (ar_ (jq_retRowT O O O O O 0 O (fun K h=>h) sub_end))
theorem made_find {T:Nat} {W:Int} {p:Pg} (hT:T≤6) (h:PgG T W p) {k:Nat} (hk:k < p.tasks.length):findF p.tasks (p.tasks[k]).name=(k,true):=by
 have hl:=h.len
 refine find_yes hk ?_ O
 rw [List.any_eq_false]
 intro t ht
 obtain ⟨j,hj,rfl⟩:=List.getElem_of_mem ht
 rw [List.length_take] at hj
 rw [List.getElem_take,(h.tasks j (by omega)).name,(h.tasks k hk).name]
 simp only [decide_eq_true_eq]
 intro e
 have:=nmT_inj (by omega) (by omega) e
 omega
theorem CheckMade_c (L:List Int) (hL:InR L) (tasks:Int) (htk:-9223372036854775808≤tasks∧tasks≤9223372036854775807) :
 Con Tryz.prog 5 [.cell (.list (L.map Irow)),In .i64 tasks] [] (fun K=>K (Bl true) []):=by
 have ha:=awake5_c
 refine con_intro Tryz.func5 O O b_ (fun c hc=>?_)
 by_cases hLn:L.length≤400
 ·have hd:(!decide (L.length≤400))=false:=by simp [hLn]
  refine ZV ?_
  refine bm_ O (gFew_c _) (o_ O (ce_ O (T_ (ap_ O v_ (as_ (al_ (R_ (M_ O (o_ O (bt_ [] O O (gNewT_c L) (fun bd hbd=>E_ O ?_)))))))))))
  refine T_ (R_ (M_ O (M_ O (o_ O (bm_ O (gMod_c _ _ g_ g_) (o_ O (bj_ O O g_ (o_ O (bt_ [0] O O (gProgram_c hL hLn _) (fun p hp=>?_))))))))))
  have hT:1≤(max 1 (min (1+tasks % 4) 6)).toNat∧(max 1 (min (1+tasks % 4) 6)).toNat≤4:=by omega
  have hck:=made_ck hT (by omega) hp
  have hok:=made_ok (by omega) hp
  have hrn:=made_rn hp
  have hlen:=hp.len
  have hshz:=made_shz hp.shared
  have eT:(p.tasks.map Tk.row).length=p.tasks.length:=List.length_map _
  have hCk:=cProgram5_c p hok
  rw [hck] at hCk
  refine Yt (fun bl=>?_)
  refine am_ (R_ (A_ 0 O (o_ O (bm_ O (hCk) (o_ O (bx_ O O (Wl ?_)))))))
  refine am_ ?_
  generalize bl=bp at *
  have hti:∀ (k:Nat) (h:k < p.tasks.length),InZ (p.tasks[k]).inputs:=fun k h=>made_inz (hp.tasks k h)
  have hfd:∀ (k:Nat) (h:k < p.tasks.length),findF p.tasks (p.tasks[k]).name=(k,true):=fun k h=>made_find (by omega) hp h
  have hE:∀ (k:Nat) (h:k < p.tasks.length) (ins:List Int) (ss:List (List Int)),fitB (p.tasks[k]).inputs ins=true→filB p.shared ss=true→Con Tryz.prog 19 [.row p.row,In .i64 (k:Int),.cell (.list (ins.map Irow)),.cell (.list (ss.map LRow))] [] (fun K=>K (.tup [.row (OutRow (runO p p.tasks[k] ins ss)),In .i64 0]) []):=fun k h ins ss h1 h2=>by
   have:=gRun_c p hok hrn (k:Int) ins ss
   rwa [runF_in hck h h1 h2] at this
  have hct:=fun (k:Nat) (h:k < p.tasks.length)=>made_counts hck (List.getElem_mem h)
  clear hp hCk hok hrn hck hT htk
  refine an_ (E_ O (T_ (au_ (jc_loopS (ι:=Nat) [] (fun k=>k≤(p.tasks).length) (fun k=>(7,In .i64 (k:Int)) :: [(5,Ptr bd),(6,Ptr bp)]) (fun k=>[.blk bp 31 p.row,Dk bd L]) (fun k=>(p.tasks).length - k) 0 (Nat.zero_le _) ?_ ?_ ?_))))
  ·exact Wx
  ·exact Ww
  rintro k hk
  have eLk:((p.tasks).map Tk.row).length=(p.tasks).length:=List.length_map _
  by_cases hltk:k < (p.tasks).length
  ·have hltk2:(k:Int) < (((p.tasks).map Tk.row).length:Int):=by omega
   have hiz:=hti k hltk
   have hE:=hE k hltk
   have hct:=hct k hltk
   have hF:=cFind_c p (p.tasks[k]).name
   rw [hfd k hltk] at hF
   have hW:=cWeight_c (p.tasks[k]).body
   refine ZB ?_
   refine Zb (fun hlen=>?_)
   refine am_ ?_
   refine jc_cut (ι:=Nat × Out) [] (fun i=>∃ ins ss,fitB (p.tasks[k]).inputs ins=true∧filB p.shared ss=true∧i.2=runO p p.tasks[k] ins ss) (fun i=>[(7,In .i64 (k:Int)),(5,Ptr bd),(6,Ptr bp),(8,Ptr i.1),(9,In .i64 0)]) (fun i=>[.blk bp 31 p.row,.blk i.1 46 (OutRow i.2),Dk bd L]) ?_ ?_
   ·refine jc_hp1 18 (n:=19) O 0 k_ O (fun cs1 hcs1=>?_)
    obtain ⟨u10,u11,u12,rfl⟩:=len3 hcs1
    refine hp_know 0 O mem0 ?_
    dsimp only [List.zipWith,know]
    refine df_ (i:=0) O k_ k_ k_ b_ ZP (hok_loadAllK 0 O O O mem0 O) ?_
    refine df_ (i:=1) O k_ k_ k_ b_ ZP (dk_ O) ?_
    refine df_ (i:=2) O k_ k_ k_ b_ ZP (dk_ O) ?_
    refine df_ (i:=3) O k_ k_ k_ b_ ZP (dl_ O O O b_) ?_
    refine df_ (i:=4) O k_ k_ k_ b_ ZP (hok_loadK 0 O O O mem0 O) ?_
    refine df_ (i:=5) O k_ k_ k_ b_ ZP (dk_ O) ?_
    refine df_ (i:=6) O k_ k_ k_ b_ ZP (hok_indexMapE O O g_ O O b_) ?_
    refine df_ (i:=9) O k_ k_ k_ b_ ZP (dk_ O) ?_
    refine df_ (i:=10) O k_ k_ k_ b_ ZP (hok_loadAllK 0 O O O mem0 O) ?_
    refine hp_br2 (i:=7) (j:=16) O O k_ O ?_ ?_
    refine hs_v (cr_ O O O ⟨?_,?_⟩)
    exact keepK 0 O O
    refine hp_br2 (i:=8) (j:=16) O O k_ O ?_ ?_
    refine hs_v (bt_ [1] O O (gInputsL_c hL hLn _ hiz) (fun pp hpp=>⟨?_,?_⟩))
    exact keepK 1 O O
    refine hp_br2 (i:=11) (j:=16) O O k_ O ?_ ?_
    refine hs_v (bt_ [0] O O (gSharedL_c hL hLn p hshz) (fun pp hpp=>⟨?_,?_⟩))
    exact keepK 1 O O
    refine hp_br2 (i:=12) (j:=16) O O k_ O ?_ ?_
    refine hs_v (bm_ O (hE _ _ h_ h_) ⟨?_,?_⟩)
    exact keepK 1 O O
    refine df_ (i:=13) O k_ k_ k_ b_ ZP (dk_ O) ?_
    refine df_ (i:=14) O k_ k_ k_ b_ ZP (dq_ O O) ?_
    refine df_ (i:=15) O k_ k_ k_ b_ ZP (dq_ O O) ?_
    refine dg_ (i:=16) O k_ b_ (bl_ O O (fun bl=>⟨?_,?_⟩))
    exact keepK 2 O O
    refine dh_ (i:=17) O k_ (bk_ 0 O O O O O O ⟨?_,?_⟩)
    exact keepK 2 O O
    refine df_ (i:=18) O k_ k_ k_ b_ ZP (hok_assign O) ?_
    refine hp_done k_ (jq_unk [u10,u11,u12] 2 O O ?_)
    dsimp only [List.map,unk]
    rotate_left
    refine hs_v (bl_ O O (fun bl=>⟨?_,?_⟩))
    exact keepK 2 O O
    refine dg_ (i:=12) O k_ b_ (bm_ O (hE _ _ h_ h_) ⟨?_,?_⟩)
    exact keepK 2 O O
    refine df_ (i:=13) O k_ k_ k_ b_ ZP (dk_ O) ?_
    refine df_ (i:=14) O k_ k_ k_ b_ ZP (dq_ O O) ?_
    refine df_ (i:=15) O k_ k_ k_ b_ ZP (dq_ O O) ?_
    refine dh_ (i:=17) O k_ (bk_ 0 O O O O O O ⟨?_,?_⟩)
    exact keepK 2 O O
    refine df_ (i:=18) O k_ k_ k_ b_ ZP (hok_assign O) ?_
    refine hp_done k_ (jq_unk [u10,u11,u12] 2 O O ?_)
    dsimp only [List.map,unk]
    rotate_left
    refine hs_v (bl_ O O (fun bl=>⟨?_,?_⟩))
    exact keepK 2 O O
    refine dg_ (i:=11) O k_ b_ (bt_ [1] O O (gSharedL_c hL hLn p hshz) (fun pp hpp=>⟨?_,?_⟩))
    exact keepK 2 O O
    refine dg_ (i:=12) O k_ b_ (bm_ O (hE _ _ h_ h_) ⟨?_,?_⟩)
    exact keepK 2 O O
    refine df_ (i:=13) O k_ k_ k_ b_ ZP (dk_ O) ?_
    refine df_ (i:=14) O k_ k_ k_ b_ ZP (dq_ O O) ?_
    refine df_ (i:=15) O k_ k_ k_ b_ ZP (dq_ O O) ?_
    refine dh_ (i:=17) O k_ (bk_ 1 O O O O O O ⟨?_,?_⟩)
    exact keepK 2 O O
    refine df_ (i:=18) O k_ k_ k_ b_ ZP (hok_assign O) ?_
    refine hp_done k_ (jq_unk [u10,u11,u12] 2 O O ?_)
    dsimp only [List.map,unk]
    rotate_left
    refine hs_v (bl_ O O (fun bl=>⟨?_,?_⟩))
    exact keepK 1 O O
    refine dg_ (i:=8) O k_ b_ (bt_ [2] O O (gInputsL_c hL hLn _ hiz) (fun pp hpp=>⟨?_,?_⟩))
    exact keepK 2 O O
    refine dg_ (i:=11) O k_ b_ (bt_ [0] O O (gSharedL_c hL hLn p hshz) (fun pp hpp=>⟨?_,?_⟩))
    exact keepK 2 O O
    refine dg_ (i:=12) O k_ b_ (bm_ O (hE _ _ h_ h_) ⟨?_,?_⟩)
    exact keepK 2 O O
    refine df_ (i:=13) O k_ k_ k_ b_ ZP (dk_ O) ?_
    refine df_ (i:=14) O k_ k_ k_ b_ ZP (dq_ O O) ?_
    refine df_ (i:=15) O k_ k_ k_ b_ ZP (dq_ O O) ?_
    refine dh_ (i:=17) O k_ (bk_ 1 O O O O O O ⟨?_,?_⟩)
    exact keepK 2 O O
    refine df_ (i:=18) O k_ k_ k_ b_ ZP (hok_assign O) ?_
    refine hp_done k_ (jq_unk [u10,u11,u12] 2 O O ?_)
    dsimp only [List.map,unk]
    rotate_left
    refine hs_v (bl_ O O (fun bl=>⟨?_,?_⟩))
    exact keepK 1 O O
    refine dg_ (i:=7) O k_ b_ (cr_ O O O ⟨?_,?_⟩)
    exact keepK 1 O O
    refine dg_ (i:=8) O k_ b_ (bt_ [2] O O (gInputsL_c hL hLn _ hiz) (fun pp hpp=>⟨?_,?_⟩))
    exact keepK 2 O O
    refine dg_ (i:=11) O k_ b_ (bt_ [0] O O (gSharedL_c hL hLn p hshz) (fun pp hpp=>⟨?_,?_⟩))
    exact keepK 2 O O
    refine dg_ (i:=12) O k_ b_ (bm_ O (hE _ _ h_ h_) ⟨?_,?_⟩)
    exact keepK 2 O O
    refine df_ (i:=13) O k_ k_ k_ b_ ZP (dk_ O) ?_
    refine df_ (i:=14) O k_ k_ k_ b_ ZP (dq_ O O) ?_
    refine df_ (i:=15) O k_ k_ k_ b_ ZP (dq_ O O) ?_
    refine dh_ (i:=17) O k_ (bk_ 1 O O O O O O ⟨?_,?_⟩)
    exact keepK 2 O O
    refine df_ (i:=18) O k_ k_ k_ b_ ZP (hok_assign O) ?_
    refine hp_done k_ (jq_unk [u10,u11,u12] 2 O O ?_)
    dsimp only [List.map,unk]
    rotate_left
    ·refine jq_cutS (bl,runO p p.tasks[k] _ _) ⟨_,_,by assumption,by assumption,rfl⟩ ?_ ?_
     ·exact WG
     ·exact Ww
    ·refine jq_cutS (bl,runO p p.tasks[k] _ _) ⟨_,_,by assumption,by assumption,rfl⟩ ?_ ?_
     ·exact WG
     ·exact Ww
    ·refine jq_cutS (bl,runO p p.tasks[k] _ _) ⟨_,_,by assumption,by assumption,rfl⟩ ?_ ?_
     ·exact WG
     ·exact Ww
    ·refine jq_cutS (bl,runO p p.tasks[k] _ _) ⟨_,_,by assumption,by assumption,rfl⟩ ?_ ?_
     ·exact WG
     ·exact Ww
    ·refine jq_cutS (bl,runO p p.tasks[k] _ _) ⟨_,_,by assumption,by assumption,rfl⟩ ?_ ?_
     ·exact WG
     ·exact Ww
   rintro ⟨bo,o⟩ ⟨ins,ss,_,_,ho⟩
   dsimp only at ho ⊢
   obtain ⟨c1,c2,c3,c4,c5,c6,c7,c8⟩:=hct ins ss
   rw [← ho] at c5
   obtain ⟨ov,oa,os,oc,ost⟩:=o
   dsimp only [OutRow] at c5 ⊢
   have hst:¬ ost > wAll 20 (p.tasks[k]).body 0:=by omega
   clear c1 c2 c3 c4 c5 c6 c7 c8 hE hct ho
   refine am_ (ao_ O O k_ k_ (aa_ (fun c=>bs_ 0 O O O O p_) (yF_ O (yL_ 0 O (Zi ?_)))))
   refine aa_ (fun c=>bm_ O (hF) p_) (yM_ O (aa_ (fun c=>bo_ O O p_) (aa_ (fun c=>bo_ O O p_) (yE_ O (yE_ O (ae_ ?_))))))
   refine al_ (am_ (ao_ O O k_ k_ (yM_ O (aa_ (fun c=>bx_ O O p_) (yM_ O (ab_ O O (fun c=>bf_ O O O b_ p_) (ab_ O O (fun c=>bg_ 1 O O O O p_) (ab_ O O (fun c=>bf_ O O O b_ p_) (ab_ O O (fun c=>bg_ 0 O O O O p_) (ab_ O O (fun c=>bd_ O p_) (ab_ O O (fun c=>cc_ O O g_ O O b_ p_) (ab_ O O (fun c=>cf_ O O O b_ O b_ p_) (ab_ O O (fun c=>cb_ O O p_) ?_)))))))))))))
   refine ab_ O O (fun c=>bm_ O (hW) p_) (ab_ O O (fun c=>bz_ O O p_) (aa_ (fun c=>bv_ O O O p_) (yM_ O (ab_ O w_ (fun c=>bd_ O p_) (ab_ O w_ (fun c=>cd_ O p_) (aa_ (fun c=>bv_ O w_ O p_) (yM_ O (ab_ O O (fun c=>bd_ O p_) (ab_ O O (fun c=>bd_ O p_) (ab_ O O (fun c=>bx_ O O p_) (aa_ (fun c=>bv_ O O O p_) (ae_ (al_ (ap_ O v_ (as_ ?_)))))))))))))))
   refine Zk ?_
   refine jq_againS (i:=k) (k+1) g_ g_ ?_ ?_
   ·exact bc_ 0 O (bc_ 1 O sub_end)
   ·exact Ww
  ·have hltk2:¬ (k:Int) < (((p.tasks).map Tk.row).length:Int):=by omega
   refine ZB ?_
   refine Zh (fun hlen=>?_)
   refine al_ (R_ (o_ O (bm_ O (ha) ?_)))
   refine E_ O (T_ (ar_ (jq_ret1 O O [] O (fun K h=>h))))
 ·have hd:(!decide (L.length≤400))=true:=by simp [hLn]
  refine ZV ?_
  refine bm_ O (gFew_c _) (o_ O (ce_ O (T_ (aq_ O u_ (R_ (o_ O (bm_ O (ha) (E_ O (T_ (ar_ (aw_ ?_)))))))))))
  refine jq_ret1 O O [] O (fun K h=>h)
end Go.Proofs.YtalkkcfojplmdaaGreatDoor
end
section
namespace Go.Vc
open Go.ChangeShapes Go.WideShapes Go.ChangeAt Go.RowKit Go.Joins Go.Deep
theorem strs_inj {H:Type}:∀ {a b:List ByteArray},(strs a:List (DataW H))=strs b→a=b
 | [],[],_=>rfl
 | [],_ :: _,h=>by simp [strs] at h
 | _ :: _,[],h=>by simp [strs] at h
 | x :: a,y :: b,h=>by
  simp only [strs,List.map_cons,List.cons.injEq,DataW.lit.injEq,Lit.string.injEq] at h
  have e:x=y:=by
   cases x; cases y
   simp only at h
   congr 1
   exact Array.ext' h.1
  subst e
  rw [strs_inj (H:=H) (a:=a) (b:=b) h.2]
section
variable {H:Type} {enc:TypeId × Value→H} {P:Program}
theorem rd_strings {W:World} {t e:TypeId} (ht:P.underlying t=some (.slice e)) (he:P.underlying e=some .string) (hc:P.cellsOf e=1) {cs:List Value} {L:List ByteArray} {ps:List MemPlace} {base:Nat} {sp:Nat→Bool} {held:Bool} {fuel:Nat} (h0:0 < L.length)
 (h:DataW.trod enc P W base sp held fuel t cs=some ((.slice (strs L) []:DataW H),ps)):∃ v,cs=[v]∧Rd1 W (fun _=>False) (.list (L.map fun s=>[.val (.string s)])) v:=by
 rcases open_strings ht he hc h with ⟨_,hx⟩ | ⟨a,len,cap,ss,rfl,_,hle,hcap,hz,hx,hcell,_⟩
 ·cases hx
 ·simp only [Prod.mk.injEq,DataW.slice.injEq] at hx
  have hL:L=ss.take len:=strs_inj hx.1.1
  have hlen:L.length=len:=by
   rw [hL,List.length_take]
   have:len≤ss.length:=by rw [hz]; split <;> omega
   omega
  refine ⟨_,rfl,some a,cap,by rw [List.length_map,hlen],by rw [List.length_map,hlen]; exact hle,hcap,?_⟩
  have hss:len≤ss.length:=by rw [hz]; split <;> omega
  have h1:=hcell 0 (by omega)
  have hsp:a.spot=none:=by simpa [Addr.add] using World.cell?_spot h1
  obtain ⟨b,off,sp⟩:=a
  simp only at hsp
  subst hsp
  refine .inr ⟨b,off,L.map Value.string,1,rfl,id,?_,Nat.one_pos,?_⟩
  ·intro j u hj
   rw [List.getElem?_map,Option.map_eq_some_iff] at hj
   obtain ⟨z,hz1,rfl⟩:=hj
   have hjl:j < L.length:=(List.getElem?_eq_some_iff.1 hz1).1
   have:=hcell j (by omega)
   rw [add_at] at this
   rw [this]
   congr 2
   rw [List.getD_eq_getElem?_getD]
   rw [hL,List.getElem?_take] at hz1
   split at hz1
   ·rw [hz1]; rfl
   ·cases hz1
  ·clear hL hlen h0 h hx
   induction L with
   | nil=>rfl
   | cons s L ih=>exact ⟨[.string s],_,rfl,rfl,⟨.string s,[],rfl,⟨rfl,rfl⟩,rfl⟩,ih⟩
theorem cells_of_strs {w:World} {base:Nat} {sp:Nat→Bool} {held:Bool} {fuel:Nat} {t e:TypeId} {n:Nat} {cs:List Value} {L:List ByteArray} {p:List MemPlace}
 (ht:P.underlying t=some (.array n e)) (he:P.underlying e=some .string) (hce:P.cellsOf e=1) (hct:P.cellsOf t=n)
 (h:DataW.trod enc P w base sp held fuel t cs=some ((.agg (strs L):DataW H),p)):cs=L.map Value.string:=by
 cases fuel with
 | zero=>simp [DataW.trod] at h
 | succ fuel =>
  simp only [DataW.trod,ht,hce,hct,Nat.mul_one] at h
  split at h
  ·rename_i hl
   obtain ⟨xs,hm,hx⟩:=Option.map_eq_some_iff.1 h
   have hxs:xs.map (·.1)=(strs L:List (DataW H)):=by
    have:=congrArg Prod.fst hx
    simpa using this
   have hxl:xs.length=n:=by simpa using Lib.mapM_length hm
   have hzl:L.length=n:=by
    have:=congrArg List.length hxs
    simp [strs] at this
    omega
   apply List.ext_getElem?
   intro i
   by_cases hi:i < n
   ·obtain ⟨b,hb,hf⟩:=Lib.mapM_at hm i i (by simp [hi])
    obtain ⟨z,hc,rfl,_⟩:=DataW.trod_string he hf
    have h1:cs[i]?=some (.string z):=by
     have:=congrArg (·[0]?) hc
     simpa [List.getElem?_take,List.getElem?_drop] using this
    have h2:(xs.map (·.1))[i]?=some (DataW.lit (.string z.data.toList):DataW H):=by simp [hb]
    rw [hxs] at h2
    simp only [strs,List.getElem?_map,Option.map_eq_some_iff,DataW.lit.injEq,Lit.string.injEq] at h2
    obtain ⟨z',hz',e⟩:=h2
    have e2:z'=z:=by
     cases z; cases z'
     simp only at e
     congr 1
     exact Array.ext' e
    subst e2
    simp [h1,hz']
   ·rw [List.getElem?_eq_none (by omega),List.getElem?_eq_none (by simp; omega)]
  ·cases h
theorem gv_of_var {W:World} {name:String} {g:Nat} {cs:Array Value} {row:List C} (hg:P.globalNamed name=some g) (hvar:W.var? P name=some cs) (hr:RdRow W (fun _=>False) row cs.toList):GV W (fun _=>False) g row:=by
 unfold World.var? at hvar
 rw [hg] at hvar
 simp only [Option.bind_some] at hvar
 split at hvar
 ·rename_i cs' t f hh
  cases hvar
  exact ⟨id,_,t,f,hh,hr⟩
 ·cases hvar
end
theorem rdRow_strs {W:World} {A:Nat→Prop}:∀ L:List ByteArray,RdRow W A (L.map (fun s=>.val (.string s))) (L.map Value.string)
 | []=>rfl
 | s :: L=>⟨.string s,_,rfl,⟨rfl,rfl⟩,rdRow_strs L⟩
section
variable {H:Type} {enc:TypeId × Value→H} {P:Program}
end
end Go.Vc
end
section
namespace Go.Vc
open Go.RowKit Go.ChangeShapes Go.WideShapes
section
variable {H:Type} {enc:TypeId × Value→H} {P:Program}
theorem args_stay (hl:laidOutB P=true) {W W':World} (hb:Below W.heap.size W W'):∀ {ts:List TypeId} {vs:List Value} {ds:List (DataW H)} {ps:List MemPlace},ts.all (fun t=>P.readableRec t && decide (t < P.types.size))=true →
 DataW.TrodAll enc P W 0 (fun _=>true) true ts vs ds ps→(∀ p ∈ ps,p.block < W.heap.size)→DataW.TrodAll enc P W' 0 (fun b=>decide (b < W.heap.size)) true ts vs ds ps
 | [],vs,ds,ps,_,h,_=>by
  obtain ⟨rfl,rfl,rfl⟩:=trodAll_nil h
  rfl
 | t :: ts,vs,ds,ps,hr,h,hlt=>by
  simp only [List.all_cons,Bool.and_eq_true,decide_eq_true_eq] at hr
  obtain ⟨⟨h1,h2⟩,h3⟩:=hr
  obtain ⟨v,vr,d,dr,p,q,rfl,rfl,rfl,g1,g2⟩:=trodAll_cons h
  exact ⟨p,q,Below.trod hl h1 h2 g1 hb (fun x hx=>hlt x (List.mem_append.2 (.inl hx))),args_stay hl hb h3 g2 (fun x hx=>hlt x (List.mem_append.2 (.inr hx))),rfl⟩
theorem law_post {f:Func} {s:ChangeSpec} {W W':World} {args:Array Value} {ds:List (DataW H)} {before:List MemPlace} {bt:TypeId} (hv:s.vars=[]) (hW:DataW.Whole enc P f.params.toList s.vars false W args.toList ds [] before)
 (hr:(s.fn H (ds ++ [])).results=[.lit (.bool true)]) (ha:(s.fn H (ds ++ [])).args=ds) (hg:(s.fn H (ds ++ [])).vars=[]) (hrt:f.resultTypes=#[bt]) (hbt:P.underlying bt=some .bool)
 (hl:laidOutB P=true) (hrd:f.params.toList.all (fun t=>P.readableRec t && decide (t < P.types.size))=true) (hb:Below W.heap.size W W'):s.post enc P f false true false false W args (.bool true) W':=by
 have hlt:=hW.lt
 have hW':=hW
 obtain ⟨p,q,hA,hV,rfl,_,_⟩:=hW'
 rw [hv] at hV
 obtain ⟨_,rfl⟩:=trodVars_none hV
 refine ⟨ds,[],p ++ [],[],p,[],hW,?_,?_,?_,World.keptBut_mono (fun x hx=>⟨hx,.inr (.inl (by simpa using hx))⟩) (hb.frame (· ∈ p ++ [])),fun h=>by cases h⟩
 ·rw [hr,hrt]
  exact trodAll_mk1 (shut_bool hbt _)
 ·rw [ha]
  exact args_stay hl hb hrd hA (fun x hx=>hlt x (by simpa using hx))
 ·rw [hg,hv]
  rfl
theorem rd_ints {W:World} {t e:TypeId} {k:IntKind} (ht:P.underlying t=some (.slice e)) (he:P.underlying e=some (.int k)) (hc:P.cellsOf e=1) {v:Value} {d:DataW H} {ps:List MemPlace} (hs:∃ a len cap,v=.slice a len cap)
 (h:DataW.Trod enc P W 0 (fun _=>true) true t v d ps):∃ L:List Int,Rd1 W (fun _=>False) (.list (L.map (fun n=>[.val (.int k n)]))) v∧∀ n ∈ L,(Lit.int k n).wf=true:=by
 obtain ⟨a0,len0,cap0,rfl⟩:=hs
 obtain ⟨fuel,hf⟩:=h
 rcases open_ints ht he hc hf with ⟨hn,_⟩ | ⟨a,len,cap,zs,hcs,_,hle,hcap,hz,_,hcell,hwf⟩
 ·simp only [Value.cells,List.cons.injEq,Value.slice.injEq,and_true] at hn
  obtain ⟨rfl,rfl,rfl⟩:=hn
  exact ⟨[],⟨none,0,rfl,Nat.le_refl _,Nat.zero_le _,.inl rfl⟩,by simp⟩
 ·simp only [Value.cells,List.cons.injEq,Value.slice.injEq,and_true] at hcs
  obtain ⟨rfl,rfl,rfl⟩:=hcs
  simp only [if_true] at hz
  have hlen:(zs.take len0).length=len0:=by simp; omega
  refine ⟨zs.take len0,⟨some a,cap0,by rw [List.length_map,hlen],by rw [List.length_map,hlen]; exact hle,hcap,?_⟩,fun n hn=>hwf n (List.mem_of_mem_take hn)⟩
  by_cases h0:len0=0
  ·exact .inl (by rw [List.length_map,hlen]; exact h0)
  ·have h1:=hcell 0 (by omega)
   have hsp:a.spot=none:=by simpa [Addr.add] using World.cell?_spot h1
   obtain ⟨b,off,sp⟩:=a
   simp only at hsp
   subst hsp
   refine .inr ⟨b,off,(zs.take len0).map (Value.int k),1,rfl,id,?_,Nat.one_pos,?_⟩
   ·intro j u hj
    rw [List.getElem?_map,Option.map_eq_some_iff] at hj
    obtain ⟨z,hz1,rfl⟩:=hj
    rw [List.getElem?_take] at hz1
    split at hz1
    ·have hjl:j < zs.length:=by omega
     have:=hcell j hjl
     rw [add_at] at this
     rw [this]
     congr 2
     rw [List.getD_eq_getElem?_getD,hz1]
     rfl
    ·cases hz1
   ·generalize zs.take len0=L
    induction L with
    | nil=>rfl
    | cons n L ih=>exact ⟨[.int k n],L.map (Value.int k),rfl,rfl,⟨_,_,rfl,⟨rfl,rfl⟩,rfl⟩,ih⟩
theorem con_run [Gl P] {f:FuncId} {ss:List S} {vs:List Value} {W:World} (con:Con P f ss [] (fun K=>K (Bl true) [])) (hs:SOks W (fun _=>False) ss vs) (hgl:Gl.ok P W (fun _=>False):=by exact trivial):Calls P f vs.toArray W (fun e W'=>e=.returned (.bool true)∧Below W.heap.size W W'):=by
 refine (con vs W (fun _=>False) (fun _ h=>h.elim) (by simp [hb]) (by simp [hb]) hs (by simp) hgl).mono ?_
 rintro e W' ⟨v,s,Ho,rfl,hK,hv,_,_,_,hg⟩
 obtain ⟨rfl,rfl⟩:=hK (fun s' H'=>s'=Bl true∧H'=[]) ⟨rfl,rfl⟩
 obtain ⟨rfl,_⟩:=hv
 exact ⟨rfl,hg.os,hg.tape,hg.output,hg.size,fun k hk=>hg.block k hk (by simp [hb])⟩
end
end Go.Vc
end
section
namespace Go.Proofs.YtalkkcfojplmdaaGreatDoor
open Go.ChangeShapes Go.WideShapes Go.ChangeAt Go.RowKit Go.Vc Go.Joins Go.Deep
theorem own:ownKnob Tryz.prog.godebug=none:=by kernel_rfl
theorem laidOut:laidOutB Tryz.prog=true:=by kernel_rfl
theorem cells3:Tryz.prog.cellsOf 3=1:=by kernel_rfl
theorem cellsS:Tryz.prog.cellsOf 9=1:=by kernel_rfl
theorem gTab:Tryz.prog.globalNamed "internal/strconv.uint64pow10"=some 3:=by kernel_rfl
theorem gTabType:(Tryz.prog.globals[3]?).map (·.type)=some 239:=by kernel_rfl
theorem cellsTab:Tryz.prog.cellsOf 239=20:=by kernel_rfl
theorem cellsU64:Tryz.prog.cellsOf 202=1:=by kernel_rfl
theorem tabData_eq:(Rows.laid_internal_strconv_uint64pow10:DataW Unit)=Lib.tabData .u64 Lib.pow10Tab:=by kernel_rfl
theorem wordsData_eq:(Rows.laid_timebound_tree_words:DataW Unit)=.slice (strs words) []:=by kernel_rfl
theorem signsData_eq:(Rows.laid_timebound_tree_signs:DataW Unit)=.agg (strs signL):=by kernel_rfl
theorem gWords:Tryz.prog.globalNamed "timebound/tree.words"=some 0:=by kernel_rfl
theorem gWordsType:(Tryz.prog.globals[0]?).map (·.type)=some 27:=by kernel_rfl
theorem gSigns:Tryz.prog.globalNamed "timebound/tree.signs"=some 1:=by kernel_rfl
theorem gSignsType:(Tryz.prog.globals[1]?).map (·.type)=some 230:=by kernel_rfl
theorem cellsSigns:Tryz.prog.cellsOf 230=14:=by kernel_rfl
theorem gl_of {W:World} (h:laidMetH Tryz.prog Rows.evalCountsRow.laid W):Gl.ok Tryz.prog W (fun _=>False):=by
 have h1:laidMet Tryz.prog Rows.evalCountsRow.laid W:=h
 have h2:=laidMet.tail (laidMet.tail h1)
 have h3:=laidMet.tail h2
 have h4:=laidMet.tail h3
 rw [tabData_eq] at h2
 rw [wordsData_eq] at h3
 rw [signsData_eq] at h4
 refine ⟨⟨3,gTab,id,Lib.tabIs_of_head gTab gTabType Tryz.underlying239 Tryz.underlying202 cellsU64 cellsTab h2⟩,?_,?_⟩
 ·obtain ⟨ps,⟨g',t',cs,fuel,p,q,hg',ht',hvar,hd,_,_⟩,_⟩:=h3
  obtain rfl:=Option.some.inj (gWords.symm.trans hg')
  obtain rfl:=Option.some.inj (gWordsType.symm.trans ht')
  obtain ⟨v,hcs,hr⟩:=rd_strings Tryz.underlying27 Tryz.underlying9 cellsS (by decide) hd
  exact gv_of_var gWords hvar (by rw [hcs]; exact ⟨v,[],rfl,hr,rfl⟩)
 ·obtain ⟨ps,⟨g',t',cs,fuel,p,q,hg',ht',hvar,hd,_,_⟩,_⟩:=h4
  obtain rfl:=Option.some.inj (gSigns.symm.trans hg')
  obtain rfl:=Option.some.inj (gSignsType.symm.trans ht')
  have e:=cells_of_strs Tryz.underlying230 Tryz.underlying9 cellsS cellsSigns hd
  exact gv_of_var gSigns hvar (by rw [e]; exact rdRow_strs signL)
noncomputable def laidWorld (os:Os):World:=World.doorLaid Tryz.prog 400 os
theorem laid_met (os:Os) (args:Array Value):laidMet Tryz.prog Rows.evalCountsRow.laid ((laidWorld os).forCall (fun _ _=>0) ⟨#[],args,[]⟩).memory :=
 laidMet_of_run' 8 (by kernel_rfl) (by kernel_rfl)
end Go.Proofs.YtalkkcfojplmdaaGreatDoor
end