import Derived.Test.YtalkkcfojplmdaaGreatDoorMy1
import Derived.Lib.SliceRun
import Derived.Laws.OwnMore
import Derived.Laws.StructEq
import Derived.OrdersHeld
import Derived.Recover
import Derived.KernelRfl
import Derived.Lib.AppendStr
import Derived.Lib.AppendZerosOnto
import Derived.Lib.Builder
import Derived.Lib.UnsafeStr
import Derived.Laws.Externs
section
namespace Go.Vc
open Go.RowKit
theorem rdRows_store {w:World} {A:Nat→Prop} {k:Nat} {r:List C} {rv:List Value} {o:Nat} (hr:RdRow w A r rv) (hle:o+r.length≤k):∀ {rows:List (List C)} {vs:List Value} {i:Nat} {row:List C},RdRows w A k rows vs→rows[i]?=some row →
 RdRows w A k (rows.set i (row.take o ++ r ++ row.drop (o+r.length))) (vs.take (i * k+o) ++ rv ++ vs.drop (i * k+o+rv.length))
 | [],_,_,_,_,h=>by simp at h
 | r0 :: rows,vs,i,row,h,hi=>by
  have hl:=rdRow_length hr
  obtain ⟨c0,rest,rfl,h1,h2,h3⟩:=h
  cases i with
  | zero =>
   simp only [List.getElem?_cons_zero,Option.some.injEq] at hi
   subst hi
   refine ⟨c0.take o ++ rv ++ c0.drop (o+rv.length),rest,?_,?_,?_,h3⟩
   ·rw [Nat.zero_mul,Nat.zero_add,List.take_append_of_le_length (by omega),List.drop_append_of_le_length (by omega)]
    simp
   ·simp only [List.length_append,List.length_take,List.length_drop]; omega
   ·rw [hl]
    exact rdRow_append (rdRow_append (rdRow_take o h2) hr) (rdRow_drop _ h2)
  | succ i =>
   have ih:=rdRows_store (o:=o) hr hle h3 (show rows[i]?=some row by simpa using hi)
   refine ⟨c0,_,?_,h1,h2,ih⟩
   have e1:(i+1) * k+o=c0.length+(i * k+o):=by rw [Nat.add_mul,h1]; omega
   rw [e1,List.take_length_add_append,show c0.length+(i * k+o)+rv.length=c0.length+(i * k+o+rv.length) by omega,List.drop_length_add_append]
   simp
theorem store_lists {α:Type} (cur rv:List α) (n off len:Nat) (hl:rv.length=len) (h1:off+len≤n) (h2:n≤cur.length) :
 (cur.take off ++ rv ++ cur.drop (off+len)).length=cur.length∧(cur.take off ++ rv ++ cur.drop (off+len)).take n=(cur.take n).take off ++ rv ++ (cur.take n).drop (off+len):=by
 constructor
 ·simp only [List.length_append,List.length_take,List.length_drop]; omega
 ·rw [List.append_assoc,List.append_assoc,List.take_append,List.take_append,List.take_take,List.take_take,List.length_take,List.drop_take,show min n off=off by omega,show min off n=off by omega,show min off cur.length=off by omega,List.take_of_length_le (show rv.length≤n - off by omega),hl,show n - off - len=n - (off+len) by omega]
section
variable {P:Program} [Gl P] {nt:Nat} {c:Cx P nt} {env:Env} {H:List Ch} {K:S→List Ch→Prop}
variable {d:Option Tmp} {ty t t':TypeId} {pos:String} {af:Array Edge} {g:Option (Nat × Bool)} {x y:Operand}
theorem ow_storeInn [TI P t] {v:Value} {e:TypeId} {k off:Nat} {rows:List (List C)} {Hr:List Ch} {row r row':List C} {s:S} (j i o:Nat) (hx:env.ev x=some (.cell (.inn v off))) (hy:env.ev y=some s) (hs:s.cells=some r) (hp:pick [j] H=some ([.own v e k rows],Hr)) (hoff:off=i * k+o)
 (hi:rows[i]?=some row) (hz:(TI.i P t).size=r.length) (hle:o+r.length≤k) (hrow:row.take o ++ r ++ row.drop (o+r.length)=row') (hK:K .void (.own v e k (rows.set i row') :: Hr)):OpWp c ⟨d,.store t x y,ty,pos,af,g⟩ env H K:=by
 intro a w h next Q hn
 have hperm:=pick_perm hp
 have h':StW c (.own v e k rows :: Hr) w:=h.heap.perm hperm
 have hav:c.av (.own v e k rows :: Hr)=c.av H:=av_perm c hperm
 obtain ⟨b,n,cap,hv,hxe⟩:=ev_ok h hx
 subst hv
 obtain ⟨vs,ho,hr,hk⟩:=h'.ok (.own (.slice (some ⟨b,0,none⟩) n cap) e k rows) (by simp)
 have hlen:=ho.1
 have hilt:i < rows.length:=(List.getElem?_eq_some_iff.1 hi).1
 have hmul:i * k+k≤rows.length * k:=by
  have:=Nat.mul_le_mul_right k (show i+1≤rows.length by omega)
  rwa [Nat.add_mul,Nat.one_mul] at this
 rcases ho.2 with ⟨hno,_⟩ | ⟨b',cap',cur,hve,_,hh,g3,g4,g5,g6⟩
 ·cases hno
 ·have hbc:b'=b∧cap'=cap:=by simp only [Value.slice.injEq,Option.some.injEq,Addr.mk.injEq] at hve; exact ⟨hve.1.1.symm,hve.2.2.symm⟩
  obtain ⟨rfl,rfl⟩:=hbc
  have hcv:=cells_ok (ev_ok h hy) hs
  rw [← hav] at hcv
  have hlr:=rdRow_length hcv
  have hcs:rows.length * k≤cap' * k:=Nat.mul_le_mul_right k g3
  have hst:=run_storeCells_at P b' off e (a.eval y).cells.toList 0 cur w hh (by simp only [Nat.add_zero,hlr]; omega) (rdRow_one hcv)
  simp only [Nat.add_zero] at hst
  have hrun:(execOp a.eval ⟨d,.store t x y,ty,pos,af,g⟩).run P w=.ok .skip (w.setRow b' (cur.toList.take off ++ (a.eval y).cells.toList ++ cur.toList.drop (off+r.length)).toArray):=by
   have hsz:¬ (a.eval y).cells.size≠(TI.i P t).size:=by rw [hz,← hlr]; simp
   simp only [execOp,hxe,Instr.storeAt,Instr.sureAddr,storeVar,Sem.run_bind,Sem.run_pure,Result.andThen_ok,run_sizeOf,if_neg hsz,hst]
   simp [hlr]
  have hg:Grow (hb [.own (.slice (some ⟨b',0,none⟩) n cap') e k rows]) w (w.setRow b' (cur.toList.take off ++ (a.eval y).cells.toList ++ cur.toList.drop (off+r.length)).toArray):=setRow_grow w b' _
  have hnew:=rdRows_store (o:=o) hcv hle hr hi
  rw [hrow,← hoff,hlr] at hnew
  obtain ⟨s1,s2⟩:=StW.step (H1:=[.own (.slice (some ⟨b',0,none⟩) n cap') e k rows]) (H1':=[.own (.slice (some ⟨b',0,none⟩) n cap') e k (rows.set i row')]) h' hg (fun b hb=>.inl hb) (by simp [hb,Ch.bs,Value.ownBlock]) (by
   intro ch hch
   simp only [List.mem_singleton] at hch
   subst hch
   obtain ⟨q1,q2⟩:=store_lists cur.toList (a.eval y).cells.toList (rows.length * k) off r.length hlr (by omega) (by show rows.length * k≤cur.size; rw [g5]; exact hcs)
   refine ⟨_,⟨?_,.inr ⟨b',cap',_,?_,Nat.zero_le _,setRow_heap w b' _ _ e _ hh,?_,g4,?_,?_⟩⟩,rdRows_up (A:=c.av (.own (.slice (some ⟨b',0,none⟩) n cap') e k rows :: Hr)) (hg.up ?_) (fun b hb=>.inl hb) k _ _ hnew,hk⟩
   ·simp only [List.length_append,List.length_take,List.length_drop,List.length_set]; omega
   ·rw [List.length_set]; exact hve
   ·rw [List.length_set]; exact g3
   ·rw [List.size_toArray,q1]
    exact g5
   ·rw [List.length_set,← g6]
    exact q2
   ·intro b hb'
    exact .inr (List.mem_append.2 (.inl hb')))
  unfold Oper.wp
  rw [hrun]
  exact hn .void _ undef _ hK s1 trivial (fun s v hs=>s2 s v (by rw [List.singleton_append,hav]; exact hs))
theorem ow_storeInnAll [TI P t] {v:Value} {e:TypeId} {k off:Nat} {rows:List (List C)} {Hr:List Ch} {row r:List C} {s:S} (j i:Nat) (hx:env.ev x=some (.cell (.inn v off))) (hy:env.ev y=some s) (hs:s.cells=some r) (hp:pick [j] H=some ([.own v e k rows],Hr)) (hoff:off=i * k)
 (hi:rows[i]?=some row) (hlen:row.length=k) (hz:(TI.i P t).size=r.length) (hk:r.length=k) (hK:K .void (.own v e k (rows.set i r) :: Hr)):OpWp c ⟨d,.store t x y,ty,pos,af,g⟩ env H K :=
 ow_storeInn j i 0 hx hy hs hp (by omega) hi hz (by omega) (by rw [Nat.zero_add,List.take_zero,List.drop_of_length_le (by omega)]; simp) hK
end
end Go.Vc
end
section
namespace Go.Vc
section
variable {α:Type}
def sw (l:List α) (i j:Nat):List α:=match l[i]?,l[j]? with
 | some x,some y=>(l.set i y).set j x
 | _,_=>l
theorem sw_eq {l:List α} {i j:Nat} (hi:i < l.length) (hj:j < l.length):sw l i j=(l.set i l[j]).set j l[i]:=by
 unfold sw
 rw [List.getElem?_eq_getElem hi,List.getElem?_eq_getElem hj]
theorem sw_len (l:List α) (i j:Nat):(sw l i j).length=l.length:=by
 unfold sw
 split <;> simp
theorem sw_get {l:List α} {i j:Nat} (hi:i < l.length) (hj:j < l.length) (p:Nat):(sw l i j)[p]?=l[if p=i then j else if p=j then i else p]?:=by
 rw [sw_eq hi hj,List.getElem?_set,List.getElem?_set,List.length_set]
 by_cases h1:j=p
 ·subst h1
  by_cases h2:j=i
  ·subst h2; simp [hi]
  ·simp [h2,hj,List.getElem?_eq_getElem hi]
 ·by_cases h2:i=p
  ·subst h2; simp [h1,hi,List.getElem?_eq_getElem hj]
  ·rw [if_neg h1,if_neg h2,if_neg (fun h=>h2 h.symm),if_neg (fun h=>h1 h.symm)]
theorem sw_perm {l:List α} {i j:Nat} (hi:i < l.length) (hj:j < l.length):(sw l i j).Perm l:=by
 rw [sw_eq hi hj]
 exact List.set_set_perm hi hj
structure Mv (a b:Nat) (l l':List α):Prop where
 len:l'.length=l.length
 perm:l'.Perm l
 out:∀ p,p < a ∨ b≤p→l'[p]?=l[p]?
 inn:∀ p,a≤p→p < b→∃ q,a≤q∧q < b∧l'[p]?=l[q]?
theorem Mv.refl (a b:Nat) (l:List α):Mv a b l l:=⟨rfl,.refl _,fun _ _=>rfl,fun p h1 h2=>⟨p,h1,h2,rfl⟩⟩
theorem Mv.trans {a b:Nat} {l l' l'':List α} (h:Mv a b l l') (h':Mv a b l' l''):Mv a b l l'' :=
 ⟨h'.len.trans h.len,h'.perm.trans h.perm,fun p hp=>(h'.out p hp).trans (h.out p hp),fun p h1 h2=>by
  obtain ⟨q,g1,g2,e⟩:=h'.inn p h1 h2
  obtain ⟨r,k1,k2,e2⟩:=h.inn q g1 g2
  exact ⟨r,k1,k2,e.trans e2⟩⟩
theorem Mv.mono {a b a' b':Nat} {l l':List α} (h:Mv a b l l') (ha:a'≤a) (hb:b≤b'):Mv a' b' l l' :=
 ⟨h.len,h.perm,fun p hp=>h.out p (by omega),fun p h1 h2=>by
  by_cases hp:a≤p∧p < b
  ·obtain ⟨q,g1,g2,e⟩:=h.inn p hp.1 hp.2
   exact ⟨q,by omega,by omega,e⟩
  ·exact ⟨p,h1,h2,h.out p (by omega)⟩⟩
theorem Mv.sw {a b:Nat} {l:List α} {i j:Nat} (hb:b≤l.length) (hi:a≤i∧i < b) (hj:a≤j∧j < b):Mv a b l (sw l i j):=by
 have h1:i < l.length:=by omega
 have h2:j < l.length:=by omega
 refine ⟨sw_len _ _ _,sw_perm h1 h2,fun p hp=>?_,fun p g1 g2=>⟨_,?_,?_,sw_get h1 h2 p⟩⟩
 ·rw [sw_get h1 h2,if_neg (by omega),if_neg (by omega)]
 ·split
  ·omega
  ·split <;> omega
 ·split
  ·omega
  ·split <;> omega
variable (key:α→Int)
def kk (l:List α) (p:Nat):Int:=(l[p]?.map key).getD 0
theorem kk_eq {l l':List α} {p q:Nat} (h:l'[p]?=l[q]?):kk key l' p=kk key l q:=by
 unfold kk
 rw [h]
def So (l:List α) (a b:Nat):Prop:=∀ p q,a≤p→p≤q→q < b→kk key l p≤kk key l q
theorem So.sub {l:List α} {a b a' b':Nat} (h:So key l a b) (ha:a≤a') (hb:b'≤b):So key l a' b':=fun p q h1 h2 h3=>h p q (by omega) h2 (by omega)
theorem So.out {l l':List α} {a b x y:Nat} (h:So key l a b) (hm:Mv x y l l') (hd:b≤x ∨ y≤a):So key l' a b:=fun p q h1 h2 h3=>by
 rw [kk_eq key (hm.out p (by omega)),kk_eq key (hm.out q (by omega))]
 exact h p q h1 h2 h3
end
end Go.Vc
end
section
namespace Go.Vc
section
variable {α:Type} (key:α→Int)
end
end Go.Vc
end
section
namespace Go.Vc
open Go.RowKit
theorem rdRows_zeros {w:World} {A:Nat→Prop} {z:Array Value} {k:Nat} (hk:z.size=k) (h1:∀ v ∈ z.toList,v.oneCell'=true):∀ n:Nat,RdRows w A k (List.replicate n (z.toList.map C.val)) ((List.range (n * k)).map fun i=>z[i % z.size]!)
 | 0=>by simp [RdRows]
 | n+1=>by
  have ih:=rdRows_zeros (w:=w) (A:=A) hk h1 n
  rw [show (n+1) * k=k+n * k by rw [Nat.add_mul]; omega,List.range_add,List.map_append]
  refine ⟨_,_,rfl,by simp,?_,?_⟩
  ·have e:(List.range k).map (fun i=>z[i % z.size]!)=z.toList:=by
    apply List.ext_getElem?
    intro j
    by_cases hj:j < k
    ·have hj':j < z.size:=by omega
     rw [List.getElem?_map,List.getElem?_range hj]
     simp [Nat.mod_eq_of_lt hj',hj']
    ·rw [List.getElem?_eq_none (by simp; omega),List.getElem?_eq_none (by simp; omega)]
   rw [e]
   exact rdRow_zero _ h1
  ·rw [List.map_map]
   have e:((fun i=>z[i % z.size]!) ∘ fun x=>k+x)=fun i=>z[i % z.size]!:=by
    funext i
    simp only [Function.comp]
    rw [← hk,Nat.add_mod_left]
   rw [e]
   exact ih
section
variable {P:Program} [Gl P] {nt:Nat} {c:Cx P nt} {env:Env} {H:List Ch} {K:S→List Ch→Prop}
variable {d:Option Tmp} {ty t t':TypeId} {pos:String} {af:Array Edge} {g:Option (Nat × Bool)} {x y:Operand}
theorem ow_makeSliceOwn [SL P t] {z:Value} (n:Nat) (hz:(TI.i P (SL.e P t)).zero=some z) (h1:z.cells.toList.all Value.oneCell'=true) (hsz:(TI.i P (SL.e P t)).size=z.cells.size) (hpos:0 < z.cells.size) {kl kc:IntKind}
 (hx:env.ev x=some (In kl (n:Int))) (hy:env.ev y=some (In kc (n:Int))) (hcells:n * z.cells.size≤16777216) (hlim:(TI.i P (SL.e P t)).bytes * n≤281474976710656) (hmax:n≤140737488351232)
 (hK:∀ v,v.oneCell'=true→c.Fresh v→K (.cell (.val v)) (.own v (SL.e P t) z.cells.size (List.replicate n (zeroRow z)) :: H)):OpWp c ⟨d,.makeSlice t x y,ty,pos,af,g⟩ env H K:=by
 intro a w h next Q hn
 obtain ⟨w',hrun,ho,hg⟩:=run_makeSlice_full (P:=P) w 0 t (SL.e P t) _ z z.cells.size SL.hs TI.hi hz hsz kl kc n hcells hlim (by unfold maxLen; omega) (Nat.zero_le _)
 have hgr:Grow (hb []) w w':=by simpa [hb] using Grow.of_grownBy hg
 have h':StW c ([] ++ H) w:=h.heap
 have hav:∀ b,c.av (.own (.slice (some ⟨w.heap.size,0,none⟩) n n) (SL.e P t) z.cells.size (List.replicate n (zeroRow z)) :: H) b→c.av H b ∨ w.heap.size≤b:=by
  intro b hb'
  rcases hb' with hb' | hb'
  ·exact .inl (.inl hb')
  ·rw [hb_cons] at hb'
   rcases List.mem_append.1 hb' with hb' | hb'
   ·simp only [Ch.bs,Value.ownBlock,Option.mem_toList,Option.some.injEq] at hb'
    exact .inr (by omega)
   ·exact .inl (.inr hb')
 obtain ⟨s1,s2⟩:=StW.step (H1':=[.own (.slice (some ⟨w.heap.size,0,none⟩) n n) (SL.e P t) z.cells.size (List.replicate n (zeroRow z))]) h' hgr (by simp [hb,Ch.bs,Value.ownBlock]) (by simp [hb,Ch.bs,Value.ownBlock]) (by
  intro ch hch
  simp only [List.mem_singleton] at hch
  subst hch
  refine ⟨_,by rw [List.length_replicate]; exact ho,?_,hpos⟩
  have e:(madeCells z.cells (n * z.cells.size)).toList=(List.range (n * z.cells.size)).map fun i=>z.cells[i % z.cells.size]!:=by simp [madeCells]
  rw [e]
  exact rdRows_up (A:=c.av H) (hgr.up (by simp [hb])) hav _ _ _ (rdRows_zeros O (List.all_eq_true.1 h1) n))
 unfold Oper.wp
 have hex:(execOp a.eval ⟨d,.makeSlice t x y,ty,pos,af,g⟩).run P w=.ok (.value (.slice (some ⟨w.heap.size,0,none⟩) n n)) w':=by
  simp only [execOp,ev_val h hx,ev_val h hy,Sem.run_bind,hrun,Result.andThen_ok,Sem.run_pure]
 rw [hex]
 exact hn _ _ _ _ (hK _ O (fun b hb=>by simp only [Value.ownBlock,Option.some.injEq] at hb; have:=h.heap.size; omega)) s1 ⟨rfl,rfl⟩ s2
end
end Go.Vc
end
section
namespace Go.Vc
open Go.RowKit
section
variable {P:Program} [Gl P] {nt:Nat} {c:Cx P nt} {env:Env} {H:List Ch} {K:S→List Ch→Prop}
variable {d:Option Tmp} {ty t t':TypeId} {pos:String} {af:Array Edge} {g:Option (Nat × Bool)} {x y:Operand}
structure Two (P:Program) (t:TypeId) (u:TypeId) (k:IntKind):Prop where
 ht:P.underlying t=some (.struct (P.fieldsOf t))
 hp:P.stoodInHeld t=false
 hm:P.eqGuardType P.depth t=false
 hf:∃ f0 f1,(P.fieldsOf t).toList=[f0,f1]∧f0.name≠"_"∧f1.name≠"_"∧f0.offset=0∧f1.offset=1∧f0.type=u∧f1.type=u
 hu:P.underlying u=some (.int k)
end
end Go.Vc
end
section
namespace Go.Vc
open Go.RowKit
def Keep (L:List (Nat × List Value × TypeId)) (w:World):Prop:=∀ p ∈ L,w.heap[p.1]?=some (.cells p.2.1.toArray p.2.2 (0,0))
theorem rdRow_vals {w:World} {A:Nat→Prop}:∀ {vs cs:List Value},RdRow w A (vs.map C.val) cs→cs=vs
 | [],_,h=>h
 | v :: vs,_,h=>by
  obtain ⟨x,r,rfl,g1,g2⟩:=h
  rw [g1.1,rdRow_vals g2]
theorem rdRow_exact {w w':World} {A A':Nat→Prop} {row:List C} {cs:List Value} (h:RdRow w A row cs):RdRow w' A' (cs.map C.val) cs:=by
 have h1:=rdRow_one h
 clear h
 induction cs with
 | nil=>rfl
 | cons v vs ih=>exact ⟨v,vs,rfl,⟨rfl,h1 v (by simp)⟩,ih (fun u hu=>h1 u (by simp [hu]))⟩
section
variable {P:Program} [Gl P] {nt:Nat} {c:Cx P nt} {env:Env} {H Hr:List Ch} {ops:Array Oper} {Q:Exit→Act→World→Prop} {Sw:World→Prop} {L:List (Nat × List Value × TypeId)}
variable {fuel:Nat} {listed:Array Bool} {d ty t t':TypeId} {pos:String} {af:Array Edge} {x y:Operand}
def HOk (c:Cx P nt) (Sw:World→Prop) (env:Env) (H:List Ch) (o:Oper) (s:S):Prop :=
 ∀ a w,St c env H a w→Sw w→∃ v,(∀ w',Sw w'→(execOp a.eval o).run P w'=.ok (.value v) w')∧SOk w (c.av H) s v
theorem keep_of (h:∀ p ∈ L,Ch.blk p.1 p.2.2 (p.2.1.map C.val) ∈ H):∀ w,StW c H w→Keep L w:=by
 intro w hw p hp
 obtain ⟨cs,g1,g2⟩:=hw.ok _ (h p hp)
 rw [rdRow_vals g2] at g1
 exact g1
theorem keep_of2 {b1 b2:Nat} {t1 t2:TypeId} {cs1 cs2:List Value} (h1:Ch.blk b1 t1 (cs1.map C.val) ∈ H) (h2:Ch.blk b2 t2 (cs2.map C.val) ∈ H):∀ w,StW c H w→Keep [(b1,cs1,t1),(b2,cs2,t2)] w :=
 keep_of (fun p hp=>by
  rcases List.mem_cons.1 hp with rfl | hp
  ·exact h1
  ·obtain rfl:=List.mem_singleton.1 hp
   exact h2)
theorem hok_move {d:Option Tmp} {s:S} (hx:env.ev x=some s):HOk c Sw env H ⟨d,.move x,ty,pos,af,none⟩ s :=
 fun a _ hst _=>⟨a.eval x,fun _ _=>rfl,ev_ok hst hx⟩
theorem hok_add {d:Option Tmp} {m n:Int} (hx:env.ev x=some (In .i64 m)) (hy:env.ev y=some (In .i64 n)) (hb:-9223372036854775808≤m+n∧m+n≤9223372036854775807):HOk c Sw env H ⟨d,.binOp .add t x y t',ty,pos,af,none⟩ (In .i64 (m+n)) :=
 fun _ _ hst _=>⟨.int .i64 (m+n),fun _ _=>by simp [execOp,ev_val hst hx,ev_val hst hy,eqGuard,binOp,Op.intArith,IntWalk.i64_in _ hb],rfl,rfl⟩
theorem hok_extract {d:Option Tmp} {l:List S} {i:Nat} {s:S} (hx:env.ev x=some (.tup l)) (hi:l[i]?=some s):HOk c Sw env H ⟨d,.extract x i,ty,pos,af,none⟩ s :=
 fun _ _ h _=>by
  obtain ⟨vs,he,hs⟩:=ev_ok h hx
  obtain ⟨v,hv,hr⟩:=soks_get hs hi
  have hv':vs.toArray[i]?=some v:=by simpa using hv
  exact ⟨v,fun _ _=>by simp only [execOp,he,Instr.extract,hv',Sem.run_bind,Sem.run_pure,Result.andThen_ok],hr⟩
theorem hok_fieldAddr {d:Option Tmp} {b o f off size:Nat} [TI P t] [TS P t] (hs:structB (TI.u P t)=true) (hx:env.ev x=some (.cell (.val (.pointer (some ⟨b,o,none⟩))))) (hf:(TS.pl P t)[f]?=some (off,size)) (hz:0 < size) :
 HOk c Sw env H ⟨d,.fieldAddr t x f,ty,pos,af,none⟩ (.cell (.val (.pointer (some ⟨b,o+off,none⟩)))) :=
 fun _ _ hst _=>⟨.pointer (some ⟨b,o+off,none⟩),fun _ _=>by simp only [execOp,ev_val hst hx,Sem.run_bind,run_fieldAt t hs hf hz,Result.andThen_ok,Sem.run_pure],rfl,rfl⟩
theorem blk_keep {a:Act} {w:World} {b:Nat} {bt:TypeId} {row:List C} {cs:List Value} {is:List Nat} (hst:St c env H a w) (hp:pick is H=some ([.blk b bt row],Hr)) (hS:Keep L w) (hm:(b,cs,bt) ∈ L):RdRow w (c.av H) row cs:=by
 obtain ⟨cs',g1,g2⟩:=blk_ok hst hp
 have g3:=hS _ hm
 dsimp only at g3
 rw [g1] at g3
 obtain rfl:cs'=cs:=by simpa using g3
 exact g2
theorem hok_load {d:Option Tmp} {b o:Nat} {row:List C} {e:C} {bt:TypeId} {cs:List Value} [TI P t] (j:Nat) (ha:aggB (TI.u P t)=false) (hx:env.ev x=some (.cell (.val (.pointer (some ⟨b,o,none⟩))))) (hp:pick [j] H=some ([.blk b bt row],Hr))
 (hm:(b,cs,bt) ∈ L) (he:row[o]?=some e):HOk c (Keep L) env H ⟨d,.load t x,ty,pos,af,none⟩ (.cell e) :=
 fun _ _ hst hS=>by
  obtain ⟨v,hv,hrd⟩:=rdRow_get (blk_keep hst hp hS hm) he
  refine ⟨v,fun w' hS'=>?_,hrd⟩
  have hh:=hS' _ hm
  simp only [execOp,ev_val hst hx,Instr.loadAt,Instr.sureAddr,Sem.run_bind,Sem.run_pure,Result.andThen_ok,run_loadVar1 t ha (show w'.cell? ⟨b,o,none⟩=some v by simp [World.cell?,hh,hv])]
theorem hok_loadAll {d:Option Tmp} {b:Nat} {row:List C} {bt:TypeId} {cs:List Value} [TI P t] (j:Nat) (ha:aggB (TI.u P t)=true) (hx:env.ev x=some (.cell (.val (.pointer (some ⟨b,0,none⟩))))) (hp:pick [j] H=some ([.blk b bt row],Hr))
 (hm:(b,cs,bt) ∈ L) (hz:(TI.i P t).size=row.length):HOk c (Keep L) env H ⟨d,.load t x,ty,pos,af,none⟩ (.row row) :=
 fun _ _ hst hS=>by
  have hrd:=blk_keep hst hp hS hm
  refine ⟨.agg cs.toArray,fun w' hS'=>?_,cs.toArray,rfl,by simpa using hrd⟩
  have hh:=hS' _ hm
  simp only [execOp,ev_val hst hx,Instr.loadAt,Instr.sureAddr,Sem.run_bind,Sem.run_pure,Result.andThen_ok,run_loadVarN t ha (hz.trans (rdRow_length hrd).symm) (cells_of_blk hh 0)]
end
end Go.Vc
end
section
namespace Go.Vc
open Go.RowKit
section
variable {P:Program} [Gl P] {nt:Nat} {c:Cx P nt} {env:Env} {H:List Ch}
theorem st_chg {a:Act} {w:World} {j:Nat} {ch ch':Ch} {Hr:List Ch} (h:St c env H a w) (hp:pick [j] H=some ([ch],Hr)) (hb':ch'.bs=ch.bs) (hnew:Ch.ok w (c.av H) ch'):St c env (ch' :: Hr) a w:=by
 have h1:=h.perm (pick_perm hp)
 have hav:c.av (ch :: Hr)=c.av H:=av_perm c (pick_perm hp)
 have hbb:hb (ch' :: Hr)=hb (ch :: Hr):=by simp only [hb,List.flatMap_cons,hb']
 have hav':c.av (ch' :: Hr)=c.av H:=by rw [← hav]; funext b; unfold Cx.av; rw [hbb]
 refine ⟨h.size,h.defers,fun i s hi=>by rw [hav']; exact h.slots i s hi,h.heap.os,h.heap.tape,h.heap.output,h.heap.size,h.heap.block,?_,by rw [hbb]; exact h1.heap.nodup,by rw [hbb]; exact h1.heap.mine,by rw [hav']; exact h.heap.gl⟩
 intro ch2 hch
 rw [hav']
 rcases List.mem_cons.1 hch with rfl | hch
 ·exact hnew
 ·rw [← hav]
  exact h1.heap.ok ch2 (List.mem_cons_of_mem _ hch)
end
end Go.Vc
end
section
namespace Go.Vc
open Go.RowKit
section
variable {P:Program} [Gl P] {nt:Nat} {c:Cx P nt} {env:Env} {H:List Ch} {K:S→List Ch→Prop}
variable {d:Option Tmp} {ty t t':TypeId} {pos:String} {af:Array Edge} {g:Option (Nat × Bool)} {x y:Operand}
theorem ow_indexArr {b o n:Nat} {e:TypeId} {m:Int} [TI P t] [TI P e] (hu:TI.u P t=.array n e) (hx:env.ev x=some (.cell (.val (.pointer (some ⟨b,o,none⟩))))) (hy:env.ev y=some (In .i64 m)) (h0:0≤m) (hlt:m < (n:Int))
 (hK:K (.cell (.val (.pointer (some ⟨b,o+m.toNat * (TI.i P e).size,none⟩)))) H):OpWp c ⟨d,.indexAddr t x y,ty,pos,af,g⟩ env H K :=
 ow_valx rfl (fun a w h=>by
  have hu':(underlying t).run P w=.ok (.array n e) w:=by rw [run_underlying (TI.hu (P:=P) (t:=t)),hu]
  simp [execOp,ev_val h hx,ev_val h hy,Instr.indexAt,asIntOf,hu',Instr.sureAddr,h0,hlt,run_sizeOf,add_at]) hK
theorem rdRows_flat {w:World} {A:Nat→Prop} {k:Nat}:∀ {rows:List (List C)} {vs:List Value},RdRows w A k rows vs→RdRow w A rows.flatten vs
 | [],_,h=>h
 | _ :: _,_,⟨x,r,e,_,g1,g2⟩=>by subst e; exact rdRow_append g1 (rdRows_flat g2)
theorem ow_buildArr {n:Nat} {e:TypeId} [TI P t] [TI P e] (hu:TI.u P t=.array n e) {z:Value} (hz:(TI.i P t).zero=some z) {ps:Array (Nat × Operand)} {ss:List (Nat × S)} (hp:env.parts ps.toList=some ss) {rows:List (List C)}
 (hs:sliceRows (TI.i P e).size 0 ss=some rows) (hl:z.cells.toList.length=rows.length * (TI.i P e).size) (hK:K (.row rows.flatten) H):OpWp c ⟨d,.build t ps,ty,pos,af,g⟩ env H K :=
 ow_val (s:=.row rows.flatten) (fun a w h=>by
  obtain ⟨cs,g1,g2⟩:=fill_rows (pre:=[]) (post:=z.cells.toList) (parts_ok h hp) hs (by simp) hl
  refine ⟨.agg cs.toArray,?_,cs.toArray,rfl,by simpa using rdRows_flat g2⟩
  simp only [List.nil_append,Array.toArray_toList] at g1
  have hu':(underlying t).run P w=.ok (.array n e) w:=by rw [run_underlying (TI.hu (P:=P) (t:=t)),hu]
  simp only [execOp,Instr.build,Sem.run_bind,run_zeroValue t hz,hu',run_sizeOf,Result.andThen_ok,Array.toList_map,g1,Sem.run_pure]) hK
def GV (w:World) (A:Nat→Prop) (b:Nat) (row:List C):Prop:=¬ A b∧∃ cs t f,w.heap[b]?=some (.cells cs t f)∧RdRow w A row cs.toList
theorem GV.up {w w':World} {A A':Nat→Prop} {b:Nat} {row:List C} (hu:Up A w w') (hA:∀ b,A' b→A b ∨ w.heap.size≤b) (h:GV w A b row):GV w' A' b row:=by
 obtain ⟨h1,cs,t,f,h2,h3⟩:=h
 have hlt:b < w.heap.size:=(Array.getElem?_eq_some_iff.1 h2).1
 exact ⟨fun h=>(hA b h).elim h1 (by omega),cs,t,f,by rw [hu.block b hlt h1]; exact h2,rdRow_up hu hA _ _ h3⟩
theorem ow_loadG [TI P t] {b o:Nat} {row:List C} {e:C} (hg:∀ w A,Gl.ok P w A→GV w A b row) (ha:aggB (TI.u P t)=false) (hx:env.ev x=some (.cell (.val (.pointer (some ⟨b,o,none⟩))))) (he:row[o]?=some e) (hK:K (.cell e) H):OpWp c ⟨d,.load t x,ty,pos,af,g⟩ env H K :=
 ow_val (fun a w h=>by
  obtain ⟨_,cs,bt,f,hh,hr⟩:=hg _ _ h.heap.gl
  obtain ⟨v,hv,hrd⟩:=rdRow_get hr he
  refine ⟨v,?_,hrd⟩
  simp only [execOp,ev_val h hx,Instr.loadAt,Instr.sureAddr,Sem.run_bind,Sem.run_pure,Result.andThen_ok,run_loadVar1 t ha (show w.cell? ⟨b,o,none⟩=some v by simp [World.cell?,hh]; simpa using hv)]) hK
end
end Go.Vc
end
section
namespace Go.Vc
open Go.RowKit
inductive Fin:Type 1
 | ret (post:(S→List Ch→Prop)→Prop)
 | pan (v:Value)
section
variable {P:Program} [Gl P] {nt:Nat} {c:Cx P nt} {env:Env} {H:List Ch} {K:S→List Ch→Prop}
variable {d:Option Tmp} {ty t t':TypeId} {pos:String} {af:Array Edge} {g:Option (Nat × Bool)} {x y:Operand}
theorem jc_condT {Q:Exit→Act→World→Prop} {thn els:Code} {b:Bool} (hx:env.ev x=some (Bl b)) (hb:b=true) (h:JC c thn Q env H):JC c (.cond x thn els) Q env H:=jc_cond hx (fun _=>h) (fun h=>by rw [hb] at h; cases h)
theorem jc_condF {Q:Exit→Act→World→Prop} {thn els:Code} {b:Bool} (hx:env.ev x=some (Bl b)) (hb:b=false) (h:JC c els Q env H):JC c (.cond x thn els) Q env H:=jc_cond hx (fun h=>by rw [hb] at h; cases h) (fun _=>h)
theorem jq_ret0 {fn:Func} {post:(S→List Ch→Prop)→Prop} {ex:Exit} (hex:ex=.ret ∨ ex=.normal) (hres:fn.results=#[]) (is:List Nat) {Hout Hr:List Ch} (hp:pick is H=some (Hout,Hr)) (hpost:∀ K,post K→K (.tup []) Hout):JQ c (bodyPost P fn (RR c post)) ex env H :=
 jq_retG (ss:=[]) hex (by rw [hres]; rfl) hp hpost
def Env.vals (env:Env):List Operand→Option (List Value)
 | []=>some []
 | x :: r=>match env.ev x,Env.vals env r with
  | some (.cell (.val v)),some vs=>some (v :: vs)
  | _,_=>none
theorem vals_ok {a:Act} {w:World} (h:St c env H a w):∀ {xs:List Operand} {vs:List Value},env.vals xs=some vs→xs.map a.eval=vs
 | [],vs,hp=>by simp only [Env.vals,Option.some.injEq] at hp; subst hp; rfl
 | x :: xs,vs,hp=>by
  simp only [Env.vals] at hp
  split at hp
  ·rename_i v vs' h1 h2
   simp only [Option.some.injEq] at hp
   subst hp
   rw [List.map_cons,ev_val h h1,vals_ok h h2]
  ·cases hp
theorem ow_makeFunc {f:FuncId} {xs:Array Operand} {vs:List Value} (hx:env.vals xs.toList=some vs) (hK:K (.cell (.val (.func (.func f) #[] vs.toArray))) H):OpWp c ⟨d,.makeFunc (.func f) #[] xs,ty,pos,af,g⟩ env H K :=
 ow_valx rfl (fun a w h=>by
  have e1:xs.map a.eval=vs.toArray:=by apply Array.ext'; simpa using vals_ok h hx
  simp only [execOp,Instr.makeFunc,e1,Array.map_empty,Sem.run_bind,Sem.run_pure,Result.andThen_ok]) hK
end
end Go.Vc
end
section
namespace Go.Vc
open Go.RowKit
def capS (cap:List Value):List S:=cap.map (fun v=>.cell (.val v))
theorem cap_ok {w:World} {A:Nat→Prop}:∀ {cap:List Value},cap.all Value.oneCell'=true→SOks w A (capS cap) cap
 | [],_=>rfl
 | v :: cap,h=>by
  rw [List.all_cons,Bool.and_eq_true] at h
  exact ⟨v,cap,rfl,⟨rfl,h.1⟩,cap_ok h.2⟩
abbrev FC (F:FuncId) (cap:List Value):S:=.cell (.val (.func (.func F) #[] cap.toArray))
abbrev PV (b:Nat):Value:=.pointer (some ⟨b,0,none⟩)
section
variable {P:Program} [Gl P] {nt:Nat} {c:Cx P nt} {env:Env} {H:List Ch} {K:S→List Ch→Prop}
variable {d:Option Tmp} {ty t t':TypeId} {pos:String} {af:Array Edge} {g:Option (Nat × Bool)} {x y z:Operand}
theorem ow_callc {Hin Hr:List Ch} {f:FuncId} [FI P f] {cap:List Value} {xs:Array Operand} {at_:Array TypeId} {ss:List S} {post:(S→List Ch→Prop)→Prop} (is:List Nat) (hz:env.ev z=some (FC f cap)) (hx:env.evs xs.toList=some ss)
 (hcap:cap.all Value.oneCell'=true) (hp:pick is H=some (Hin,Hr)) (con:Con P f (ss ++ capS cap) Hin post)
 (hpost:post (fun s Hout=>K s (Hout ++ Hr))):OpWp c ⟨d,.call { callee:=.value z,args:=xs,argTypes:=at_ },ty,pos,af,g⟩ env H K :=
 ow_callv is hz hx (fun _ _=>by simpa using cap_ok hcap) hp con hpost
theorem jq_ret0S {fn:Func} {post:(S→List Ch→Prop)→Prop} {ex:Exit} {Hout:List Ch} (hex:ex=.ret ∨ ex=.normal) (hres:fn.results=#[]) (hpost:∀ K,post K→K (.tup []) Hout) (hp:Sub H Hout):JQ c (bodyPost P fn (RR c post)) ex env H :=
 let ⟨is,_,hp⟩:=hp
 jq_ret0 hex hres is hp hpost
theorem jq_ret2S {fn:Func} {post:(S→List Ch→Prop)→Prop} {t1 t2:Tmp} {s1 s2:S} {Hout:List Ch} (hres:fn.results=#[.tmp t1,.tmp t2]) (h1:env.lookup t1=some s1) (h2:env.lookup t2=some s2) (hpost:∀ K,post K→K (.tup [s1,s2]) Hout) (hp:Sub H Hout):JQ c (bodyPost P fn (RR c post)) .ret env H :=
 let ⟨is,_,hp⟩:=hp
 jq_ret2 hres h1 h2 is hp hpost
def andW (m n:Int):Int:=IntKind.i64.wrap ((BitVec.ofInt 64 m &&& BitVec.ofInt 64 n).toNat:Int)
def orW (m n:Int):Int:=IntKind.i64.wrap ((BitVec.ofInt 64 m ||| BitVec.ofInt 64 n).toNat:Int)
def xorW (m n:Int):Int:=IntKind.i64.wrap ((BitVec.ofInt 64 m ^^^ BitVec.ofInt 64 n).toNat:Int)
theorem ow_and64 {m n:Int} (hx:env.ev x=some (In .i64 m)) (hy:env.ev y=some (In .i64 n)) (hK:K (In .i64 (andW m n)) H):OpWp c ⟨d,.binOp .and t x y t',ty,pos,af,g⟩ env H K :=
 ow_valx rfl (fun _ _ hs=>by simp [execOp,ev_val hs hx,ev_val hs hy,eqGuard,binOp,Op.intBits,andW]; rfl) hK
theorem ow_or64 {m n:Int} (hx:env.ev x=some (In .i64 m)) (hy:env.ev y=some (In .i64 n)) (hK:K (In .i64 (orW m n)) H):OpWp c ⟨d,.binOp .or t x y t',ty,pos,af,g⟩ env H K :=
 ow_valx rfl (fun _ _ hs=>by simp [execOp,ev_val hs hx,ev_val hs hy,eqGuard,binOp,Op.intBits,orW]; rfl) hK
theorem ow_xor64 {m n:Int} (hx:env.ev x=some (In .i64 m)) (hy:env.ev y=some (In .i64 n)) (hK:K (In .i64 (xorW m n)) H):OpWp c ⟨d,.binOp .xor t x y t',ty,pos,af,g⟩ env H K :=
 ow_valx rfl (fun _ _ hs=>by simp [execOp,ev_val hs hx,ev_val hs hy,eqGuard,binOp,Op.intBits,xorW]; rfl) hK
variable {κ:Type} [KY κ]
theorem ow_mapGetI [MK P t] [TI P (MK.e P t)] {M:List (κ × Int)} {k:κ} (hd:MK.d P t=KY.d κ) (hzv:(TI.i P (MK.e P t)).zero=some (.int .i64 0)) (hx:env.ev x=some (.cell (.map (mapE (Value.int .i64) M)))) (hy:env.ev y=some (.cell (.val (KY.v k))))
 (hK:K (In .i64 ((aget M k).getD 0)) H):OpWp c ⟨d,.lookup t x y false,ty,pos,af,g⟩ env H K :=
 ow_mapGet hd hzv (by cases aget M k <;> rfl) hx hy (by cases h:aget M k <;> rw [h] at hK <;> exact hK)
theorem ow_mapGetOI [MK P t] [TI P (MK.e P t)] {b:Nat} {Hr:List Ch} {M:List (κ × Int)} {k:κ} (j:Nat) (hd:MK.d P t=KY.d κ) (hzv:(TI.i P (MK.e P t)).zero=some (.int .i64 0)) (hx:env.ev x=some (.cell (.val (.map (some b))))) (hp:pick [j] H=some ([.mapc b (mapE (Value.int .i64) M)],Hr)) (hy:env.ev y=some (.cell (.val (KY.v k))))
 (hK:K (In .i64 ((aget M k).getD 0)) H):OpWp c ⟨d,.lookup t x y false,ty,pos,af,g⟩ env H K :=
 ow_mapGetO j hd hzv (by cases aget M k <;> rfl) hx hp hy (by cases h:aget M k <;> rw [h] at hK <;> exact hK)
theorem ow_mapGetOB [MK P t] [TI P (MK.e P t)] {b:Nat} {Hr:List Ch} {M:List (κ × Bool)} {k:κ} (j:Nat) (hd:MK.d P t=KY.d κ) (hzv:(TI.i P (MK.e P t)).zero=some (.bool false)) (hx:env.ev x=some (.cell (.val (.map (some b))))) (hp:pick [j] H=some ([.mapc b (mapE Value.bool M)],Hr)) (hy:env.ev y=some (.cell (.val (KY.v k))))
 (hK:K (Bl ((aget M k).getD false)) H):OpWp c ⟨d,.lookup t x y false,ty,pos,af,g⟩ env H K :=
 ow_mapGetO j hd hzv (by cases aget M k <;> rfl) hx hp hy (by cases h:aget M k <;> rw [h] at hK <;> exact hK)
theorem ow_mapHasS [MK P t] [TI P (MK.e P t)] {M:List (κ × ByteArray)} {k:κ} (hd:MK.d P t=KY.d κ) (hzv:(TI.i P (MK.e P t)).zero=some (.string ⟨#[]⟩)) (hx:env.ev x=some (.cell (.map (mapE Value.string M)))) (hy:env.ev y=some (.cell (.val (KY.v k))))
 (hK:K (.tup [Str ((aget M k).getD ⟨#[]⟩),Bl (aget M k).isSome]) H):OpWp c ⟨d,.lookup t x y true,ty,pos,af,g⟩ env H K :=
 ow_mapHas hd hzv (by cases aget M k <;> rfl) hx hy (by cases h:aget M k <;> rw [h] at hK <;> exact hK)
end
end Go.Vc
end
section
namespace Go.Vc
open Go.RowKit
def PanI (Q:Exit→Act→World→Prop):Prop:=∀ ch a d v w,Q (.panic ch) (Act.put a d v) w→Q (.panic ch) a w
theorem pani_then {K:Act→World→Prop} {Q:Exit→Act→World→Prop} (h:PanI Q):PanI (Exit.then K Q):=h
theorem pani_block {id:Nat} {Q:Exit→Act→World→Prop} (h:PanI Q):PanI (Exit.inBlock id Q):=h
theorem pani_body {P:Program} {fn:Func} {R:Ending→World→Prop}:PanI (bodyPost P fn R):=by
 intro ch a d v w h
 cases d <;> exact h
theorem len3 {α:Type} {l:List α} (h:l.length=3):∃ v0 v1 v2,l=[v0,v1,v2]:=by
 match l,h with
 | [v0,v1,v2],_=>exact ⟨v0,v1,v2,rfl⟩
theorem len4 {α:Type} {l:List α} (h:l.length=4):∃ v0 v1 v2 v3,l=[v0,v1,v2,v3]:=by
 match l,h with
 | [v0,v1,v2,v3],_=>exact ⟨v0,v1,v2,v3,rfl⟩
theorem len5 {α:Type} {l:List α} (h:l.length=5):∃ v0 v1 v2 v3 v4,l=[v0,v1,v2,v3,v4]:=by
 match l,h with
 | [v0,v1,v2,v3,v4],_=>exact ⟨v0,v1,v2,v3,v4,rfl⟩
theorem len8 {α:Type} {l:List α} (h:l.length=8):∃ v0 v1 v2 v3 v4 v5 v6 v7,l=[v0,v1,v2,v3,v4,v5,v6,v7]:=by
 match l,h with
 | [v0,v1,v2,v3,v4,v5,v6,v7],_=>exact ⟨v0,v1,v2,v3,v4,v5,v6,v7,rfl⟩
theorem len11 {α:Type} {l:List α} (h:l.length=11):∃ v0 v1 v2 v3 v4 v5 v6 v7 v8 v9 v10,l=[v0,v1,v2,v3,v4,v5,v6,v7,v8,v9,v10]:=by
 match l,h with
 | [v0,v1,v2,v3,v4,v5,v6,v7,v8,v9,v10],_=>exact ⟨v0,v1,v2,v3,v4,v5,v6,v7,v8,v9,v10,rfl⟩
section
variable {P:Program} {ops:Array Oper} {Q:Exit→Act→World→Prop} {md:Region.Mode} {S:World→Prop} {m:Nat}
def anyX (P:Program) (md:Region.Mode) (ops:Array Oper) (Q:Exit→Act→World→Prop) (S:World→Prop) (m:Nat):Nat→Array Bool→Act→World→Prop
 | 0,listed,a,w=>Region.ready md ops listed=[]∧Q .normal a w
 | fuel+1,listed,a,w=>(Region.ready md ops listed=[]→Q .normal a w)∧∀ i ∈ Region.ready md ops listed,wpOp P ops Q i (fun a' w'=>(i < m→S w')∧anyX P md ops Q S m fuel (listed.setIfInBounds i true) a' w') a w
theorem any_of_x:∀ (fuel:Nat) (listed:Array Bool) (a:Act) (w:World),anyX P md ops Q S m fuel listed a w→wpAny P md ops Q fuel listed a w
 | 0,_,_,_,h=>h
 | fuel+1,_,_,_,h=>⟨h.1,fun i hi=>wpOp_mono (fun a' w' h'=>any_of_x fuel _ a' w' h'.2) (h.2 i hi)⟩
theorem anyX_first {i:Nat} {oi:Oper} {v:Value} (hi:ops[i]?=some oi) (hsel:∀ (j:Nat) (o:Oper) cs b,ops[j]?=some o→o.op≠.select cs b) (hQ:∀ c a w,Q (.panic c) (a.put oi.dst v) w→Q (.panic c) a w)
 (hlate:∀ (j:Nat) (o:Oper),m≤j→ops[j]?=some o→j≠i→∃ e ∈ o.after,Region.binds md e=true∧e.on=i) :
 ∀ (fuel:Nat) (listed:Array Bool) (a:Act) (w:World),
  (∀ j oj,ops[j]?=some oj→j≠i→listed.getD j true=false→(∀ e ∈ oj.after,Region.binds md e=true→e.on≠i)→oi.apart ops oj=true) →
  i ∈ Region.ready md ops listed→YieldsIf P ops S oi v a→S w →
  anyX P md ops Q S m fuel (listed.setIfInBounds i true) (a.put oi.dst v) w→anyX P md ops Q S m (fuel+1) listed a w:=by
 intro fuel
 induction fuel with
 | zero =>
  intro listed a w _ hr hy hS hX
  refine ⟨fun h=>(by rw [h] at hr; cases hr),fun j hj=>?_⟩
  by_cases hji:j=i
  ·subst hji; exact hy.wpOp hi hS ⟨fun _=>hS,hX⟩
  ·have:=ready_mono hj hji
   rw [hX.1] at this
   cases this
 | succ fuel ih =>
  intro listed a w hfree hr hy hS hX
  refine ⟨fun h=>(by rw [h] at hr; cases hr),fun j hj=>?_⟩
  by_cases hji:j=i
  ·subst hji; exact hy.wpOp hi hS ⟨fun _=>hS,hX⟩
  ·obtain ⟨hjun,oj,hoj,hall⟩:=mem_ready.1 hj
   have hnot:∀ e ∈ oj.after,Region.binds md e=true→e.on≠i:=fun e he hbd heq=>by
    have h1:=hall e he hbd
    have h0:=(mem_ready.1 hr).1
    rw [heq] at h1
    rw [Array.getD_eq_getD_getElem?] at h0 h1
    cases hl:listed[i]? with
    | none=>rw [hl] at h1; cases h1
    | some bb=>rw [hl] at h0 h1; simp only [Option.getD_some] at h0 h1; rw [h0] at h1; cases h1
   have hjm:j < m:=by
    rcases Nat.lt_or_ge j m with h | h
    ·exact h
    ·obtain ⟨e,he,hbd,hon⟩:=hlate j oj h hoj hji
     exact absurd hon (hnot e he hbd)
   have h2:=wpOp_putIf hoj (hfree j oj hoj hji hjun hnot) (fun cs b=>hsel i oi cs b hi) (fun cs b=>hsel j oj cs b hoj) hQ hy (hX.2 j (ready_mono hj hji))
   refine wpOp_mono (fun a' w' h3=>⟨fun _=>h3.2.1 hjm,ih (listed.setIfInBounds j true) a' w' ?_ (ready_mono hr (Ne.symm hji)) h3.1 (h3.2.1 hjm) ?_⟩) h2
   ·intro k ok hk hki hun hno
    refine hfree k ok hk hki ?_ hno
    by_cases hjk:j=k
    ·subst hjk; exact hjun
    ·rw [getD_set_ne true hjk] at hun; exact hun
   ·rw [Array.setIfInBounds_comm _ _ hji]
    exact h3.2.2
end
section
variable {P:Program} [Gl P] {nt:Nat} {c:Cx P nt} {env:Env} {H Hr:List Ch} {ops:Array Oper} {Q:Exit→Act→World→Prop} {Sw:World→Prop} {L:List (Nat × List Value × TypeId)}
variable {m fuel:Nat} {listed:Array Bool} {d ty t t':TypeId} {pos:String} {af:Array Edge} {x y:Operand}
def HP (c:Cx P nt) (ops:Array Oper) (Q:Exit→Act→World→Prop) (Sw:World→Prop) (m fuel:Nat) (listed:Array Bool) (env:Env) (H:List Ch):Prop :=
 ∀ a w,St c env H a w→Sw w→anyX P .any ops Q Sw m fuel listed a w
def lateWait (ops:Array Oper) (m i:Nat):Bool:=ops.toList.zipIdx.all fun (o,j)=>decide (j < m) || j == i || hasEdge o i
omit [Gl P] in
theorem late_spec {i:Nat} (h:lateWait ops m i=true):∀ (j:Nat) (o:Oper),m≤j→ops[j]?=some o→j≠i→∃ e ∈ o.after,Region.binds .any e=true∧e.on=i:=by
 intro j o hj ho hne
 have h1:=List.all_eq_true.1 h (o,j) (by rw [List.mem_zipIdx_iff_getElem?]; simpa using ho)
 have h2:decide (j < m)=false:=by simpa using hj
 have h3:(j == i)=false:=by simpa using hne
 simp only [h2,h3,Bool.false_or] at h1
 exact edge_spec h1
theorem hp_take {i:Nat} {op:Op} {s:S} (hi:ops[i]?=some ⟨some d,op,ty,pos,af,none⟩) (hs:(Region.noSelect ops && lateWait ops m i)=true) (hf:Region.free .any ops listed i=true) (hr:(Region.ready .any ops listed).contains i=true) (hd:d < nt) (hQ:PanI Q)
 (hop:HOk c Sw env H ⟨some d,op,ty,pos,af,none⟩ s) (h:HP c ops Q Sw m fuel (listed.setIfInBounds i true) ((d,s) :: env) H):HP c ops Q Sw m (fuel+1) listed env H:=by
 intro a w hst hS
 obtain ⟨v,h1,h2⟩:=hop a w hst hS
 rw [Bool.and_eq_true] at hs
 exact anyX_first hi (Region.noSelect_spec hs.1) (fun ch a w h=>hQ ch a _ _ w h) (late_spec hs.2) fuel listed a w (Region.free_spec hi hf) (by simpa using hr) (.inl ⟨rfl,h1⟩) hS (h _ _ (hst.next hd hst.heap h2 (fun _ _ h=>h)) hS)
omit [Gl P] in
theorem anyX_all {rs:List Nat} {a:Act} {w:World} (hr:Region.ready .any ops listed=rs) (hne:rs≠[]) (h:∀ i ∈ rs,wpOp P ops Q i (fun a' w'=>(i < m→Sw w')∧anyX P .any ops Q Sw m fuel (listed.setIfInBounds i true) a' w') a w):anyX P .any ops Q Sw m (fuel+1) listed a w :=
 ⟨fun h0=>absurd (hr ▸ h0) hne,hr ▸ h⟩
theorem hp_op {i:Nat} {op:Op} (hi:ops[i]?=some ⟨some d,op,ty,pos,af,none⟩) (hr:Region.ready .any ops listed=[i]) (hd:d < nt)
 (h:OpWp c ⟨some d,op,ty,pos,af,none⟩ env H (fun s H'=>(∀ w,StW c H' w→Sw w)∧HP c ops Q Sw m fuel (listed.setIfInBounds i true) ((d,s) :: env) H')):HP c ops Q Sw m (fuel+1) listed env H:=by
 intro a w hst hS
 refine anyX_all hr (by simp) (fun j hj=>?_)
 obtain rfl:j=i:=by simpa using hj
 unfold wpOp
 rw [hi]
 dsimp only
 rw [if_pos (show Region.wanted _ _=true from rfl)]
 refine .inl (h a w hst _ _ ?_)
 intro s H' v w' hK hw' hv hk
 exact ⟨fun _=>hK.1 _ hw',hK.2 _ _ (hst.next hd hw' hv hk) (hK.1 _ hw')⟩
theorem hp_op0 {i:Nat} {op:Op} (hi:ops[i]?=some ⟨none,op,ty,pos,af,none⟩) (hr:Region.ready .any ops listed=[i])
 (h:OpWp c ⟨none,op,ty,pos,af,none⟩ env H (fun _ H'=>(∀ w,StW c H' w→Sw w)∧HP c ops Q Sw m fuel (listed.setIfInBounds i true) env H')):HP c ops Q Sw m (fuel+1) listed env H:=by
 intro a w hst hS
 refine anyX_all hr (by simp) (fun j hj=>?_)
 obtain rfl:j=i:=by simpa using hj
 unfold wpOp
 rw [hi]
 dsimp only
 rw [if_pos (show Region.wanted _ _=true from rfl)]
 refine .inl (h a w hst _ _ ?_)
 intro s H' v w' hK hw' hv hk
 exact ⟨fun _=>hK.1 _ hw',hK.2 _ _ (hst.next0 hw' hk) (hK.1 _ hw')⟩
theorem hp_done (hr:Region.ready .any ops listed=[]) (h:JQ c Q .normal env H):HP c ops Q Sw m fuel listed env H:=by
 intro a w hst _
 cases fuel with
 | zero=>exact ⟨hr,h a w hst⟩
 | succ fuel=>exact ⟨fun _=>h a w hst,by rw [hr]; simp⟩
def HT (c:Cx P nt) (ops:Array Oper) (Q:Exit→Act→World→Prop) (Sw:World→Prop) (m fuel:Nat) (listed:Array Bool) (env:Env) (H:List Ch):Prop :=
 ∀ a w,St c env H a w→anyX P .any ops Q Sw m fuel listed a w
theorem hp_tail (h:HT c ops Q Sw m fuel listed env H):HP c ops Q Sw m fuel listed env H:=fun a w hst _=>h a w hst
theorem ht_op {i:Nat} {op:Op} (hi:ops[i]?=some ⟨some d,op,ty,pos,af,none⟩) (hr:Region.ready .any ops listed=[i]) (hd:d < nt) (hm:m≤i)
 (h:OpWp c ⟨some d,op,ty,pos,af,none⟩ env H (fun s H'=>HT c ops Q Sw m fuel (listed.setIfInBounds i true) ((d,s) :: env) H')):HT c ops Q Sw m (fuel+1) listed env H:=by
 intro a w hst
 refine anyX_all hr (by simp) (fun j hj=>?_)
 obtain rfl:j=i:=by simpa using hj
 unfold wpOp
 rw [hi]
 dsimp only
 rw [if_pos (show Region.wanted _ _=true from rfl)]
 refine .inl (h a w hst _ _ ?_)
 intro s H' v w' hK hw' hv hk
 exact ⟨fun hlt=>absurd hlt (by omega),hK _ _ (hst.next hd hw' hv hk)⟩
theorem ht_op0 {i:Nat} {op:Op} (hi:ops[i]?=some ⟨none,op,ty,pos,af,none⟩) (hr:Region.ready .any ops listed=[i]) (hm:m≤i)
 (h:OpWp c ⟨none,op,ty,pos,af,none⟩ env H (fun _ H'=>HT c ops Q Sw m fuel (listed.setIfInBounds i true) env H')):HT c ops Q Sw m (fuel+1) listed env H:=by
 intro a w hst
 refine anyX_all hr (by simp) (fun j hj=>?_)
 obtain rfl:j=i:=by simpa using hj
 unfold wpOp
 rw [hi]
 dsimp only
 rw [if_pos (show Region.wanted _ _=true from rfl)]
 refine .inl (h a w hst _ _ ?_)
 intro s H' v w' hK hw' hv hk
 exact ⟨fun hlt=>absurd hlt (by omega),hK _ _ (hst.next0 hw' hk)⟩
theorem ht_done (hr:Region.ready .any ops listed=[]) (h:JQ c Q .normal env H):HT c ops Q Sw m fuel listed env H:=by
 intro a w hst
 cases fuel with
 | zero=>exact ⟨hr,h a w hst⟩
 | succ fuel=>exact ⟨fun _=>h a w hst,by rw [hr]; simp⟩
theorem hp_exact {b:Nat} {bt:TypeId} {row:List C} {cs:List Value} (j:Nat) (hp:pick [j] H=some ([.blk b bt row],Hr)) (hm:(b,cs,bt) ∈ L) (h:HP c ops Q (Keep L) m fuel listed env (.blk b bt (cs.map C.val) :: Hr)):HP c ops Q (Keep L) m fuel listed env H:=by
 intro a w hst hS
 obtain ⟨cs',g1,g2⟩:=blk_ok hst hp
 have g3:=hS _ hm
 dsimp only at g3
 rw [g1] at g3
 obtain rfl:cs'=cs:=by simpa using g3
 exact h a w (st_row hst hp ⟨cs',g1,rdRow_exact g2⟩) hS
theorem hp_begin {id n:Nat} (m:Nat) (hn:ops.size=n) (hm:P.follows .mixedOrders=true) {a:Act} {w:World} (hs:St c env H a w) (hS:Sw { w with drawn:=w.drawn+1 }) (h:HP c ops Q Sw m n (Array.replicate n false) env H):(Code.region id ops true).wp P Q a w:=by
 subst hn
 refine wp_region_any hm (any_of_x (S:=Sw) (m:=m) _ _ _ _ ?_)
 obtain ⟨d1,d2⟩:=stw_drew hs.heap
 exact h a _ ⟨hs.size,hs.defers,fun t s hl=>d2 _ _ (hs.slots t s hl),d1⟩ hS
theorem jc_hp1 {id n:Nat} (m:Nat) (hn:ops.size=n) {b1:Nat} {t1:TypeId} {r1:List C} (j1:Nat) (hm:P.follows .mixedOrders=true) (hp:pick [j1] H=some ([.blk b1 t1 r1],Hr))
 (h:∀ cs1:List Value,cs1.length=r1.length→HP c ops Q (Keep [(b1,cs1,t1)]) m n (Array.replicate n false) env H):JC c (.region id ops true) Q env H:=by
 intro a w hs
 obtain ⟨cs1,g1,k1⟩:=blk_ok hs hp
 refine hp_begin m hn hm hs ?_ (h cs1 (rdRow_length k1))
 intro p hp
 obtain rfl:=List.mem_singleton.1 hp
 exact g1
theorem jc_hp2 {id n:Nat} (m:Nat) (hn:ops.size=n) {b1 b2:Nat} {t1 t2:TypeId} {r1 r2:List C} (j1 j2:Nat) (hm:P.follows .mixedOrders=true) (hp:pick [j1,j2] H=some ([.blk b1 t1 r1,.blk b2 t2 r2],Hr))
 (h:∀ cs1 cs2:List Value,cs1.length=r1.length→cs2.length=r2.length→HP c ops Q (Keep [(b1,cs1,t1),(b2,cs2,t2)]) m n (Array.replicate n false) env H):JC c (.region id ops true) Q env H:=by
 intro a w hs
 have e1:=hs.heap.ok (.blk b1 t1 r1) ((pick_perm hp).mem_iff.2 (by simp))
 have e2:=hs.heap.ok (.blk b2 t2 r2) ((pick_perm hp).mem_iff.2 (by simp))
 obtain ⟨cs1,g1,k1⟩:=e1
 obtain ⟨cs2,g2,k2⟩:=e2
 refine hp_begin m hn hm hs ?_ (h cs1 cs2 (rdRow_length k1) (rdRow_length k2))
 intro p hp
 rcases List.mem_cons.1 hp with rfl | hp
 ·exact g1
 ·obtain rfl:=List.mem_singleton.1 hp
  exact g2
theorem jc_hpV {id n:Nat} (m:Nat) (hn:ops.size=n) {b1:Nat} {t1:TypeId} {r1:List C} (j1:Nat) (vs:List Value) (hm:P.follows .mixedOrders=true) (hp:pick [j1] H=some ([.blk b1 t1 r1],Hr)) (hv:r1=vs.map C.val)
 (h:HP c ops Q (Keep [(b1,vs,t1)]) m n (Array.replicate n false) env H):JC c (.region id ops true) Q env H:=by
 intro a w hs
 obtain ⟨cs1,g1,g2⟩:=blk_ok hs hp
 subst hv
 obtain rfl:=rdRow_vals g2
 refine hp_begin m hn hm hs ?_ h
 intro p hp
 obtain rfl:=List.mem_singleton.1 hp
 exact g1
theorem keep1 {b1:Nat} {t1:TypeId} {cs1:List Value} (j:Nat) (hp:H[j]?=some (.blk b1 t1 (cs1.map C.val))):∀ w,StW c H w→Keep [(b1,cs1,t1)] w :=
 keep_of (fun p hp2=>by
  obtain rfl:=List.mem_singleton.1 hp2
  exact List.mem_of_getElem? hp)
theorem keep2 {b1 b2:Nat} {t1 t2:TypeId} {cs1 cs2:List Value} (j k:Nat) (hp:H[j]?=some (.blk b1 t1 (cs1.map C.val))) (hq:H[k]?=some (.blk b2 t2 (cs2.map C.val))):∀ w,StW c H w→Keep [(b1,cs1,t1),(b2,cs2,t2)] w :=
 keep_of2 (List.mem_of_getElem? hp) (List.mem_of_getElem? hq)
theorem mem0 {α:Type} {x:α} {l:List α}:x ∈ x :: l:=List.mem_cons_self ..
theorem mem1 {α:Type} {x y:α} {l:List α}:x ∈ y :: x :: l:=List.mem_cons_of_mem _ (List.mem_cons_self ..)
theorem hok_nilCheck {d:Option Tmp} {b o:Nat} {sp:Option Nat} (hx:env.ev x=some (.cell (.val (.pointer (some ⟨b,o,sp⟩))))):HOk c Sw env H ⟨d,.nilCheck x,ty,pos,af,none⟩ (.cell (.val (.pointer (some ⟨b,o,sp⟩)))) :=
 fun _ _ hst _=>⟨.pointer (some ⟨b,o,sp⟩),fun _ _=>by simp [execOp,ev_val hst hx],rfl,rfl⟩
theorem hok_sub {d:Option Tmp} {m n:Int} (hx:env.ev x=some (In .i64 m)) (hy:env.ev y=some (In .i64 n)) (hb:-9223372036854775808≤m - n∧m - n≤9223372036854775807):HOk c Sw env H ⟨d,.binOp .sub t x y t',ty,pos,af,none⟩ (In .i64 (m - n)) :=
 fun _ _ hst _=>⟨.int .i64 (m - n),fun _ _=>by simp [execOp,ev_val hst hx,ev_val hst hy,eqGuard,binOp,Op.intArith,IntWalk.i64_in _ hb],rfl,rfl⟩
theorem hok_assign {d:Option Tmp} {s:S} (hx:env.ev x=some s):HOk c Sw env H ⟨d,.assign x,ty,pos,af,none⟩ s :=
 fun a _ hst _=>⟨a.eval x,fun _ _=>rfl,ev_ok hst hx⟩
theorem ow_prefixMap {α:Type} {f:α→List C} {l:List α} {n:Nat} {d:Option Nat} {K:S→List Ch→Prop} {g:Option (Nat × Bool)} [SL P t] (hx:env.ev x=some (.cell (.list (l.map f)))) (hy:env.ev y=some (In .i64 (n:Int))) (hle:n≤l.length)
 (hK:K (.cell (.list ((l.take n).map f))) H):OpWp c ⟨d,.slice t x none (some y) none,ty,pos,af,g⟩ env H K :=
 ow_prefix hx hy (by omega) (by rw [List.length_map]; omega) (by rw [show ((n:Int)).toNat=n by omega,← List.map_take]; exact hK)
end
end Go.Vc
end
section
namespace Go.Vc
open Go.RowKit
section
variable {P:Program} [Gl P] {nt:Nat} {c:Cx P nt} {env:Env} {H:List Ch} {K:S→List Ch→Prop}
variable {d:Option Tmp} {ty t t':TypeId} {pos:String} {af:Array Edge} {g:Option (Nat × Bool)} {x y:Operand}
theorem st_freezeBi {a:Act} {w:World} {v:Value} {e t:TypeId} {b k j j2:Nat} {rows:List (List C)} {row:List C} {Hr Hr2:List Ch} (i:Nat) (h:St c env H a w) (hp:pick [j] H=some ([.own v e k rows],Hr)) (hp2:pick [j2] Hr=some ([.blk b t row],Hr2)) (hi:row[i]?=some (.val v)) (hX:∀ b ∈ c.X,b ∈ hb Hr) :
 St c env (.blk b t (row.set i (.list rows)) :: Hr2) a w:=by
 have h':StW c (.own v e k rows :: Hr) w:=h.heap.perm (pick_perm hp)
 have hav:c.av (.own v e k rows :: Hr)=c.av H:=av_perm c (pick_perm hp)
 obtain ⟨f1,f2,f3⟩:=stw_freeze h' hX
 have hs:St c env Hr a w:=⟨h.size,h.defers,fun t s hl=>f3 _ _ (by rw [hav]; exact h.slots t s hl),f1⟩
 obtain ⟨cs,g1,g2⟩:=blk_ok hs hp2
 refine st_row hs hp2 ⟨cs,g1,?_⟩
 obtain ⟨u,hu,hr⟩:=rdRow_get g2 hi
 have:=rdRow_set (i:=i) g2 (c:=.list rows) (v:=u) (by rw [hr.1]; exact f2)
 obtain ⟨hlt,rfl⟩:=List.getElem?_eq_some_iff.1 hu
 rwa [List.set_getElem_self] at this
theorem jc_freezeBi {Q:Exit→Act→World→Prop} {code:Code} (j j2 i:Nat) {v:Value} {e t:TypeId} {b k:Nat} {rows:List (List C)} {row:List C} {Hr Hr2:List Ch} (hp:pick [j] H=some ([.own v e k rows],Hr)) (hp2:pick [j2] Hr=some ([.blk b t row],Hr2)) (hi:row[i]?=some (.val v)) (hX:∀ b ∈ c.X,b ∈ hb Hr)
 (h:JC c code Q env (.blk b t (row.set i (.list rows)) :: Hr2)):JC c code Q env H:=fun a w hs=>h a w (st_freezeBi i hs hp hp2 hi hX)
end
end Go.Vc
end
section
namespace Go.Vc
open Go.RowKit
section
variable {P:Program} [Gl P] {nt:Nat} {c:Cx P nt} {env:Env} {H:List Ch} {K:S→List Ch→Prop}
variable {d:Option Tmp} {ty t t':TypeId} {pos:String} {af:Array Edge} {g:Option (Nat × Bool)} {x y:Operand}
end
end Go.Vc
end
section
namespace Go.Vc
open Go.RowKit
section
variable {P:Program} [Gl P] {nt:Nat} {c:Cx P nt} {env:Env} {H:List Ch} {K:S→List Ch→Prop}
variable {d:Option Tmp} {ty t t':TypeId} {pos:String} {af:Array Edge} {g:Option (Nat × Bool)} {x y:Operand}
variable {ds:List Deferred} {ops:Array Oper} {Q:Exit→Act→World→Prop} {l:List Oper}
end
end Go.Vc
end
section
namespace Go.Vc
open Go.RowKit
section
variable {P:Program} [Gl P] {nt:Nat} {c:Cx P nt} {env:Env} {H Hr:List Ch} {ops:Array Oper} {Q:Exit→Act→World→Prop} {Sw:World→Prop}
variable {m fuel:Nat} {listed:Array Bool} {i j di dj:Nat} {opi opj:Op} {ti tj:TypeId} {pi pj:String} {afi afj:Array Edge} {s0:S}
def allDone (m:Nat) (listed:Array Bool):Bool:=(List.range m).all fun i=>listed.getD i true
end
end Go.Vc
end
section
namespace Go.Vc
open Go.RowKit
section
variable {P:Program} [Gl P] {nt:Nat} {c:Cx P nt} {env:Env} {H Hr:List Ch} {F:List (S × Value)} {ops:Array Oper} {Q:Exit→Act→World→Prop}
variable {fuel:Nat} {listed:Array Bool} {i j d:Nat} {ty t:TypeId} {pos:String} {af:Array Edge} {x y:Operand}
@[reducible] def putE (d:Option Nat) (s:S) (env:Env):Env:=match d with
 | some d=>(d,s) :: env
 | none=>env
def okD (d:Option Nat) (nt:Nat):Bool:=match d with
 | some d=>decide (d < nt)
 | none=>true
theorem jc_hpV2 {id n:Nat} (m:Nat) (hn:ops.size=n) {b1 b2:Nat} {t1 t2:TypeId} {r1 r2:List C} (j1 j2:Nat) (vs us:List Value) (hm:P.follows .mixedOrders=true) (hp:pick [j1,j2] H=some ([.blk b1 t1 r1,.blk b2 t2 r2],Hr)) (hv:r1=vs.map C.val) (hu:r2=us.map C.val)
 (h:HP c ops Q (Keep [(b1,vs,t1),(b2,us,t2)]) m n (Array.replicate n false) env H):JC c (.region id ops true) Q env H:=by
 refine jc_hp2 m hn j1 j2 hm hp (fun cs1 cs2 _ _=>?_)
 intro a w hs hS
 subst hv hu
 obtain ⟨vs',g1,k1⟩:=hs.heap.ok (.blk b1 t1 (vs.map C.val)) ((pick_perm hp).mem_iff.2 (by simp))
 obtain ⟨us',g2,k2⟩:=hs.heap.ok (.blk b2 t2 (us.map C.val)) ((pick_perm hp).mem_iff.2 (by simp))
 obtain rfl:=rdRow_vals k1
 obtain rfl:=rdRow_vals k2
 have e1:=hS (b1,cs1,t1) List.mem_cons_self
 have e2:=hS (b2,cs2,t2) (List.mem_cons_of_mem _ List.mem_cons_self)
 dsimp only at e1 e2
 rw [g1] at e1
 rw [g2] at e2
 obtain rfl:vs'=cs1:=by simpa using e1
 obtain rfl:us'=cs2:=by simpa using e2
 exact h a w hs hS
end
end Go.Vc
end
section
namespace Go.Vc
open Go.RowKit
theorem g_ {p:Prop} (h:p:=by omega):p:=h
theorem h_ {p:Prop} (h:p:=by assumption):p:=h
theorem k_ {p:Prop} (h:p:=by kernel_rfl):p:=h
theorem t_ {p:Prop} [Decidable p] (h:p:=by omega):decide p=true:=decide_eq_true h
theorem u_ {p:Prop} [Decidable p] (h:p:=by assumption):decide p=true:=decide_eq_true h
theorem v_ {p:Prop} [Decidable p] (h:¬ p:=by omega):decide p=false:=decide_eq_false h
theorem w_ {p:Prop} [Decidable p] (h:¬ p:=by assumption):decide p=false:=decide_eq_false h
theorem x_ {α:Type} [DecidableEq α] {a:α}:decide (a=a)=true:=decide_eq_true rfl
theorem p_ {s:S} {H:List Ch}:s=s∧H.Perm H:=⟨rfl,List.Perm.refl _⟩
theorem b_ {n m:Nat} (h:Nat.ble n m=true:=by rfl):n≤m:=nb h
section
variable {P:Program} [Gl P] {nt:Nat} {c:Cx P nt} {env:Env} {H Hr:List Ch} {ops:Array Oper} {Q:Exit→Act→World→Prop} {l:List Oper} {d:Nat} {op:Op} {ty t:TypeId} {pos:String} {af:Array Edge} {x y:Operand}
theorem o_ (hd:Nat.ble (d+1) nt=true) (h:OpWp c ⟨some d,op,ty,pos,af,none⟩ env H (fun s H'=>JL c ops Q l ((d,s) :: env) H')):JL c ops Q (⟨some d,op,ty,pos,af,none⟩ :: l) env H:=jl_op h (nb hd)
theorem M_ {s:S} (h:(env.ev x,Nat.ble (d+1) nt)=(some s,true)) (k:JL c ops Q l ((d,s) :: env) H):JL c ops Q (⟨some d,.move x,ty,pos,af,none⟩ :: l) env H:=jl_op (ow_move (Prod.mk.inj h).1 k) (nb (Prod.mk.inj h).2)
theorem E_ {s:S} (h:(env.ev x,Nat.ble (d+1) nt)=(some s,true)) (k:JL c ops Q l ((d,s) :: env) H):JL c ops Q (⟨some d,.assign x,ty,pos,af,none⟩ :: l) env H:=jl_op (ow_assign (Prod.mk.inj h).1 k) (nb (Prod.mk.inj h).2)
theorem N_ {b o:Nat} {sp:Option Nat} (h:(env.ev x,Nat.ble (d+1) nt)=(some (.cell (.val (.pointer (some ⟨b,o,sp⟩)))),true)) (k:JL c ops Q l ((d,.cell (.val (.pointer (some ⟨b,o,sp⟩)))) :: env) H):JL c ops Q (⟨some d,.nilCheck x,ty,pos,af,none⟩ :: l) env H:=jl_op (ow_nilCheck (Prod.mk.inj h).1 k) (nb (Prod.mk.inj h).2)
theorem F_ {b o f off size:Nat} [TI P t] [TS P t] (h:(structB (TI.u P t),env.ev x,(TS.pl P t)[f]?,Nat.ble 1 size,Nat.ble (d+1) nt)=(true,some (.cell (.val (.pointer (some ⟨b,o,none⟩)))),some (off,size),true,true))
 (k:JL c ops Q l ((d,.cell (.val (.pointer (some ⟨b,o+off,none⟩)))) :: env) H):JL c ops Q (⟨some d,.fieldAddr t x f,ty,pos,af,none⟩ :: l) env H:=by
 simp only [Prod.mk.injEq] at h
 obtain ⟨h1,h2,h3,h4,h5⟩:=h
 exact jl_op (ow_fieldAddr h1 h2 h3 (nb h4) k) (nb h5)
theorem L_ {b o:Nat} {row:List C} {e:C} {bt:TypeId} [TI P t] (j:Nat) (h:(aggB (TI.u P t),env.ev x,pick [j] H,row[o]?,Nat.ble (d+1) nt)=(false,some (.cell (.val (.pointer (some ⟨b,o,none⟩)))),some ([.blk b bt row],Hr),some e,true))
 (k:JL c ops Q l ((d,.cell e) :: env) H):JL c ops Q (⟨some d,.load t x,ty,pos,af,none⟩ :: l) env H:=by
 simp only [Prod.mk.injEq] at h
 obtain ⟨h1,h2,h3,h4,h5⟩:=h
 exact jl_op (ow_load j h1 h2 h3 h4 k) (nb h5)
theorem A_ {b:Nat} {row:List C} {bt:TypeId} [TI P t] (j:Nat) (h:(aggB (TI.u P t),env.ev x,pick [j] H,(TI.i P t).size,Nat.ble (d+1) nt)=(true,some (.cell (.val (.pointer (some ⟨b,0,none⟩)))),some ([.blk b bt row],Hr),row.length,true))
 (k:JL c ops Q l ((d,.row row) :: env) H):JL c ops Q (⟨some d,.load t x,ty,pos,af,none⟩ :: l) env H:=by
 simp only [Prod.mk.injEq] at h
 obtain ⟨h1,h2,h3,h4,h5⟩:=h
 exact jl_op (ow_loadAll j h1 h2 h3 h4 k) (nb h5)
theorem S_ {b:Nat} {row r:List C} {s:S} {bt:TypeId} [TI P t] (j:Nat) (h:(env.ev x,env.ev y,s.cells,pick [j] H,(TI.i P t).size,row.length)=(some (.cell (.val (.pointer (some ⟨b,0,none⟩)))),some s,some r,some ([.blk b bt row],Hr),r.length,r.length))
 (k:JL c ops Q l env (.blk b bt r :: Hr)):JL c ops Q (⟨none,.store t x y,ty,pos,af,none⟩ :: l) env H:=by
 simp only [Prod.mk.injEq] at h
 obtain ⟨h1,h2,h3,h4,h5,h6⟩:=h
 exact jl_op0 (ow_storeAll j h1 h2 h3 h4 h5 h6 k)
theorem W_ {b o:Nat} {row:List C} {c1:C} {bt:TypeId} [TI P t] (j:Nat) (h:(env.ev x,env.ev y,pick [j] H,(TI.i P t).size,Nat.ble (o+1) row.length)=(some (.cell (.val (.pointer (some ⟨b,o,none⟩)))),some (.cell c1),some ([.blk b bt row],Hr),1,true))
 (k:JL c ops Q l env (.blk b bt (row.set o c1) :: Hr)):JL c ops Q (⟨none,.store t x y,ty,pos,af,none⟩ :: l) env H:=by
 simp only [Prod.mk.injEq] at h
 obtain ⟨h1,h2,h3,h4,h5⟩:=h
 exact jl_op0 (ow_store1 j h1 h2 h3 h4 (nb h5) k)
theorem X_ {ss:List S} {i:Nat} {s:S} (h:(env.ev x,ss[i]?,Nat.ble (d+1) nt)=(some (.tup ss),some s,true)) (k:JL c ops Q l ((d,s) :: env) H):JL c ops Q (⟨some d,.extract x i,ty,pos,af,none⟩ :: l) env H:=by
 simp only [Prod.mk.injEq] at h
 obtain ⟨h1,h2,h3⟩:=h
 exact jl_op (ow_extract h1 h2 k) (nb h3)
theorem R_ {id:Nat} {ls:List Oper} {z:Code} (h:JL c ls.toArray (Exit.then (fun a w=>z.wp P Q a w) Q) ls env H):JC c (.seq (.region id ls.toArray false) z) Q env H:=jc_seq (jc_region h)
theorem T_ {z:Code} (h:JC c z Q env H):JL c ops (Exit.then (fun a w=>z.wp P Q a w) Q) [] env H:=jl_nil (jq_then h)
theorem B_ {id:Nat} {z u:Code} (h:JC c u (Exit.inBlock id (Exit.then (fun a w=>z.wp P Q a w) Q)) env H):JC c (.seq (.block id u) z) Q env H:=jc_seq (jc_block h)
end
section
variable {P:Program} [Gl P] {nt:Nat} {ops:Array Oper} {H:List Ch} {K:Env→Prop} {env:Env} {l:List Oper} {d:Nat} {ty t:TypeId} {pos:String} {af:Array Edge} {x y:Operand} {Hr:List Ch}
theorem yM_ {s:S} (h:(env.only (Oper.looksAt ops ⟨some d,.move x,ty,pos,af,none⟩)).ev x=some s) (k:AnyOk P nt ops H K l ((d,s) :: env)):AnyOk P nt ops H K (⟨some d,.move x,ty,pos,af,none⟩ :: l) env:=any_op (fun _=>ow_move h p_) k
theorem yE_ {s:S} (h:(env.only (Oper.looksAt ops ⟨some d,.assign x,ty,pos,af,none⟩)).ev x=some s) (k:AnyOk P nt ops H K l ((d,s) :: env)):AnyOk P nt ops H K (⟨some d,.assign x,ty,pos,af,none⟩ :: l) env:=any_op (fun _=>ow_assign h p_) k
theorem yN_ {b o:Nat} {sp:Option Nat} (h:(env.only (Oper.looksAt ops ⟨some d,.nilCheck x,ty,pos,af,none⟩)).ev x=some (.cell (.val (.pointer (some ⟨b,o,sp⟩))))) (k:AnyOk P nt ops H K l ((d,.cell (.val (.pointer (some ⟨b,o,sp⟩)))) :: env)):AnyOk P nt ops H K (⟨some d,.nilCheck x,ty,pos,af,none⟩ :: l) env:=any_op (fun _=>ow_nilCheck h p_) k
theorem yF_ {b o f off size:Nat} [TI P t] [TS P t] (h:(structB (TI.u P t),(env.only (Oper.looksAt ops ⟨some d,.fieldAddr t x f,ty,pos,af,none⟩)).ev x,(TS.pl P t)[f]?,Nat.ble 1 size)=(true,some (.cell (.val (.pointer (some ⟨b,o,none⟩)))),some (off,size),true))
 (k:AnyOk P nt ops H K l ((d,.cell (.val (.pointer (some ⟨b,o+off,none⟩)))) :: env)):AnyOk P nt ops H K (⟨some d,.fieldAddr t x f,ty,pos,af,none⟩ :: l) env:=by
 simp only [Prod.mk.injEq] at h
 obtain ⟨h1,h2,h3,h4⟩:=h
 exact any_op (fun _=>ow_fieldAddr h1 h2 h3 (nb h4) p_) k
theorem yL_ {b o:Nat} {row:List C} {e:C} {bt:TypeId} [TI P t] (j:Nat) (h:(aggB (TI.u P t),(env.only (Oper.looksAt ops ⟨some d,.load t x,ty,pos,af,none⟩)).ev x,pick [j] H,row[o]?)=(false,some (.cell (.val (.pointer (some ⟨b,o,none⟩)))),some ([.blk b bt row],Hr),some e))
 (k:AnyOk P nt ops H K l ((d,.cell e) :: env)):AnyOk P nt ops H K (⟨some d,.load t x,ty,pos,af,none⟩ :: l) env:=by
 simp only [Prod.mk.injEq] at h
 obtain ⟨h1,h2,h3,h4⟩:=h
 exact any_op (fun _=>ow_load j h1 h2 h3 h4 p_) k
end
abbrev aa_:=@any_op
abbrev ab_:=@any_guardY
abbrev ac_:=@any_guardN
abbrev ad_:=@any_guardU
abbrev ae_:=@any_nil
abbrev af_:=@any_alloc
abbrev ag_:=@jl_op0
abbrev ah_:=@jl_guardY
abbrev ai_:=@jl_guardN
abbrev aj_:=@jl_guardU
abbrev ak_:=@jl_nil
abbrev al_:=@jq_then
abbrev am_:=@jc_seq
abbrev an_:=@jc_region
abbrev ao_:=@jc_any
abbrev ap_:=@jc_condF
abbrev aq_:=@jc_condT
abbrev ar_:=@jc_ret
abbrev as_:=@jc_skip
abbrev au_:=@jc_block
abbrev av_:=@jc_exit
abbrev aw_:=@jq_then_ret
abbrev ax_:=@jq_then_exit
abbrev ay_:=@jq_block
abbrev az_:=@jq_block_ret
abbrev ba_:=@jq_block_exit
abbrev bb_:=@jq_block_other
abbrev bc_:=@sub_step
abbrev bd_:=@ow_move
abbrev be_:=@ow_assign
abbrev bf_:=@ow_fieldAddr
abbrev bg_:=@ow_load
abbrev bh_:=@ow_nilCheck
abbrev bi_:=@ow_call1
abbrev bj_:=@ow_add64
abbrev bk_:=@ow_storeAll
abbrev bl_:=@ow_alloc
abbrev bm_:=@ow_call0
abbrev bn_:=@ow_eql
abbrev bo_:=@ow_extract
abbrev bp_:=@ow_pickT
abbrev bq_:=@ow_buildSlice
abbrev br_:=@ow_len
abbrev bs_:=@ow_loadAll
abbrev bt_:=@ow_callP
abbrev bu_:=@ow_build
abbrev bv_:=@ow_pickF
abbrev bw_:=@ow_lss
abbrev bx_:=@ow_neq
abbrev bz_:=@ow_gtr
abbrev ca_:=@ow_store1
abbrev cb_:=@ow_loadPlace
abbrev cc_:=@ow_indexAddrMapE
abbrev cd_:=@ow_not
abbrev ce_:=@ow_notdec
abbrev cf_:=@ow_fieldAddrPlace
abbrev cg_:=@ow_sub64
abbrev ch_:=@ow_rem
abbrev ci_:=@ow_box
abbrev cj_:=@ow_box1
abbrev ck_:=@ow_max2
abbrev cl_:=@ow_min2
abbrev cn_:=@ow_geq
abbrev co_:=@ow_lenstr
abbrev cr_:=@ow_loadPlaceN
abbrev cs_:=@ow_streql
abbrev ct_:=@ow_strneq
abbrev cu_:=@ow_leq
abbrev cv_:=@ow_indexAddrMapI
abbrev cw_:=@ow_lenown
abbrev cy_:=@ow_neg64
abbrev cz_:=@ow_mul64
abbrev db_:=@ow_loadInn1
abbrev dc_:=@ow_indexOwn
abbrev dd_:=@ow_loadG
abbrev de_:=@ow_indexArr
abbrev df_:=@hp_take
abbrev dg_:=@hp_op
abbrev dh_:=@hp_op0
abbrev di_:=@ht_op
abbrev dj_:=@ht_op0
abbrev dk_:=@hok_move
abbrev dl_:=@hok_fieldAddr
abbrev dm_:=@hok_load
abbrev do_:=@hok_add
abbrev dp_:=@hok_sub
abbrev dq_:=@hok_extract
abbrev dr_:=@hok_nilCheck
structure ZX (G:Prop):Prop where o:G
theorem ZP {P:Prop} (h:P:=by (repeat (first | refine pani_then ?_ | refine pani_block ?_)); exact pani_body):P:=h
theorem Za {P G:Prop} (k:G) (h:ZX G→P:=by exact fun g=>ah_ O h_ b_ (bf_ O O O b_ (ah_ O h_ b_ (bg_ 0 O O O O (ah_ O h_ b_ g.o))))):P:=h ⟨k⟩
theorem Zb {P:Prop} {α:Sort _} {G:α→Prop} (k:∀ x,G x) (h:ZX (∀ x,G x)→P:=by exact fun g=>o_ O (br_ O (fun hlen=>o_ O (bw_ O O (T_ (aq_ O u_ (as_ (al_ (B_ (g.o hlen)))))))))):P:=h ⟨k⟩
theorem Zc {P G:Prop} (k:G) (h:ZX G→P:=by exact fun g=>R_ (o_ O (bn_ O O (E_ O (T_ (ap_ O w_ (R_ (o_ O (bn_ O O g.o))))))))):P:=h ⟨k⟩
theorem Zd {P G:Prop} (k:G) (h:ZX G→P:=by exact fun g=>ai_ O O b_ (ai_ O O b_ (ai_ O O b_ (ai_ O O b_ g.o)))):P:=h ⟨k⟩
theorem Ze {P G:Prop} (k:G) (h:ZX G→P:=by exact fun g=>ah_ O O b_ (bf_ O O O b_ (ah_ O O b_ (bg_ 0 O O O O (ah_ O O b_ g.o))))):P:=h ⟨k⟩
theorem Zf {P G:Prop} (k:G) (h:ZX G→P:=by exact fun g=>aa_ (fun c=>ow_strcat rfl O (by simp only [ByteArray.size_append,ba_lit,List.length_cons,List.length_nil];omega) p_) (aa_ (fun c=>ow_strcat rfl O (by simp only [ByteArray.size_append,ba_lit,List.length_cons,List.length_nil];omega) p_) g.o)):P:=h ⟨k⟩
theorem Zg {P G:Prop} (k:G) (h:ZX G→P:=by exact fun g=>ai_ O w_ b_ (ai_ O w_ b_ (ai_ O w_ b_ (ai_ O w_ b_ g.o)))):P:=h ⟨k⟩
theorem Zh {P:Prop} {α:Sort _} {G:α→Prop} (k:∀ x,G x) (h:ZX (∀ x,G x)→P:=by exact fun g=>o_ O (br_ O (fun hlen=>o_ O (bw_ O O (T_ (ap_ O w_ (av_ (ax_ (ax_ (ba_ (g.o hlen))))))))))):P:=h ⟨k⟩
theorem Zi {P G:Prop} (k:G) (h:ZX G→P:=by exact fun g=>yM_ O (aa_ (fun c=>cc_ O O g_ O O b_ p_) (aa_ (fun c=>cf_ O O O b_ O b_ p_) (aa_ (fun c=>cb_ O O p_) g.o)))):P:=h ⟨k⟩
theorem Zj {P G:Prop} (k:G) (h:ZX G→P:=by exact fun g=>R_ (o_ O (bw_ O O (T_ (am_ (aq_ O u_ (as_ (al_ (B_ (R_ g.o)))))))))):P:=h ⟨k⟩
theorem Zk {P G:Prop} (k:G) (h:ZX G→P:=by exact fun g=>ay_ (al_ (an_ (M_ O (o_ O (bj_ O O g_ (E_ O (ak_ g.o)))))))):P:=h ⟨k⟩
theorem Zl {P G:Prop} (k:G) (h:ZX G→P:=by exact fun g=>bw_ O O (T_ (am_ (ap_ O w_ (av_ (ax_ (ax_ (ba_ g.o)))))))):P:=h ⟨k⟩
theorem Zm {P:Prop} {α:Sort _} {G:α→Prop} (k:∀ x,G x) (h:ZX (∀ x,G x)→P:=by exact fun g=>o_ O (cc_ O O g_ O O b_ (o_ O (cr_ O O O (o_ O (bl_ O O (fun bl=>S_ 0 O (T_ (g.o bl))))))))):P:=h ⟨k⟩
theorem Zn {P G:Prop} (k:G) (h:ZX G→P:=by exact fun g=>ah_ O u_ b_ (bd_ O (ah_ O u_ b_ (bf_ O O O b_ (ah_ O u_ b_ (bg_ 0 O O O O (ah_ O u_ b_ (bm_ O (hV) (ah_ O u_ b_ (cd_ O g.o)))))))))):P:=h ⟨k⟩
theorem Zo {P G:Prop} (k:G) (h:ZX G→P:=by exact fun g=>ab_ O u_ (fun c=>bd_ O p_) (ab_ O w_ (fun c=>bf_ O O O b_ p_) (ab_ O w_ (fun c=>bg_ 0 O O O O p_) (ab_ O w_ (fun c=>bf_ O O O b_ p_) (ab_ O w_ (fun c=>bg_ 1 O O O O p_) (ab_ O w_ (fun c=>bd_ O p_) (ab_ O w_ (fun c=>cc_ O O g_ O O b_ p_) (ab_ O w_ (fun c=>cf_ O O O b_ O b_ p_) (ab_ O w_ (fun c=>cb_ O O p_) g.o))))))))):P:=h ⟨k⟩
theorem Zp {P G:Prop} (k:G) (h:ZX G→P:=by exact fun g=>bc_ 0 O (bc_ 0 O (bc_ 0 O (bc_ 0 O g.o)))):P:=h ⟨k⟩
theorem Zq {P G:Prop} (k:G) (h:ZX G→P:=by exact fun g=>o_ O (cc_ O O g_ (Sm.row_eq _) O b_ (o_ O (cr_ O O O g.o)))):P:=h ⟨k⟩
theorem Zr {P G:Prop} (k:G) (h:ZX G→P:=by exact fun g=>R_ (E_ O (T_ (ar_ (az_ (aw_ (aw_ (az_ g.o)))))))):P:=h ⟨k⟩
theorem Zs {P G:Prop} (k:G) (h:ZX G→P:=by exact fun g=>ah_ O O b_ (bd_ O (ah_ O O b_ g.o))):P:=h ⟨k⟩
theorem Zu {P G:Prop} (k:G) (h:ZX G→P:=by exact fun g=>R_ (o_ O (bn_ O O (E_ O (T_ g.o))))):P:=h ⟨k⟩
theorem Zv {P G:Prop} (k:G) (h:ZX G→P:=by exact fun g=>hp_tail (dj_ (i:=17) O k_ (by decide) (ow_mapPut (κ:=ByteArray) (vv:=fun v:Value=>v) (M:=fillF [] (t.arrays.map (fun x=>(x.1,va)))) 6 O O O O O (ht_done k_ g.o)))):P:=h ⟨k⟩
theorem Zw {P G:Prop} (k:G) (h:ZX G→P:=by exact fun g=>aa_ (fun c=>ow_strcat rfl O (by simp only [ba_lit,List.length_cons,List.length_nil];omega) p_) (aa_ (fun c=>ow_strcat rfl O (by simp only [ByteArray.size_append,ba_lit,List.length_cons,List.length_nil];omega) p_) g.o)):P:=h ⟨k⟩
theorem Zx {P G:Prop} (k:G) (h:ZX G→P:=by exact fun g=>ay_ (al_ (an_ (o_ O (bj_ O O g_ (M_ O (ak_ g.o))))))):P:=h ⟨k⟩
theorem Zy {P G:Prop} (k:G) (h:ZX G→P:=by exact fun g=>o_ O (cc_ O O g_ (T.row_eq _) O b_ (o_ O (cr_ O O O g.o)))):P:=h ⟨k⟩
theorem Zz {P G:Prop} (k:G) (h:ZX G→P:=by exact fun g=>yM_ O (yN_ O (yF_ O (yL_ 0 O (yF_ O (yL_ 6 O (aa_ (fun c=>cz_ O O g_ p_) (aa_ (fun c=>bj_ O O g_ p_) (aa_ (fun c=>ow_indexI 1 O O O g_ O p_) (aa_ (fun c=>ow_loadI 1 O O O g_ p_) (aa_ (fun c=>bj_ O O g_ p_) (aa_ (fun c=>ow_indexI 1 O O O g_ O p_) (ae_ (afin_none (ag_ (ow_storeI 1 O O O g_ O g.o)))))))))))))))):P:=h ⟨k⟩
theorem ZA {P G:Prop} (k:G) (h:ZX G→P:=by exact fun g=>aa_ (fun c=>cv_ O O g_ g_ (T.row_eq _) O b_ p_) (aa_ (fun c=>cr_ O O O p_) g.o)):P:=h ⟨k⟩
theorem ZB {P G:Prop} (k:G) (h:ZX G→P:=by exact fun g=>am_ (R_ (M_ O (F_ O (L_ 0 O g.o))))):P:=h ⟨k⟩
theorem ZC {P G:Prop} (k:G) (h:ZX G→P:=by exact fun g=>R_ (E_ O (E_ O (T_ (R_ (M_ O (o_ O (bm_ O (hA) (M_ O (o_ O (bm_ O (hB) (E_ O (E_ O (T_ (R_ (E_ O g.o)))))))))))))))):P:=h ⟨k⟩
theorem ZD {P:Prop} {α:Sort _} {G:α→Prop} (k:∀ x,G x) (h:ZX (∀ x,G x)→P:=by exact fun g=>R_ (o_ O (ci_ O (fun bx=>E_ O (T_ (am_ (R_ (g.o bx)))))))):P:=h ⟨k⟩
theorem ZE {P G:Prop} (k:G) (h:ZX G→P:=by exact fun g=>M_ O (ah_ O O b_ (bg_ 4 O O O O (ah_ O O b_ (bf_ O O O b_ (ah_ O O b_ (bg_ 2 O O O O g.o))))))):P:=h ⟨k⟩
theorem ZF {P G:Prop} (k:G) (h:ZX G→P:=by exact fun g=>ab_ O w_ (fun c=>bd_ O p_) (ab_ O w_ (fun c=>bd_ O p_) (ab_ O w_ (fun c=>cc_ O O g_ O O b_ p_) (ab_ O w_ (fun c=>cb_ O O p_) g.o)))):P:=h ⟨k⟩
theorem ZG {P G:Prop} (k:G) (h:ZX G→P:=by exact fun g=>yF_ O (yL_ 0 O (aa_ (fun c=>cs_ O O p_) (yM_ O (ab_ O u_ (fun c=>bf_ O O O b_ p_) (ab_ O u_ (fun c=>bg_ 0 O O O O p_) (ab_ O u_ (fun c=>bf_ O O O b_ p_) (ab_ O u_ (fun c=>bg_ 0 O O O O p_) (ab_ O u_ (fun c=>bz_ O O p_) g.o))))))))):P:=h ⟨k⟩
theorem ZH {P:Prop} {α:Sort _} {β:α→Sort _} {G:∀ x,β x→Prop} (k:∀ x y,G x y) (h:ZX (∀ x y,G x y)→P:=by exact fun g=>dg_ (i:=16) O k_ b_ (ow_appendM 0 (f:=Irow) (l1:=[]) (l2:=ss[0]) O O O O O O O (fun _=>O) (by show (0+_) * 8≤_;omega) (by show 0+_≤_;omega) (fun pp hpp=>g.o pp hpp))):P:=h ⟨k⟩
theorem ZI {P G:Prop} (k:G) (h:ZX G→P:=by exact fun g=>o_ O (cc_ O O g_ O O b_ (o_ O g.o))):P:=h ⟨k⟩
theorem ZJ {P G:Prop} (k:G) (h:ZX G→P:=by exact fun g=>M_ O (ah_ O w_ b_ (bf_ O O O b_ (ah_ O w_ b_ (bg_ 0 O O O O g.o))))):P:=h ⟨k⟩
theorem ZK {P G:Prop} (k:G) (h:ZX G→P:=by exact fun g=>T_ (aq_ O O (R_ (E_ O (T_ (ar_ g.o)))))):P:=h ⟨k⟩
theorem ZL {P G:Prop} (k:G) (h:ZX G→P:=by exact fun g=>ac_ O u_ (ac_ O u_ (ac_ O u_ (ac_ O u_ (ac_ O u_ g.o))))):P:=h ⟨k⟩
theorem ZM {P G:Prop} (k:G) (h:ZX G→P:=by exact fun g=>am_ (ao_ O O k_ k_ (yM_ O (yM_ O (aa_ (fun c=>cc_ O O g_ O O b_ p_) g.o))))):P:=h ⟨k⟩
theorem ZN {P G:Prop} (k:G) (h:ZX G→P:=by exact fun g=>ai_ O w_ b_ (ah_ O O b_ (bv_ O w_ O (o_ O (bv_ O O O (M_ O g.o)))))):P:=h ⟨k⟩
theorem ZO {P G:Prop} (k:G) (h:ZX G→P:=by exact fun g=>R_ (E_ O (T_ (am_ (R_ (E_ O (T_ (au_ g.o)))))))):P:=h ⟨k⟩
theorem ZQ {P G:Prop} (k:G) (h:ZX G→P:=by exact fun g=>ah_ O O b_ (cd_ O (o_ O (bv_ O O O g.o)))):P:=h ⟨k⟩
theorem ZR {P G:Prop} (k:G) (h:ZX G→P:=by exact fun g=>bm_ O (hP) (M_ O (X_ O (X_ O (E_ O (E_ O (T_ (R_ (M_ O g.o))))))))):P:=h ⟨k⟩
theorem ZS {P G:Prop} (k:G) (h:ZX G→P:=by exact fun g=>ah_ O u_ b_ (bd_ O (ah_ O (by (first | assumption | exact decide_eq_true O | exact decide_eq_true (by first | assumption | omega) | exact decide_eq_false (by first | assumption | omega) | with_reducible rfl | exact (O:false=!true) | exact (O:true=!false))) b_ g.o))):P:=h ⟨k⟩
theorem ZT {P:Prop} {α:Sort _} {G:α→Prop} (k:∀ x,G x) (h:ZX (∀ x,G x)→P:=by exact fun g=>o_ O (bl_ O O (fun bl=>S_ 0 O (T_ (am_ (R_ (F_ O (L_ 0 O (o_ O (bn_ O O (M_ O (g.o bl)))))))))))):P:=h ⟨k⟩
theorem ZU {P G:Prop} (k:G) (h:ZX G→P:=by exact fun g=>yL_ 0 O (yM_ O (aa_ (fun c=>cc_ O O g_ (T.row_eq _) O b_ p_) (aa_ (fun c=>cr_ O O O p_) (yM_ O (aa_ (fun c=>bm_ O (hC) p_) (aa_ (fun c=>cd_ O p_) (ae_ (al_ g.o))))))))):P:=h ⟨k⟩
theorem ZV {P G:Prop} (k:G) (h:ZX G→P:=by exact fun g=>R_ (E_ O (T_ (am_ (R_ (M_ O (o_ O g.o))))))):P:=h ⟨k⟩
theorem ZW {P G:Prop} (k:G) (h:ZX G→P:=by exact fun g=>ah_ O u_ b_ (bf_ O O O b_ (ah_ O u_ b_ (bg_ 0 O O O O (ah_ O u_ b_ g.o))))):P:=h ⟨k⟩
theorem ZY {P G:Prop} (k:G) (h:ZX G→P:=by exact fun g=>M_ O (M_ O (o_ O (cc_ O O g_ (Sm.row_eq _) O b_ (o_ O (cf_ O O O b_ O b_ (o_ O (cb_ O O g.o)))))))):P:=h ⟨k⟩
theorem ZZ {P G:Prop} (k:G) (h:ZX G→P:=by exact fun g=>bc_ 2 O (bc_ 4 O (bc_ 4 O (bc_ 1 O (bc_ 1 O (bc_ 2 O (bc_ 2 O (bc_ 0 O g.o)))))))):P:=h ⟨k⟩
theorem Z4 {P:Prop} {α:Sort _} {β:α→Sort _} {G:∀ x,β x→Prop} (k:∀ x y,G x y) (h:ZX (∀ x y,G x y)→P:=by exact fun g=>ow_appendM 0 O O O O O O O (fun _=>O) (by show (_+_) * 8≤_; first | omega | (simp only [List.length_append]; omega)) (by first | omega | (simp only [List.length_append]; omega)) (fun v3 hv3=>E_ O (ak_ (g.o v3 hv3)))):P:=h ⟨k⟩
theorem Z5 {P G:Prop} (k:G) (h:ZX G→P:=by exact fun g=>ai_ O O b_ (ai_ O O b_ (o_ O (bp_ O O O g.o)))):P:=h ⟨k⟩
theorem Z6 {P G:Prop} (k:G) (h:ZX G→P:=by exact fun g=>am_ (R_ (M_ O (F_ O (L_ 1 O g.o))))):P:=h ⟨k⟩
theorem Z7 {P G:Prop} (k:G) (h:ZX G→P:=by exact fun g=>aa_ (fun c=>bq_ O O b_ O O b_ p_) (ae_ (afin_none g.o))):P:=h ⟨k⟩
theorem Z8 {P G:Prop} (k:G) (h:ZX G→P:=by exact fun g=>ah_ O h_ b_ (bd_ O (ah_ O h_ b_ g.o))):P:=h ⟨k⟩
theorem Z9 {P G:Prop} (k:G) (h:ZX G→P:=by exact fun g=>aa_ (fun c=>ow_strcat O O g_ p_) (aa_ (fun c=>ow_strcat O O g_ p_) g.o)):P:=h ⟨k⟩
theorem Ya {P G:Prop} (k:G) (h:ZX G→P:=by exact fun g=>E_ O (T_ (ap_ O w_ (R_ (o_ O (bn_ O O g.o)))))):P:=h ⟨k⟩
theorem Yb {P G:Prop} (k:G) (h:ZX G→P:=by exact fun g=>yM_ O (yN_ O (yF_ O (yL_ 0 O (yM_ O (yN_ O (yF_ O (yL_ 0 O (aa_ (fun c=>br_ O (fun hlen=>p_)) g.o))))))))):P:=h ⟨k⟩
theorem Yc {P G:Prop} (k:G) (h:ZX G→P:=by exact fun g=>aa_ (fun c=>ow_strcat rfl O (by simp only [ByteArray.size_append,ba_lit,List.length_cons,List.length_nil];omega) p_) (ae_ (afin_none g.o))):P:=h ⟨k⟩
theorem Yd {P G:Prop} (k:G) (h:ZX G→P:=by exact fun g=>o_ O (bx_ O O (T_ (ap_ O w_ (as_ (al_ (B_ (R_ (A_ 0 O (o_ O (bm_ O (hL) (o_ O (cd_ O (E_ O (T_ g.o))))))))))))))):P:=h ⟨k⟩
theorem Ye {P G:Prop} (k:G) (h:ZX G→P:=by exact fun g=>bf_ O O O b_ (ah_ O h_ b_ (bg_ 0 O O O O (ah_ O h_ b_ g.o)))):P:=h ⟨k⟩
theorem Yf {P G:Prop} (k:G) (h:ZX G→P:=by exact fun g=>bn_ O O (ah_ O O b_ (bd_ O g.o))):P:=h ⟨k⟩
theorem Yg {P G:Prop} (k:G) (h:ZX G→P:=by exact fun g=>ai_ O u_ b_ (ai_ O u_ b_ (ai_ O u_ b_ g.o))):P:=h ⟨k⟩
theorem Yh {P G:Prop} (k:G) (h:ZX G→P:=by exact fun g=>R_ (F_ O (L_ 0 O (o_ O g.o)))):P:=h ⟨k⟩
theorem Yi {P G:Prop} (k:G) (h:ZX G→P:=by exact fun g=>ce_ O (M_ O (ah_ O w_ b_ (bg_ 4 O O O O (ah_ O w_ b_ (bf_ O O O b_ (ah_ O w_ b_ (bg_ 2 O O O O (ah_ O w_ b_ (bd_ O (ah_ O w_ b_ (bm_ O (c1) (ah_ O w_ b_ (cd_ O g.o)))))))))))))):P:=h ⟨k⟩
theorem Yj {P G:Prop} (k:G) (h:ZX G→P:=by exact fun g=>F_ O (L_ 2 O (o_ O (bn_ O O (T_ (ap_ O w_ (as_ (al_ (R_ (L_ 1 O (o_ O (cd_ O g.o)))))))))))):P:=h ⟨k⟩
theorem Yk {P G:Prop} (k:G) (h:ZX G→P:=by exact fun g=>bd_ O (ah_ O h_ b_ (cc_ O O g_ O O b_ (ah_ O h_ b_ (cf_ O O O b_ O b_ (ah_ O h_ b_ (cb_ O O (ah_ O h_ b_ g.o)))))))):P:=h ⟨k⟩
theorem Yl {P G:Prop} (k:G) (h:ZX G→P:=by exact fun g=>o_ O (ow_strcat rfl O (by simp only [ba_lit,List.length_cons,List.length_nil];omega) g.o)):P:=h ⟨k⟩
theorem Ym {P G:Prop} (k:G) (h:ZX G→P:=by exact fun g=>ow_callc [0] O O hcap O hC (T_ (aq_ O O (R_ (M_ O (E_ O (T_ (ar_ (az_ (aw_ (aw_ (az_ (aw_ (jq_ret1S O O (fun K h=>by rw [hres] at h; exact h) g.o)))))))))))))):P:=h ⟨k⟩
theorem Yn {P G:Prop} (k:G) (h:ZX G→P:=by exact fun g=>hp_tail (dj_ (i:=17) O k_ (by decide) (ow_mapPut (κ:=ByteArray) (vv:=fun v:Value=>v) (M:=([]:List (ByteArray × Value))) 6 O O O O O (ht_done k_ g.o)))):P:=h ⟨k⟩
theorem Yo {P G:Prop} (k:G) (h:ZX G→P:=by exact fun g=>cf_ O O O b_ O b_ (o_ O (cb_ O O (o_ O g.o)))):P:=h ⟨k⟩
theorem Yp {P G:Prop} (k:G) (h:ZX G→P:=by exact fun g=>av_ (ax_ (ax_ (ba_ (al_ (R_ (M_ O (E_ O (T_ g.o))))))))):P:=h ⟨k⟩
theorem Yq {P G:Prop} (k:G) (h:ZX G→P:=by exact fun g=>ah_ O u_ b_ (bd_ O (ah_ O u_ b_ g.o))):P:=h ⟨k⟩
theorem Yr {P:Prop} {α:Sort _} {G:α→Prop} (k:∀ x,G x) (h:ZX (∀ x,G x)→P:=by exact fun g=>am_ (R_ (M_ O (M_ O (o_ O (br_ O (fun hlen=>o_ O (bw_ O O (g.o hlen))))))))):P:=h ⟨k⟩
theorem Ys {P G:Prop} (k:G) (h:ZX G→P:=by exact fun g=>M_ O (M_ O (o_ O (bm_ O (hC) (o_ O (cd_ O (T_ g.o))))))):P:=h ⟨k⟩
theorem Yt {P:Prop} {α:Sort _} {G:α→Prop} (k:∀ x,G x) (h:ZX (∀ x,G x)→P:=by exact fun g=>o_ O (bl_ O O (fun bl=>S_ 0 O (T_ (g.o bl))))):P:=h ⟨k⟩
theorem Yu {P G:Prop} (k:G) (h:ZX G→P:=by exact fun g=>am_ (R_ (M_ O (M_ O g.o)))):P:=h ⟨k⟩
theorem Yv {P G:Prop} (k:G) (h:ZX G→P:=by exact fun g=>hp_tail (di_ (i:=7) O k_ b_ (by decide) (be_ O (ht_done k_ (jq_freeze 11 0 O O (by rw [hc]; simp [hb]) g.o))))):P:=h ⟨k⟩
theorem Yw {P G:Prop} (k:G) (h:ZX G→P:=by exact fun g=>F_ O (L_ 2 O (o_ O (bn_ O O (T_ (aq_ O u_ (R_ (L_ 1 O (M_ O (ah_ O O b_ (bg_ 3 O O O O (ah_ O O b_ (cs_ O O (o_ O (bp_ O O O (W_ 1 O g.o)))))))))))))))):P:=h ⟨k⟩
theorem Yx {P:Prop} {α:Sort _} {G:α→Prop} (k:∀ x,G x) (h:ZX (∀ x,G x)→P:=by exact fun g=>o_ O (bl_ O O (fun bl=>E_ O (T_ (am_ (R_ (A_ 1 O (o_ O (bm_ O (hC) (E_ O (T_ (R_ (M_ O (o_ O (bx_ O O (T_ (g.o bl))))))))))))))))):P:=h ⟨k⟩
theorem Yy {P G:Prop} (k:G) (h:ZX G→P:=by exact fun g=>E_ O (ak_ (ay_ (al_ (R_ (M_ O (o_ O (bm_ O (rWrap_c _) (E_ O (E_ O g.o)))))))))):P:=h ⟨k⟩
theorem Yz {P G:Prop} (k:G) (h:ZX G→P:=by exact fun g=>bc_ 1 O (bc_ 1 O (bc_ 1 O (bc_ 1 O g.o)))):P:=h ⟨k⟩
theorem YA {P G:Prop} (k:G) (h:ZX G→P:=by exact fun g=>ai_ O w_ b_ (o_ O (bv_ O w_ O g.o))):P:=h ⟨k⟩
theorem YB {P G:Prop} (k:G) (h:ZX G→P:=by exact fun g=>R_ (F_ O (L_ 0 O (T_ (au_ g.o))))):P:=h ⟨k⟩
theorem YC {P G:Prop} (k:G) (h:ZX G→P:=by exact fun g=>M_ O (ah_ O O b_ (bf_ O O O b_ (ah_ O O b_ g.o)))):P:=h ⟨k⟩
theorem YD {P G:Prop} (k:G) (h:ZX G→P:=by exact fun g=>M_ O (o_ O (bz_ O O (T_ (ap_ O w_ (as_ (al_ (am_ (R_ (F_ O g.o)))))))))):P:=h ⟨k⟩
theorem YE {P G:Prop} (k:G) (h:ZX G→P:=by exact fun g=>R_ (o_ O (bw_ O O (T_ (am_ (aq_ O O (as_ (al_ (B_ (R_ (o_ O (ow_indexAddr O O g_ O O b_ (o_ O (cb_ O O (E_ O (T_ g.o)))))))))))))))):P:=h ⟨k⟩
theorem YF {P G:Prop} (k:G) (h:ZX G→P:=by exact fun g=>M_ O (N_ O (F_ O (L_ 0 O g.o)))):P:=h ⟨k⟩
theorem YG {P G:Prop} (k:G) (h:ZX G→P:=by exact fun g=>aa_ (fun c=>cc_ O O g_ O O b_ p_) (aa_ (fun c=>cb_ O O p_) g.o)):P:=h ⟨k⟩
theorem YH {P:Prop} {α:Sort _} {G:α→Prop} (k:∀ x,G x) (h:ZX (∀ x,G x)→P:=by exact fun g=>br_ O (fun hlen=>ah_ O h_ b_ (bn_ O O (g.o hlen)))):P:=h ⟨k⟩
theorem YI {P G:Prop} (k:G) (h:ZX G→P:=by exact fun g=>df_ (i:=2) O k_ k_ k_ b_ hPan (dk_ O) (df_ (i:=3) O k_ k_ k_ b_ hPan (dr_ O) (df_ (i:=4) O k_ k_ k_ b_ hPan (dl_ O O O b_) g.o))):P:=h ⟨k⟩
theorem YJ {P G:Prop} (k:G) (h:ZX G→P:=by exact fun g=>aa_ (fun c=>ow_strcat rfl O (by simp only [ByteArray.size_append,ba_lit,List.length_cons,List.length_nil];omega) p_) (yF_ O g.o)):P:=h ⟨k⟩
theorem YK {P G:Prop} (k:G) (h:ZX G→P:=by exact fun g=>o_ O (bq_ O O b_ O O b_ (o_ O g.o))):P:=h ⟨k⟩
theorem YL {P:Prop} {α:Sort _} {β:α→Sort _} {G:∀ x,β x→Prop} (k:∀ x y,G x y) (h:ZX (∀ x y,G x y)→P:=by exact fun g=>ow_appendM 0 O O O O O O O (fun _=>O) (by show (_+_) * 8≤_; first | omega | (simp only [List.length_append]; omega)) (by first | omega | (simp only [List.length_append]; omega)) (fun v2 hv2=>E_ O (T_ (an_ (M_ O (F_ O (L_ 1 O (M_ O (g.o v2 hv2))))))))):P:=h ⟨k⟩
theorem YM {P G:Prop} (k:G) (h:ZX G→P:=by exact fun g=>aa_ (fun c=>cf_ O O O b_ O b_ p_) (aa_ (fun c=>cb_ O O p_) g.o)):P:=h ⟨k⟩
theorem YN {P G:Prop} (k:G) (h:ZX G→P:=by exact fun g=>M_ O (o_ O (bj_ O O g_ (E_ O (ak_ g.o))))):P:=h ⟨k⟩
theorem YO {P G:Prop} (k:G) (h:ZX G→P:=by exact fun g=>aa_ (fun c=>bj_ O O g_ p_) (yF_ O (yL_ 0 O (yM_ O (aa_ (fun c=>bj_ O O g_ p_) g.o))))):P:=h ⟨k⟩
theorem YP {P G:Prop} (k:G) (h:ZX G→P:=by exact fun g=>o_ O (cd_ O (E_ O (T_ (ap_ O O (R_ (A_ 0 O (o_ O (bm_ O (hR) (o_ O (cd_ O (E_ O g.o)))))))))))):P:=h ⟨k⟩
theorem YQ {P G:Prop} (k:G) (h:ZX G→P:=by exact fun g=>bw_ O O (M_ O (ah_ O w_ b_ (bd_ O (ah_ O w_ b_ g.o))))):P:=h ⟨k⟩
theorem YR {P G:Prop} (k:G) (h:ZX G→P:=by exact fun g=>M_ O (E_ O (T_ (R_ (M_ O (M_ O (M_ O g.o))))))):P:=h ⟨k⟩
theorem YS {P G:Prop} (k:G) (h:ZX G→P:=by exact fun g=>ah_ O O b_ (bp_ O u_ O (o_ O (bv_ O O O g.o)))):P:=h ⟨k⟩
theorem YT {P G:Prop} (k:G) (h:ZX G→P:=by exact fun g=>F_ O (L_ 0 O (o_ O (bn_ O O (M_ O g.o))))):P:=h ⟨k⟩
theorem YU {P G:Prop} (k:G) (h:ZX G→P:=by exact fun g=>al_ (R_ (L_ 3 O (E_ O (T_ (am_ (R_ g.o))))))):P:=h ⟨k⟩
theorem YV {P:Prop} {α:Sort _} {G:α→Prop} (k:∀ x,G x) (h:ZX (∀ x,G x)→P:=by exact fun g=>F_ O (L_ 0 O (o_ O (br_ O (fun hlen=>o_ O (ow_add O O (o_ O (bn_ O O (E_ O (T_ (R_ (g.o hlen)))))))))))):P:=h ⟨k⟩
theorem YW {P G:Prop} (k:G) (h:ZX G→P:=by exact fun g=>bd_ O (ah_ O O b_ (bm_ O (c1) (ah_ O O b_ (cd_ O g.o))))):P:=h ⟨k⟩
theorem YX {P G:Prop} (k:G) (h:ZX G→P:=by exact fun g=>E_ O (T_ (R_ (M_ O (o_ O g.o))))):P:=h ⟨k⟩
theorem YY {P G:Prop} (k:G) (h:ZX G→P:=by exact fun g=>ab_ O w_ (fun c=>bz_ O O p_) (aa_ (fun c=>bv_ O w_ O p_) g.o)):P:=h ⟨k⟩
theorem YZ {P G:Prop} (k:G) (h:ZX G→P:=by exact fun g=>o_ O (ow_indexAddrN 0 O O O hrv O b_ (o_ O (cr_ O O O (o_ O g.o))))):P:=h ⟨k⟩
theorem Y6 {P G:Prop} (k:G) (h:ZX G→P:=by exact fun g=>R_ (F_ O (L_ 0 O (M_ O g.o)))):P:=h ⟨k⟩
theorem Y7 {P G:Prop} (k:G) (h:ZX G→P:=by exact fun g=>an_ (o_ O (bq_ O O b_ O O b_ (M_ O (o_ O (ow_rem64 O O g_ g_ (o_ O (ow_indexAddr O O g_ O O b_ (o_ O (cb_ O O (E_ O (ak_ g.o)))))))))))):P:=h ⟨k⟩
theorem Y8 {P G:Prop} (k:G) (h:ZX G→P:=by exact fun g=>bc_ 0 O (bc_ 0 O (bc_ 0 O g.o))):P:=h ⟨k⟩
theorem Y9 {P G:Prop} (k:G) (h:ZX G→P:=by exact fun g=>R_ (L_ 0 O (M_ O (o_ O (ow_mapHasS (κ:=ByteArray) (M:=G) O O O O (M_ O (X_ O (X_ O (E_ O (E_ O (T_ (an_ (L_ 1 O (M_ O g.o)))))))))))))):P:=h ⟨k⟩
theorem Wa {P G:Prop} (k:G) (h:ZX G→P:=by exact fun g=>o_ O (bx_ O O (T_ (ap_ O w_ (as_ (al_ (am_ (R_ (A_ 0 O (o_ O (bm_ O (hL) (o_ O (cd_ O g.o))))))))))))):P:=h ⟨k⟩
theorem Wc {P G:Prop} (k:G) (h:ZX G→P:=by exact fun g=>o_ O (bp_ O O O (T_ (aq_ O O g.o)))):P:=h ⟨k⟩
theorem Wd {P G:Prop} (k:G) (h:ZX G→P:=by exact fun g=>aj_ O b_ (aj_ O b_ (aj_ O b_ g.o))):P:=h ⟨k⟩
theorem We {P G:Prop} (k:G) (h:ZX G→P:=by exact fun g=>aa_ (fun c=>bj_ O O g_ p_) (aa_ (fun c=>bm_ O (climited_c _) p_) (yE_ O (ae_ (al_ (ar_ (az_ g.o))))))):P:=h ⟨k⟩
theorem Wf {P G:Prop} (k:G) (h:ZX G→P:=by exact fun g=>aq_ O u_ (R_ (L_ 2 O (F_ O (L_ 0 O (o_ O (ow_mapGetI (κ:=ByteArray) (M:=M) O O O O (o_ O (bx_ O O (T_ g.o)))))))))):P:=h ⟨k⟩
theorem Wg {P G:Prop} (k:G) (h:ZX G→P:=by exact fun g=>yM_ O (yN_ O (yF_ O (yL_ 1 O g.o)))):P:=h ⟨k⟩
theorem Wh {P G:Prop} (k:G) (h:ZX G→P:=by exact fun g=>am_ (ao_ O O k_ k_ (aa_ (fun c=>bs_ 1 O O O O p_) g.o))):P:=h ⟨k⟩
theorem Wi {P G:Prop} (k:G) (h:ZX G→P:=by exact fun g=>bd_ O (ah_ O h_ b_ (bj_ O O g_ (ah_ O h_ b_ g.o)))):P:=h ⟨k⟩
theorem Wj {P:Prop} {α:Sort _} {G:α→Prop} (k:∀ x,G x) (h:ZX (∀ x,G x)→P:=by exact fun g=>R_ (F_ O (L_ 2 O (o_ O (br_ O (fun hlen=>M_ O (T_ (au_ (g.o hlen))))))))):P:=h ⟨k⟩
theorem Wk {P G:Prop} (k:G) (h:ZX G→P:=by exact fun g=>o_ O (ow_strcat rfl O (by simp only [ByteArray.size_append,ba_lit,List.length_cons,List.length_nil];omega) g.o)):P:=h ⟨k⟩
theorem Wl {P G:Prop} (k:G) (h:ZX G→P:=by exact fun g=>T_ (ap_ O O (as_ (al_ (am_ g.o))))):P:=h ⟨k⟩
theorem Wm {P G:Prop} (k:G) (h:ZX G→P:=by exact fun g=>M_ O (N_ O (F_ O (L_ 1 O (o_ O g.o))))):P:=h ⟨k⟩
theorem Wn {P G:Prop} (k:G) (h:ZX G→P:=by exact fun g=>cf_ O O O b_ O b_ (o_ O (cf_ O O O b_ O b_ (o_ O (cb_ O O (M_ O (o_ O (cs_ O O (M_ O g.o))))))))):P:=h ⟨k⟩
theorem Wo {P G:Prop} (k:G) (h:ZX G→P:=by exact fun g=>M_ O (o_ O (bm_ O (rWrap_c _) (E_ O (E_ O (T_ g.o)))))):P:=h ⟨k⟩
theorem Wp {P G:Prop} (k:G) (h:ZX G→P:=by exact fun g=>am_ (R_ (M_ O (o_ O (bz_ O O g.o))))):P:=h ⟨k⟩
theorem Wq {P G:Prop} (k:G) (h:ZX G→P:=by exact fun g=>aq_ O u_ (an_ (M_ O (M_ O (o_ O g.o))))):P:=h ⟨k⟩
theorem Wr {P G:Prop} (k:G) (h:ZX G→P:=by exact fun g=>o_ O (bj_ O O g_ (M_ O g.o))):P:=h ⟨k⟩
theorem Ws {P G:Prop} (k:G) (h:ZX G→P:=by exact fun g=>o_ O (bz_ O O (T_ (ap_ O w_ (as_ g.o))))):P:=h ⟨k⟩
theorem Wt {P G:Prop} (k:G) (h:ZX G→P:=by exact fun g=>ay_ (al_ (an_ (M_ O (o_ O (bj_ O O g_ g.o)))))):P:=h ⟨k⟩
theorem Wu {P G:Prop} (k:G) (h:ZX G→P:=by exact fun g=>A_ 0 O (o_ O (ow_callc [] O O hcap O c0 (o_ O (cd_ O (M_ O g.o)))))):P:=h ⟨k⟩
theorem Wv {P:Prop} {α:Sort _} {G:α→Prop} (k:∀ x,G x) (h:ZX (∀ x,G x)→P:=by exact fun g=>R_ (o_ O (ci_ O (fun bx=>E_ O (T_ (g.o bx)))))):P:=h ⟨k⟩
theorem Ww {P:Prop} (h:P:=by (repeat (first | exact True.intro | refine ⟨rfl,?_⟩))):P:=h
theorem Wx {P:Prop} (h:P:=by exact bc_ 0 O (bc_ 0 O sub_end)):P:=h
theorem Wy {P:Prop} (h:P:=by exact bc_ 0 O sub_end):P:=h
theorem Wz {P:Prop} (h:P:=by exact bn_ O O (ak_ (jq_seg 3 O O O (List.Perm.refl _)))):P:=h
theorem WA {P:Prop} (h:P:=by exact ak_ (jq_seg 4 O O O (List.Perm.refl _))):P:=h
theorem WB {P:Prop} (h:P:=by exact bm_ O (roneB_c _) (ak_ (jq_seg 3 O O O (List.Perm.refl _)))):P:=h
theorem WC {P:Prop} (h:P:=by exact bm_ O (hI _) (ak_ (jq_seg 5 O O O (List.Perm.refl _)))):P:=h
theorem WD {P:Prop} (h:P:=by exact bm_ O (rplainB_c _) (ah_ O h_ b_ (cd_ O (ak_ (jq_seg 4 O O O (List.Perm.refl _)))))):P:=h
theorem WE {P:Prop} (h:P:=by exact bc_ 1 O sub_end):P:=h
theorem WF {P:Prop} (h:P:=by exact bn_ O O (ak_ (jq_seg 2 O O O (List.Perm.refl _)))):P:=h
theorem WG {P:Prop} (h:P:=by exact bc_ 0 O (bc_ 0 O (bc_ 0 O sub_end))):P:=h
theorem WH {P:Prop} (h:P:=by exact br_ O (fun hlen=>ah_ O h_ b_ (bz_ O O (ak_ (jq_seg 4 O O O (List.Perm.refl _)))))):P:=h
theorem WI {P:Prop} (h:P:=by exact al_ (R_ (E_ O (T_ (ar_ (jq_ret1S O O (fun K h=>by rw [hres] at h; exact h) (bc_ 0 O sub_end))))))):P:=h
theorem WJ {P:Prop} (h:P:=by exact al_ (R_ (E_ O (T_ (ar_ (jq_ret1S O O (fun K h=>by rw [hres] at h; exact h) sub_end)))))):P:=h
theorem WK {P:Prop} (h:P:=by exact aw_ (jq_ret1S O O (fun K h=>by rw [hres] at h; exact h) sub_end)):P:=h
theorem WL {P:Prop} (h:P:=by exact aw_ (jq_ret1S O O (fun K h=>by rw [hres] at h; exact h) (bc_ 0 O (bc_ 0 O sub_end)))):P:=h
theorem WM {P:Prop} (h:P:=by exact ah_ O h_ b_ (bd_ O (ak_ (jq_seg 1 O O O (List.Perm.refl _))))):P:=h
theorem WN {P:Prop} (h:P:=by exact R_ (E_ O (T_ (ar_ (aw_ (jq_ret1S O O (fun K h=>by rw [hres] at h; exact h) sub_end)))))):P:=h
theorem WO {P:Prop} (h:P:=by exact aw_ (az_ (aw_ (aw_ (az_ (aw_ (jq_ret1S O O (fun K h=>by rw [hres] at h; exact h) sub_end))))))):P:=h
theorem WQ {P:Prop} (h:P:=by exact bm_ O (namedB_c _) (ak_ (jq_seg 3 O O O (List.Perm.refl _)))):P:=h
theorem WR {P:Prop} (h:P:=by exact bc_ 0 O (bc_ 0 O (bc_ 1 O sub_end))):P:=h
theorem WT {P:Prop} (h:P:=by exact az_ (aw_ (aw_ (az_ (aw_ (jq_ret1S O O (fun K h=>by rw [hres] at h; exact h) sub_end)))))):P:=h
theorem WU {P:Prop} (h:P:=by exact jq_ret1S O O (fun K h=>by rw [hres] at h; exact h) sub_end):P:=h
theorem WV {P:Prop} (h:P:=by exact bc_ 2 O (bc_ 4 O (bc_ 4 O (bc_ 1 O (bc_ 1 O (bc_ 2 O (bc_ 0 O (bc_ 1 O (bc_ 1 O sub_end))))))))):P:=h
theorem WW {P:Prop} (h:P:=by exact jq_retRowT O O O O O 0 O (fun K h=>by rw [hres] at h; exact h) sub_end):P:=h
end Go.Vc
end
section
namespace Go.Vc
open Go.RowKit
section
variable {P:Program} [Gl P] {nt:Nat} {c:Cx P nt} {env:Env} {H Hr:List Ch} {ops:Array Oper} {Q:Exit→Act→World→Prop} {Sw:World→Prop}
variable {m fuel:Nat} {listed:Array Bool} {i j k di dj dk:Nat} {opi opj:Op} {ti tj tk:TypeId} {pi pj pk:String} {afi afj afk:Array Edge} {s0:S}
theorem hp_list (js:List Nat) (hr:Region.ready .any ops listed=js) (hne:js≠[]) (h:∀ i ∈ js,∃ o,ops[i]?=some o∧(o.guard.isNone && okD o.dst nt)=true∧OpWp c o env H (fun s H'=>(∀ w,StW c H' w→Sw w)∧HP c ops Q Sw m fuel (listed.setIfInBounds i true) (putE o.dst s env) H')):HP c ops Q Sw m (fuel+1) listed env H:=by
 intro a w hst hS
 refine anyX_all hr hne (fun i hi=>?_)
 obtain ⟨o,ho,hg,h1⟩:=h i hi
 rw [Bool.and_eq_true,Option.isNone_iff_eq_none] at hg
 obtain ⟨dst,op,ty,pos,af,g⟩:=o
 obtain ⟨hg1,hg2⟩:=hg
 obtain rfl:g=none:=hg1
 unfold wpOp
 rw [ho]
 dsimp only
 rw [if_pos (show Region.wanted _ _=true from rfl)]
 refine .inl (h1 a w hst _ _ ?_)
 rintro s H' v w' ⟨hk1,hk2⟩ hw' hv hk
 refine ⟨fun _=>hk1 _ hw',hk2 _ _ ?_ (hk1 _ hw')⟩
 cases dst with
 | none=>exact hst.next0 hw' hk
 | some d=>exact hst.next (by simpa [okD] using hg2) hw' hv hk
theorem rdRow_val {w:World} {A:Nat→Prop} {row:List C} {cs:List Value} (h:RdRow w A row cs) (i:Nat) (v:Value) (hi:row[i]?=some (C.val v)):cs[i]?=some v:=by
 obtain ⟨u,hu,hr⟩:=rdRow_get h hi
 obtain ⟨rfl,_⟩:=hr
 exact hu
theorem jc_hpM {id n:Nat} (m:Nat) (hn:ops.size=n) {b1:Nat} {t1:TypeId} {r1:List C} (j1:Nat) (hm:P.follows .mixedOrders=true) (hp:pick [j1] H=some ([.blk b1 t1 r1],Hr))
 (h:∀ cs1:List Value,cs1.length=r1.length→(∀ (i:Nat) (v:Value),r1[i]?=some (C.val v)→cs1[i]?=some v)→HP c ops Q (Keep [(b1,cs1,t1)]) m n (Array.replicate n false) env H):JC c (.region id ops true) Q env H:=by
 intro a w hs
 obtain ⟨cs1,g1,k1⟩:=blk_ok hs hp
 refine hp_begin m hn hm hs ?_ (h cs1 (rdRow_length k1) (rdRow_val k1))
 intro p hp
 obtain rfl:=List.mem_singleton.1 hp
 exact g1
end
end Go.Vc
end
section
namespace Go.Vc
open Go.RowKit
section
variable {P:Program} [Gl P] {nt:Nat} {c:Cx P nt} {env:Env} {H Hr:List Ch} {ops:Array Oper} {Q:Exit→Act→World→Prop}
variable {x:Operand} {t:TypeId} {ty:TypeId} {pos:String} {af:Array Edge}
end
end Go.Vc
end
section
namespace Go.Vc
open Go.RowKit
def know (c:C) (v:Value):C:=match c with
 | .val u=>.val u
 | .both u c=>.both u c
 | c=>.both v c
def knows:C→Option Value
 | .val v=>some v
 | .both v _=>some v
 | _=>none
def knowsRow:List C→Option (List Value)
 | []=>some []
 | c :: cs=>match knows c,knowsRow cs with
  | some v,some l=>some (v :: l)
  | _,_=>none
def unk:C→C
 | .both _ c=>c
 | c=>c
theorem rd1_know {w:World} {A:Nat→Prop} {c:C} {v:Value} (h:Rd1 w A c v):Rd1 w A (know c v) v:=by
 cases c with
 | val u=>exact h
 | both u c=>exact h
 | _=>exact ⟨rfl,h⟩
theorem rdRow_know {w:World} {A:Nat→Prop}:∀ {row:List C} {cs:List Value},RdRow w A row cs→RdRow w A (List.zipWith know row cs) cs
 | [],_,h=>by simp only [RdRow] at h; subst h; rfl
 | c :: row,_,h=>by
  obtain ⟨v,r,rfl,h1,h2⟩:=h
  exact ⟨v,r,rfl,rd1_know h1,rdRow_know h2⟩
theorem rd1_knows {w:World} {A:Nat→Prop} {c:C} {u v:Value} (h:Rd1 w A c v) (hk:knows c=some u):v=u:=by
 cases c with
 | val x=>obtain rfl:=Option.some.inj hk; exact h.1
 | both x c=>obtain rfl:=Option.some.inj hk; exact h.1
 | _=>cases hk
theorem rdRow_knows {w:World} {A:Nat→Prop}:∀ {row:List C} {cs us:List Value},RdRow w A row cs→knowsRow row=some us→cs=us
 | [],_,us,h,hk=>by
  simp only [RdRow] at h
  subst h
  simpa [knowsRow] using hk
 | c :: row,_,us,h,hk=>by
  obtain ⟨v,r,rfl,h1,h2⟩:=h
  unfold knowsRow at hk
  split at hk
  ·rename_i x l e1 e2
   obtain rfl:=Option.some.inj hk
   rw [rd1_knows h1 e1,rdRow_knows h2 e2]
  ·cases hk
theorem rd1_unk {w:World} {A:Nat→Prop} {c:C} {v:Value} (h:Rd1 w A c v):Rd1 w A (unk c) v:=by
 cases c with
 | both u c=>exact h.2
 | _=>exact h
theorem rdRow_unk {w:World} {A:Nat→Prop}:∀ {row:List C} {cs:List Value},RdRow w A row cs→RdRow w A (row.map unk) cs
 | [],_,h=>h
 | c :: row,_,h=>by
  obtain ⟨v,r,rfl,h1,h2⟩:=h
  exact ⟨v,r,rfl,rd1_unk h1,rdRow_unk h2⟩
section
variable {P:Program} [Gl P] {nt:Nat} {c:Cx P nt} {env:Env} {H Hr:List Ch} {ops:Array Oper} {Q:Exit→Act→World→Prop} {Sw:World→Prop} {L:List (Nat × List Value × TypeId)}
variable {m fuel:Nat} {listed:Array Bool} {x:Operand} {t:TypeId} {ty:TypeId} {pos:String} {af:Array Edge}
theorem hp_know {b:Nat} {bt:TypeId} {row:List C} {cs:List Value} (j:Nat) (hp:pick [j] H=some ([.blk b bt row],Hr)) (hm:(b,cs,bt) ∈ L) (h:HP c ops Q (Keep L) m fuel listed env (.blk b bt (List.zipWith know row cs) :: Hr)):HP c ops Q (Keep L) m fuel listed env H:=by
 intro a w hst hS
 obtain ⟨cs',g1,g2⟩:=blk_ok hst hp
 have g3:=hS _ hm
 dsimp only at g3
 rw [g1] at g3
 obtain rfl:cs'=cs:=by simpa using g3
 exact h a w (st_row hst hp ⟨cs',g1,rdRow_know g2⟩) hS
theorem keepK {b1:Nat} {t1:TypeId} {row:List C} {cs1:List Value} (j:Nat) (hp:H[j]?=some (.blk b1 t1 row)) (hk:knowsRow row=some cs1):∀ w,StW c H w→Keep [(b1,cs1,t1)] w:=by
 intro w hw p hp2
 obtain rfl:=List.mem_singleton.1 hp2
 obtain ⟨cs,g1,g2⟩:=hw.ok _ (List.mem_of_getElem? hp)
 rw [rdRow_knows g2 hk] at g1
 exact g1
theorem keepK2 {b1 b2:Nat} {t1 t2:TypeId} {r1 r2:List C} {cs1 cs2:List Value} (j k:Nat) (hp:H[j]?=some (.blk b1 t1 r1)) (hk:knowsRow r1=some cs1) (hq:H[k]?=some (.blk b2 t2 r2)) (hk2:knowsRow r2=some cs2):∀ w,StW c H w→Keep [(b1,cs1,t1),(b2,cs2,t2)] w:=by
 intro w hw p hp2
 rcases List.mem_cons.1 hp2 with rfl | hp2
 ·exact keepK j hp hk w hw _ (List.mem_singleton.2 O)
 ·obtain rfl:=List.mem_singleton.1 hp2
  exact keepK k hq hk2 w hw _ (List.mem_singleton.2 O)
theorem hok_loadK {d:Option Tmp} {b o:Nat} {row:List C} {u:Value} {e:C} {bt:TypeId} {cs:List Value} [TI P t] (j:Nat) (ha:aggB (TI.u P t)=false) (hx:env.ev x=some (.cell (.val (.pointer (some ⟨b,o,none⟩))))) (hp:pick [j] H=some ([.blk b bt row],Hr))
 (hm:(b,cs,bt) ∈ L) (he:row[o]?=some (.both u e)):HOk c (Keep L) env H ⟨d,.load t x,ty,pos,af,none⟩ (.cell e) :=
 fun a w hst hS=>by
  obtain ⟨v,h1,h2⟩:=hok_load (d:=d) (ty:=ty) (pos:=pos) (af:=af) j ha hx hp hm he a w hst hS
  exact ⟨v,h1,h2.2⟩
def HStep (c:Cx P nt) (ops:Array Oper) (Q:Exit→Act→World→Prop) (Sw:World→Prop) (m fuel:Nat) (listed:Array Bool) (env:Env) (H:List Ch) (i:Nat) (o:Oper):Prop :=
 OpWp c o env H (fun s H'=>(∀ w,StW c H' w→Sw w)∧HP c ops Q Sw m fuel (listed.setIfInBounds i true) (putE o.dst s env) H')
theorem hs_v {i d:Nat} {op:Op} (h:OpWp c ⟨some d,op,ty,pos,af,none⟩ env H (fun s H'=>(∀ w,StW c H' w→Sw w)∧HP c ops Q Sw m fuel (listed.setIfInBounds i true) ((d,s) :: env) H')):HStep c ops Q Sw m fuel listed env H i ⟨some d,op,ty,pos,af,none⟩:=h
theorem hp_br2 {i j:Nat} {oi oj:Oper} (hi:ops[i]?=some oi) (hj:ops[j]?=some oj) (hr:Region.ready .any ops listed=[i,j]) (hg:((oi.guard.isNone && okD oi.dst nt) && (oj.guard.isNone && okD oj.dst nt))=true)
 (h1:HStep c ops Q Sw m fuel listed env H i oi) (h2:HStep c ops Q Sw m fuel listed env H j oj):HP c ops Q Sw m (fuel+1) listed env H:=by
 rw [Bool.and_eq_true] at hg
 refine hp_list _ hr (by simp) (fun q hq=>?_)
 rcases List.mem_cons.1 hq with rfl | hq
 ·exact ⟨_,hi,hg.1,h1⟩
 ·obtain rfl:=List.mem_singleton.1 hq
  exact ⟨_,hj,hg.2,h2⟩
theorem hp_br3 {i j k:Nat} {oi oj ok:Oper} (hi:ops[i]?=some oi) (hj:ops[j]?=some oj) (hk:ops[k]?=some ok) (hr:Region.ready .any ops listed=[i,j,k]) (hg:((oi.guard.isNone && okD oi.dst nt) && (oj.guard.isNone && okD oj.dst nt) && (ok.guard.isNone && okD ok.dst nt))=true)
 (h1:HStep c ops Q Sw m fuel listed env H i oi) (h2:HStep c ops Q Sw m fuel listed env H j oj) (h3:HStep c ops Q Sw m fuel listed env H k ok):HP c ops Q Sw m (fuel+1) listed env H:=by
 rw [Bool.and_eq_true,Bool.and_eq_true] at hg
 refine hp_list _ hr (by simp) (fun q hq=>?_)
 rcases List.mem_cons.1 hq with rfl | hq
 ·exact ⟨_,hi,hg.1.1,h1⟩
 ·rcases List.mem_cons.1 hq with rfl | hq
  ·exact ⟨_,hj,hg.1.2,h2⟩
  ·obtain rfl:=List.mem_singleton.1 hq
   exact ⟨_,hk,hg.2,h3⟩
theorem jq_unk {ex:Exit} {b:Nat} {t:TypeId} {row:List C} (cs:List Value) (j:Nat) (hp:pick [j] H=some ([.blk b t row],Hr)) (_hk:knowsRow row=some cs) (h:JQ c Q ex env (.blk b t (row.map unk) :: Hr)):JQ c Q ex env H :=
 fun a w hs=>h a w (st_row hs hp (let ⟨cs,g1,g2⟩:=blk_ok hs hp; ⟨cs,g1,rdRow_unk g2⟩))
end
end Go.Vc
end
section
namespace Go.Vc
open Go.RowKit
section
variable {P:Program} {ops:Array Oper} {Q:Exit→Act→World→Prop} {K:Act→World→Prop}
theorem upon_then {o:Oper} {a:Act} {next:Act→World→Prop} {r:Result Next} (h:o.upon P a next (Exit.then K Q) r):o.upon P a next Q r:=by
 cases r with
 | ok n w'=>cases n <;> first | exact h | exact Calls.mono h (fun e w'' he=>by cases e <;> exact he)
 | halt x w'=>cases x <;> exact h
theorem wpList_app {l2:List Oper}:∀ (l1:List Oper) (a:Act) (w:World),wpList P ops (Exit.then (wpList P ops Q l2) Q) l1 a w→wpList P ops Q (l1 ++ l2) a w
 | [],_,_,h=>h
 | o :: l,a,w,h=>by
  rw [List.cons_append]
  unfold wpList at h ⊢
  split
  ·rename_i hw
   rw [if_pos hw] at h
   rcases h with h | h
   ·exact .inl (upon_then (Oper.wp_mono (fun a w=>wpList_app l a w) h))
   ·exact .inr ⟨h.1,h.2⟩
  ·rename_i hw
   rw [if_neg hw] at h
   exact wpList_app l _ _ h
end
section
variable {P:Program} [Gl P] {nt:Nat} {c:Cx P nt} {env:Env} {H:List Ch} {ops:Array Oper} {Q:Exit→Act→World→Prop}
def segOk (env:Env) (g:Nat) (want:Bool) (l:List Oper):Bool:=l.all fun o=>o.guard == some (g,want) && (match o.dst with | some d=>(env.lookup d).isNone | none=>false)
def SegQ (c:Cx P nt) (env:Env) (H:List Ch) (y:Operand) (v:Bool) (a:Act) (w:World):Prop:=St c env H a w∧a.eval y=.bool v
theorem yield_of {a:Act} {w:World} {g z:Nat} {b:Bool} (hs:St c env H a w) (hgz:(ops[g]?).bind (·.dst)=some z) (hz:env.lookup z=some (Bl b)):yielded ops a.tmps g=some b:=by
 have hv:a.tmps.getD z undef=.bool b:=(hs.slots z _ hz).1
 have hlt:z < a.tmps.size:=by
  rcases Nat.lt_or_ge z a.tmps.size with h' | h'
  ·exact h'
  ·rw [Array.getD_eq_getD_getElem?,Array.getElem?_eq_none h'] at hv
   cases hv
 rw [Array.getD_eq_getD_getElem?,Array.getElem?_eq_getElem hlt] at hv
 simp only [Option.getD_some] at hv
 unfold yielded
 simp [hgz,hlt,hv]
theorem st_put_free {a:Act} {w:World} {d:Nat} {v:Value} (hs:St c env H a w) (hn:env.lookup d=none):St c env H (a.put (some d) v) w:=by
 refine ⟨by have:=hs.size; simpa [Act.put] using this,hs.defers,fun t s ht=>?_,hs.heap⟩
 have hne:t≠d:=by intro h; subst h; rw [hn] at ht; cases ht
 have h1:=hs.slots t s ht
 have h2:(a.put (some d) v).tmps.getD t undef=a.tmps.getD t undef:=by simp [Act.put,Array.getD_eq_getD_getElem?,Array.getElem?_setIfInBounds_ne (Ne.symm hne)]
 rw [h2]
 exact h1
theorem seg_skip {g z:Nat} {want:Bool} (hgz:(ops[g]?).bind (·.dst)=some z) (hz:env.lookup z=some (Bl (!want))) {Kl:Act→World→Prop} :
 ∀ (l:List Oper) (a:Act) (w:World),segOk env g want l=true→St c env H a w→(∀ a,St c env H a w→Kl a w)→wpList P ops (Exit.then Kl Q) l a w
 | [],a,w,_,hs,hK=>hK a hs
 | o :: l,a,w,hk,hs,hK=>by
  obtain ⟨dst,op,ty,pos,af,gd⟩:=o
  simp only [segOk,List.all_cons,Bool.and_eq_true] at hk
  obtain ⟨⟨h1,h2⟩,h3⟩:=hk
  have h1:gd=some (g,want):=by simpa using h1
  subst h1
  cases dst with
  | none=>cases h2
  | some d =>
   have h2:env.lookup d=none:=by simpa using h2
   unfold wpList
   rw [if_neg (by simp [Region.wanted,yield_of hs hgz hz])]
   exact seg_skip hgz hz l _ w h3 (st_put_free hs h2) hK
theorem jl_seg {want b:Bool} {n g z d:Nat} {l rest:List Oper} {px py y:Operand} {v r:Bool} {ty:TypeId} {pos:String} {af:Array Edge}
 (hr:l.drop n=⟨some d,.pick (.tmp z) px py,ty,pos,af,none⟩ :: rest) (hs:segOk env g want (l.take n)=true) (hgz:(ops[g]?).bind (·.dst)=some z) (hz:env.lookup z=some (Bl b)) (hd:d < nt)
 (h1:b=want→JL c ops (Exit.then (SegQ c env H y v) Q) (l.take n) env H)
 (hp:∀ a w,St c env H a w→(b=want→a.eval y=.bool v)→a.eval (if b then px else py)=.bool r)
 (h2:JL c ops Q rest ((d,Bl r) :: env) H):JL c ops Q l env H:=by
 intro a w hst
 have hpick:∀ a w,St c env H a w→(b=want→a.eval y=.bool v)→wpList P ops Q (⟨some d,.pick (.tmp z) px py,ty,pos,af,none⟩ :: rest) a w:=by
  intro a w hst hy
  refine wpList_plain O fun K hK=>?_
  have e1:a.eval (.tmp z)=.bool b:=ev_val (x:=.tmp z) hst (by simpa [Env.ev] using hz)
  have e2:=hp a w hst hy
  have hrun:(execOp a.eval ⟨some d,.pick (.tmp z) px py,ty,pos,af,none⟩).run P w=.ok (.value (.bool r)) w:=by
   cases b <;> simp_all [execOp,asBool]
  unfold Oper.wp
  rw [hrun,Oper.upon_value]
  exact hK _ _ (h2 _ _ (hst.next hd hst.heap ⟨rfl,rfl⟩ (fun _ _ h=>h)))
 rw [← List.take_append_drop n l,hr]
 refine wpList_app _ _ _ ?_
 by_cases hb:b=want
 ·have h3:=h1 hb a w hst
  -- what comes behind it
  have mono:∀ (l:List Oper) (a:Act) (w:World),wpList P ops (Exit.then (SegQ c env H y v) Q) l a w→wpList P ops (Exit.then (wpList P ops Q (⟨some d,.pick (.tmp z) px py,ty,pos,af,none⟩ :: rest)) Q) l a w:=by
   intro l
   induction l with
   | nil=>intro a w h; exact hpick a w h.1 (fun _=>h.2)
   | cons o l ih =>
    intro a w h
    unfold wpList at h ⊢
    split
    ·rename_i hw
     rw [if_pos hw] at h
     rcases h with h | h
     ·refine .inl ?_
      have h4:=Oper.wp_mono (fun a w=>ih a w) h
      unfold Oper.wp at h4 ⊢
      revert h4
      generalize (execOp a.eval o).run P w=res
      intro h4
      cases res with
      | ok nn w'=>cases nn <;> first | exact h4 | exact Calls.mono h4 (fun e w'' he=>by cases e <;> exact he)
      | halt x w'=>cases x <;> exact h4
     ·exact .inr ⟨h.1,h.2⟩
    ·rename_i hw
     rw [if_neg hw] at h
     exact ih _ _ h
  exact mono _ _ _ h3
 ·have hz':env.lookup z=some (Bl (!want)):=by rw [hz]; cases b <;> cases want <;> simp_all
  exact seg_skip hgz hz' _ a w hs hst (fun a hst=>hpick a w hst (fun h=>absurd h hb))
theorem jl_and (n g:Nat) {b:Bool} {z d:Nat} {l rest:List Oper} {y:Operand} {ty:TypeId} {pos:String} {af:Array Edge}
 (hr:l.drop n=⟨some d,.pick (.tmp z) y (.const (.bool false)),ty,pos,af,none⟩ :: rest) (hs:segOk env g true (l.take n)=true) (hgz:(ops[g]?).bind (·.dst)=some z) (hz:env.lookup z=some (Bl b)) (hd:d < nt)
 (h:∃ v:Bool,(b=true→JL c ops (Exit.then (SegQ c env H y v) Q) (l.take n) env H)∧JL c ops Q rest ((d,Bl (b && v)) :: env) H):JL c ops Q l env H :=
 let ⟨v,h1,h2⟩:=h
 jl_seg (y:=y) (v:=v) (r:=b && v) hr hs hgz hz hd h1 (fun a w _ hy=>by
  cases b with
  | true=>rw [if_pos rfl,Bool.true_and]; exact hy rfl
  | false=>rfl) h2
theorem jl_or (n g:Nat) {b:Bool} {z d:Nat} {l rest:List Oper} {y:Operand} {ty:TypeId} {pos:String} {af:Array Edge}
 (hr:l.drop n=⟨some d,.pick (.tmp z) (.const (.bool true)) y,ty,pos,af,none⟩ :: rest) (hs:segOk env g false (l.take n)=true) (hgz:(ops[g]?).bind (·.dst)=some z) (hz:env.lookup z=some (Bl b)) (hd:d < nt)
 (h:∃ v:Bool,(b=false→JL c ops (Exit.then (SegQ c env H y v) Q) (l.take n) env H)∧JL c ops Q rest ((d,Bl (b || v)) :: env) H):JL c ops Q l env H :=
 let ⟨v,h1,h2⟩:=h
 jl_seg (y:=y) (v:=v) (r:=b || v) hr hs hgz hz hd h1 (fun a w _ hy=>by
  cases b with
  | true=>rfl
  | false=>rw [if_neg (by simp),Bool.false_or]; exact hy rfl) h2
theorem jq_seg {env1:Env} {H1:List Ch} {y:Operand} {v:Bool} (k:Nat) (he:env1.drop k=env) (hk:((env1.take k).all fun p=>(env.lookup p.1).isNone)=true) (hy:env1.ev y=some (Bl v)) (hp:H1.Perm H) :
 JQ c (Exit.then (SegQ c env H y v) Q) .normal env1 H1:=by
 intro a w hst
 have hst1:St c env1 H a w:=hst.perm hp
 refine ⟨⟨hst.size,hst.defers,fun t s ht=>hst1.slots t s ?_,hst1.heap⟩,ev_val hst hy⟩
 rw [← List.take_append_drop k env1,he]
 have:∀ (l:Env),(l.all fun p=>(env.lookup p.1).isNone)=true→List.lookup t (l ++ env)=some s:=by
  intro l
  induction l with
  | nil=>intro _; exact ht
  | cons p l ih =>
   intro h
   obtain ⟨d,u⟩:=p
   simp only [List.all_cons,Bool.and_eq_true] at h
   rw [List.cons_append,List.lookup_cons]
   have hne:(t == d)=false:=by
    rw [beq_eq_false_iff_ne]
    intro h1
    subst h1
    rw [ht] at h
    simp at h
   rw [hne]
   exact ih h.2
 exact this _ hk
theorem st_same {a:Act} {w:World} {j:Nat} {u u':S} (h:St c env H a w) (hl:env.lookup j=some u) (he:u=u'):St c ((j,u') :: env) H a w:=by
 subst he
 refine ⟨h.size,h.defers,fun t s ht=>?_,h.heap⟩
 rcases lookup_cons ht with ⟨rfl,rfl⟩ | ⟨_,ht⟩
 ·exact h.slots _ _ hl
 ·exact h.slots t s ht
theorem jq_bl {e:Exit} (j:Nat) {b b':Bool} (hl:env.lookup j=some (Bl b)) (he:b=b') (h:JQ c Q e ((j,Bl b') :: env) H):JQ c Q e env H:=fun a w hs=>h a w (st_same hs hl (by rw [he]))
end
end Go.Vc
end
section
namespace Go.Vc
open Go.RowKit
theorem append_string_new {P:Program} (w:World) (t u ty e:TypeId) (i:TypeInfo) (ht:P.underlying t=some (.slice e)) (hu:P.underlying u=some .string) (hi:P.info? e=some i) (hz:i.zero=some (.int .u8 0))
 (hsize:i.size=1) (hby:i.bytes=1) (v:Value) (n:Nat) (xs:List Value) (hown:w.ownsRow 0 e 1 v n xs) (s:ByteArray) (hbytes:n+s.size≤140737488355328) {v':Value} {w':World}
 (hrun:(Builtin.append_ #[t,u] ty #[v,.string s]).run P w=.ok v' w'):∀ b,v'.ownBlock=some b→v.ownBlock=some b ∨ w.heap.size≤b:=by
 have hxl:xs.length=n:=by simpa using hown.1
 intro b hb
 rcases hown.2 with ⟨rfl,rfl⟩ | ⟨g,cap,cur,rfl,hbg,hg,hnc,hcm,hcs,htake⟩
 ·by_cases hm:s.size=0
  ·have hf:=Lib.run_firstCells_string (P:=P) w 1 s
   rw [hm] at hf
   have hn:Lib.strCells s=[]:=List.eq_nil_of_length_eq_zero (by rw [Lib.strCells_length]; exact hm)
   simp [Builtin.append_,run_underlying ht,run_underlying hu,sizeOf,typeInfo,hi,hsize,Builtin.lenOf,hm,hf,hn] at hrun
   rw [← hrun.1] at hb
   simp [Value.ownBlock] at hb
  ·have hr:=run_append_nil_string (P:=P) w t u ty e i (.int .u8 0) ht hu hi hz s (by omega) (by omega) (by rw [hby]; omega)
   rw [hr] at hrun
   simp only [Result.ok.injEq] at hrun
   rw [← hrun.1] at hb
   simp only [Value.ownBlock,Option.some.injEq] at hb
   exact .inr (by omega)
 ·by_cases hroom:n+s.size≤cap
  ·have hcs':cur.size=cap:=by simpa using hcs
   have hr:=Lib.run_append_room_string (P:=P) w t u ty e i ht hu hi hsize g n cap cur hg s hroom (by omega)
   rw [hr] at hrun
   simp only [Result.ok.injEq] at hrun
   rw [← hrun.1] at hb
   exact .inl hb
  ·have holds:∀ j u,xs[j]?=some u→w.cell? ((⟨g,0,none⟩:Addr).add j)=some u:=hown.cells (g:=g) rfl
   have hr:=Lib.run_append_grow_string (P:=P) w t u ty e i (.int .u8 0) ht hu hi hz ⟨g,0,none⟩ n cap xs (by rw [hsize]; simpa using hxl) holds s (by omega) (by omega) (by rw [hby]; exact growslice_fits (by omega) (by omega))
   rw [hr] at hrun
   simp only [Result.ok.injEq] at hrun
   rw [← hrun.1] at hb
   simp only [Value.ownBlock,Option.some.injEq] at hb
   exact .inr (by omega)
theorem rdRows_bytes {w:World} {A:Nat→Prop} (s:ByteArray):RdRows w A 1 ((bytesI s).map Brow) (Lib.strCells s):=by
 have:∀ l:List UInt8,RdRows w A 1 ((l.map fun b=>(b.toNat:Int)).map Brow) (l.map fun b=>Value.int .u8 b.toNat):=by
  intro l
  induction l with
  | nil=>rfl
  | cons b l ih=>exact ⟨[.int .u8 b.toNat],_,rfl,rfl,⟨_,_,rfl,⟨rfl,rfl⟩,rfl⟩,ih⟩
 exact this s.data.toList
theorem ba_lit (l:List UInt8):(⟨l.toArray⟩:ByteArray).size=l.length:=rfl
theorem bytesI_app (s t:ByteArray):bytesI (s ++ t)=bytesI s ++ bytesI t:=by simp [bytesI]
theorem bytesOf_bytesI (s:ByteArray):bytesOf (bytesI s)=s:=by
 have h1:∀ (l:List UInt8) (r:ByteArray),(l.map fun b=>(b.toNat:Int)).foldl (fun r n=>r.push (UInt8.ofNat n.toNat)) r=r ++ ⟨l.toArray⟩:=by
  intro l
  induction l with
  | nil=>intro r; apply ByteArray.ext; simp
  | cons b l ih =>
   intro r
   rw [List.map_cons,List.foldl_cons,ih]
   apply ByteArray.ext
   simp [ByteArray.push]
 have h2:=h1 s.data.toList ByteArray.empty
 unfold bytesOf bytesI
 rw [h2]
 apply ByteArray.ext
 simp
section
variable {P:Program} [Gl P] {nt:Nat} {c:Cx P nt} {env:Env} {H:List Ch} {K:S→List Ch→Prop}
variable {d:Option Tmp} {ty t u:TypeId} {pos:String} {af:Array Edge} {g:Option (Nat × Bool)} {x y:Operand}
theorem ow_appendS {v:Value} {X s:ByteArray} {e:TypeId} {Hr:List Ch} [SL P t] [TI P u] (j:Nat) (hu:TI.u P u=.string) (hx:env.ev x=some (.cell (.val v))) (hy:env.ev y=some (Str s)) (hp:pick [j] H=some ([.own v e 1 ((bytesI X).map Brow)],Hr)) (he:e=SL.e P t)
 (hz:(TI.i P (SL.e P t)).zero=some (.int .u8 0)) (hsz:(TI.i P (SL.e P t)).size=1) (hby:(TI.i P (SL.e P t)).bytes=1) (hlim:X.size+s.size≤140737488355328)
 (hK:∀ v',(c.Fresh v→c.Fresh v')→K (.cell (.val v')) (.own v' e 1 ((bytesI (X ++ s)).map Brow) :: Hr)) :
 OpWp c ⟨d,.call { callee:=.builtin .append,args:=#[x,y],argTypes:=#[t,u] },ty,pos,af,g⟩ env H K:=by
 subst he
 intro a w h next Q hn
 have hperm:=pick_perm hp
 have h':StW c (.own v (SL.e P t) 1 ((bytesI X).map Brow) :: Hr) w:=h.heap.perm hperm
 have hav:c.av (.own v (SL.e P t) 1 ((bytesI X).map Brow) :: Hr)=c.av H:=av_perm c hperm
 obtain ⟨vs,ho,hr,hk⟩:=h'.ok (.own v (SL.e P t) 1 ((bytesI X).map Brow)) (by simp)
 have h1x:=ev_val h hx
 have h1y:=ev_val h hy
 have eX:((bytesI X).map Brow).length=X.size:=by rw [List.length_map,bytesI_len]
 rw [eX] at ho
 have hu':P.underlying u=some .string:=by rw [TI.hu (P:=P) (t:=u),hu]
 obtain ⟨v',w',hrun,ho',hg,_⟩:=Lib.run_append_own_string (P:=P) w 0 t u ty (SL.e P t) (TI.i P (SL.e P t)) SL.hs hu' TI.hi hz hsz hby v X.size vs ho s (by unfold maxLen; omega) hlim (Nat.zero_le _)
 have hnew:=append_string_new (P:=P) w t u ty (SL.e P t) (TI.i P (SL.e P t)) SL.hs hu' TI.hi hz hsz hby v X.size vs ho s hlim hrun
 have hgr:Grow (hb [.own v (SL.e P t) 1 ((bytesI X).map Brow)]) w w':=by
  have:=Grow.of_grownBy hg
  simpa [hb,Ch.bs] using this
 have hAold:∀ b,c.av (.own v' (SL.e P t) 1 ((bytesI (X ++ s)).map Brow) :: Hr) b→c.av H b ∨ w.heap.size≤b:=by
  intro b hbm
  rcases hbm with hbm | hbm
  ·exact .inl (.inl hbm)
  ·simp only [hb_cons,Ch.bs,List.mem_append,Option.mem_toList] at hbm
   rw [← hav]
   rcases hbm with hbm | hbm
   ·rcases hnew b hbm with h1 | h1
    ·exact .inl (.inr (by simp [hb_cons,Ch.bs,h1]))
    ·exact .inr h1
   ·exact .inl (.inr (by simp only [hb_cons,List.mem_append]; exact .inr hbm))
 have hupA:Up (c.av H) w w':=by
  refine hgr.up (fun b hbm=>?_)
  rw [← hav]
  exact .inr (by simp only [hb,List.flatMap_cons,List.flatMap_nil,List.append_nil] at hbm; simp only [hb_cons,List.mem_append]; exact .inl hbm)
 obtain ⟨s1,s2⟩:=StW.step (H1:=[.own v (SL.e P t) 1 ((bytesI X).map Brow)]) (H1':=[.own v' (SL.e P t) 1 ((bytesI (X ++ s)).map Brow)]) h' hgr
  (by
   intro b hbm
   simp only [hb,Ch.bs,List.flatMap_cons,List.flatMap_nil,List.append_nil,Option.mem_toList] at hbm ⊢
   exact hnew b hbm)
  (by cases hv:v'.ownBlock <;> simp [hb,Ch.bs,hv])
  (by
   intro ch hch
   simp only [List.mem_singleton] at hch
   subst hch
   refine ⟨vs ++ Lib.strCells s,?_,?_,hk⟩
   ·rw [List.length_map,bytesI_len,ByteArray.size_append]; exact ho'
   ·rw [bytesI_app,List.map_append]
    exact rdRows_append (rdRows_up hupA hAold 1 _ vs (hav ▸ hr)) (rdRows_bytes s))
 unfold Oper.wp
 have hex:(execOp a.eval ⟨d,.call { callee:=.builtin .append,args:=#[x,y],argTypes:=#[t,u] },ty,pos,af,g⟩).run P w=.ok (.value v') w':=by
  simp only [execOp,resolve,invoke,builtin,Sem.run_bind,Sem.run_pure,Result.andThen_ok,List.map_toArray,List.map_cons,List.map_nil,h1x,h1y,hrun]
 rw [hex]
 obtain ⟨al,ac,hv'⟩:=own_len ho'
 have h1':v'.oneCell'=true:=by rw [hv']; rfl
 exact hn _ _ _ _ (hK v' (fun hf b hb=>(hnew b hb).elim (hf b) (fun h=>Nat.le_trans h'.size h))) s1 ⟨rfl,h1'⟩ (fun s v hs=>s2 s v (by rw [List.singleton_append,hav]; exact hs))
end
end Go.Vc
end
section
namespace Go.Vc
open Go.RowKit
section
variable {P:Program} [Gl P] {nt:Nat} {c:Cx P nt} {env:Env} {H Hr:List Ch} {K:S→List Ch→Prop}
variable {d:Option Tmp} {ty t t' u:TypeId} {pos:String} {af:Array Edge} {g:Option (Nat × Bool)} {x y:Operand}
theorem hok_indexList {Sw:World→Prop} [SL P t] {rows:List (List C)} {m:Int} {row:List C} (hx:env.ev x=some (.cell (.list rows))) (hy:env.ev y=some (In .i64 m)) (h0:0≤m) (hrow:rows[m.toNat]?=some row) (hz:(TI.i P (SL.e P t)).size=row.length) (hp:0 < row.length) :
 HOk c Sw env H ⟨d,.indexAddr t x y,ty,pos,af,none⟩ (.cell (.place row)) :=
 fun a w h _=>by
  obtain ⟨hlt,_⟩:=List.getElem?_eq_some_iff.1 hrow
  obtain ⟨ad,cap,he,_,_,hb⟩:=ev_ok h hx
  rcases hb with hb | ⟨b,off,vs,k,rfl,hA,hc,hk,hr⟩
  ·omega
  ·obtain ⟨cs,h1,h2,h3⟩:=rdRows_get hr hc hrow
   have hkl:k=row.length:=by rw [← h2,rdRow_length h1]
   refine ⟨.pointer (some ⟨b,off+m.toNat * k,none⟩),fun w' _=>?_,b,_,cs,rfl,hA,hp,h3,h1⟩
   have:0≤m∧m < ↑rows.length:=⟨h0,by omega⟩
   simp [execOp,he,ev_val h hy,Instr.indexAt,asIntOf,run_elem t,this,run_sizeOf,add_at,hz,hkl]
end
end Go.Vc
end
section
namespace Go.Vc
open Go.RowKit
set_option maxHeartbeats 1000000
section
variable {P:Program} [Gl P] {nt:Nat} {c:Cx P nt} {env:Env} {H:List Ch} {K:S→List Ch→Prop} {d:Option Tmp} {t tn ty:TypeId} {pos:String} {af:Array Edge} {g:Option (Nat × Bool)} {x y:Operand}
theorem ow_growNil [SL P t] [TI P tn] {z:Value} (n:Nat) (hn:TI.u P tn=.int .i64) (hz:(TI.i P (SL.e P t)).zero=some z) (h1:z.cells.toList.all Value.oneCell'=true) (hsz:(TI.i P (SL.e P t)).size=z.cells.size) (hpos:0 < z.cells.size)
 (hx:env.ev x=some (.cell (.val (.slice none 0 0)))) {m:Int} (hy:env.ev y=some (In .i64 m)) (hm:m=n) (h0:0 < n) (hlim:n * (TI.i P (SL.e P t)).bytes≤140737488355328) (hmax:n≤140737488351232)
 (hK:∀ v,v.oneCell'=true→c.Fresh v→K (.cell (.val v)) (.own v (SL.e P t) z.cells.size (List.replicate n (zeroRow z)) :: H)) :
 OpWp c ⟨d,.call { callee:=.builtin .append,args:=#[x,y],argTypes:=#[t,tn] },ty,pos,af,g⟩ env H K:=by
 subst hm
 intro a w h next Q hnx
 have hrun:=Lib.run_append_grow_zeros (P:=P) w t tn ty (SL.e P t) (TI.i P (SL.e P t)) z .i64 .i64 SL.hs (by rw [TI.hu (P:=P) (t:=tn),hn]) TI.hi hz none 0 0 [] (by simp [Builtin.firstCells]) n h0 (by omega) (by omega) (by omega) (by omega) (by rw [Nat.zero_add,nextslicecap_zero h0]; omega)
 simp only [Nat.zero_add] at hrun
 have hge:=grownCap_ge w n 0 (SL.e P t)
 have hcm:grownCap w n 0 (SL.e P t)≤maxLen:=grownCap_le_maxLen w n 0 (SL.e P t) (by unfold maxLen; omega)
 generalize grownCap w n 0 (SL.e P t)=G at hrun hge hcm
 have hzc:(Builtin.zeroCells z.cells n).size=n * z.cells.size:=by simp [Builtin.zeroCells]
 have ho:(w.drew.alloc (.cells (([]:List Value).toArray ++ Builtin.zeroCells z.cells n ++ Builtin.zeroCells z.cells (G - n)) (SL.e P t))).ownsRow 0 (SL.e P t) z.cells.size (.slice (some ⟨w.heap.size,0,none⟩) n G) n (Builtin.zeroCells z.cells n).toList:=by
  refine ⟨by rw [Array.length_toList,hzc],.inr ⟨w.heap.size,G,_,rfl,Nat.zero_le _,heap_alloc_new w.drew _,hge,hcm,?_,?_⟩⟩
  ·simp only [Array.size_append,List.size_toArray,List.length_nil,hzc,size_zeroCells,Nat.zero_add]
   rw [← Nat.add_mul]
   congr 1
   omega
  ·simp only [Array.toList_append,List.nil_append]
   rw [← hzc,← Array.length_toList]
   exact List.take_left
 have hg:w.grownBy (w.drew.alloc (.cells (([]:List Value).toArray ++ Builtin.zeroCells z.cells n ++ Builtin.zeroCells z.cells (G - n)) (SL.e P t))) none:=⟨rfl,rfl,rfl,by simp,fun k hk _=>Go.heap_alloc_old w.drew _ hk⟩
 generalize w.drew.alloc (.cells (([]:List Value).toArray ++ Builtin.zeroCells z.cells n ++ Builtin.zeroCells z.cells (G - n)) (SL.e P t))=w' at hrun ho hg
 have hgr:Grow (hb []) w w':=by simpa [hb] using Grow.of_grownBy hg
 have h':StW c ([] ++ H) w:=h.heap
 have hav:∀ b,c.av (.own (.slice (some ⟨w.heap.size,0,none⟩) n G) (SL.e P t) z.cells.size (List.replicate n (zeroRow z)) :: H) b→c.av H b ∨ w.heap.size≤b:=by
  intro b hb'
  rcases hb' with hb' | hb'
  ·exact .inl (.inl hb')
  ·rw [hb_cons] at hb'
   rcases List.mem_append.1 hb' with hb' | hb'
   ·simp only [Ch.bs,Value.ownBlock,Option.mem_toList,Option.some.injEq] at hb'
    exact .inr (by omega)
   ·exact .inl (.inr hb')
 obtain ⟨s1,s2⟩:=StW.step (H1':=[.own (.slice (some ⟨w.heap.size,0,none⟩) n G) (SL.e P t) z.cells.size (List.replicate n (zeroRow z))]) h' hgr (by simp [hb,Ch.bs,Value.ownBlock]) (by simp [hb,Ch.bs,Value.ownBlock]) (by
  intro ch hch
  simp only [List.mem_singleton] at hch
  subst hch
  refine ⟨_,by rw [List.length_replicate]; exact ho,?_,hpos⟩
  have e:(Builtin.zeroCells z.cells n).toList=(List.range (n * z.cells.size)).map fun i=>z.cells[i % z.cells.size]!:=by simp [Builtin.zeroCells]
  rw [e]
  exact rdRows_up (A:=c.av H) (hgr.up (by simp [hb])) hav _ _ _ (rdRows_zeros O (List.all_eq_true.1 h1) n))
 unfold Oper.wp
 have hex:(execOp a.eval ⟨d,.call { callee:=.builtin .append,args:=#[x,y],argTypes:=#[t,tn] },ty,pos,af,g⟩).run P w=.ok (.value (.slice (some ⟨w.heap.size,0,none⟩) n G)) w':=by
  simp only [execOp,resolve,invoke,builtin,Sem.run_bind,Sem.run_pure,Result.andThen_ok,List.map_toArray,List.map_cons,List.map_nil,ev_val h hx,ev_val h hy,hrun]
 rw [hex]
 exact hnx _ _ _ _ (hK _ O (fun b hb=>by simp only [Value.ownBlock,Option.some.injEq] at hb; have:=h.heap.size; omega)) s1 ⟨rfl,rfl⟩ s2
theorem ow_capNil [SL P t] (hx:env.ev x=some (.cell (.val (.slice none 0 0)))) (hK:K (In .i64 0) H):OpWp c ⟨d,.call { callee:=.builtin .cap,args:=#[x],argTypes:=#[t] },ty,pos,af,g⟩ env H K :=
 ow_valx rfl (fun a w h=>by
  simp [execOp,resolve,invoke,builtin,ev_val h hx,Builtin.cap_,run_underlying (SL.hs (P:=P) (t:=t)),goInt]) hK
theorem ow_lenNil [SL P t] (hx:env.ev x=some (.cell (.val (.slice none 0 0)))) (hK:K (In .i64 0) H):OpWp c ⟨d,.call { callee:=.builtin .len,args:=#[x],argTypes:=#[t] },ty,pos,af,g⟩ env H K :=
 ow_valx rfl (fun a w h=>by
  simp [execOp,resolve,invoke,builtin,ev_val h hx,Builtin.len_,run_underlying (SL.hs (P:=P) (t:=t)),goInt]) hK
theorem ow_trimNil [SL P t] (hx:env.ev x=some (.cell (.val (.slice none 0 0)))) (hy:env.ev y=some (In .i64 0)) (hK:K (.cell (.val (.slice none 0 0))) H):OpWp c ⟨d,.slice t x none (some y) none,ty,pos,af,g⟩ env H K :=
 ow_valx rfl (fun a w h=>by
  simp [execOp,ev_val h hx,ev_val h hy,Instr.sliceAt,Instr.slice,Instr.sliceBounds,Instr.sliceBound,asIntOf,run_elem t,run_sizeOf]) hK
end
end Go.Vc
end
section
namespace Go.Vc
open Go.RowKit
set_option maxHeartbeats 1000000
section
variable {P:Program} [Gl P] {nt:Nat} {c:Cx P nt} {env:Env} {H Hr:List Ch} {K:S→List Ch→Prop} {d:Option Tmp} {t t' te ty:TypeId} {pos:String} {af:Array Edge} {g:Option (Nat × Bool)} {x y:Operand}
theorem ow_ptrNil [TI P t] (ht:TI.u P t=.pointer te) (hx:env.ev x=some (.cell (.val (.pointer none)))) (hy:env.ev y=some (.cell (.val (.pointer none)))) (hK:K (Bl true) H):OpWp c ⟨d,.binOp .eql t x y t',ty,pos,af,g⟩ env H K :=
 ow_valx rfl (fun a w h=>by
  have hu:P.underlying t=some (.pointer te):=by rw [TI.hu (P:=P) (t:=t),ht]
  have h1:∀ n:Nat,(Op.equalIn (n+1) t (.pointer none) (.pointer none)).run P w=.ok true w:=fun n=>by
   simp [Op.equalIn,run_underlying hu]
  have h2:(binOp .eql t (.pointer none) (.pointer none)).run P w=.ok (.bool true) w:=by
   simp only [binOp]
   simp [Op.equal,Op.maxDepth,h1 9999]
  simp [execOp,ev_val h hx,ev_val h hy,eqGuard,h2]) hK
theorem ow_ptrNotNil [TI P t] (ht:TI.u P t=.pointer te) {p:Addr} (hx:env.ev x=some (.cell (.val (.pointer (some p))))) (hy:env.ev y=some (.cell (.val (.pointer none)))) (hK:K (Bl false) H):OpWp c ⟨d,.binOp .eql t x y t',ty,pos,af,g⟩ env H K :=
 ow_valx rfl (fun a w h=>by
  have hu:P.underlying t=some (.pointer te):=by rw [TI.hu (P:=P) (t:=t),ht]
  have h1:∀ n:Nat,(Op.equalIn (n+1) t (.pointer (some p)) (.pointer none)).run P w=.ok false w:=fun n=>by
   simp [Op.equalIn,run_underlying hu]
  have h2:(binOp .eql t (.pointer (some p)) (.pointer none)).run P w=.ok (.bool false) w:=by
   simp only [binOp]
   simp [Op.equal,Op.maxDepth,h1 9999]
  simp [execOp,ev_val h hx,ev_val h hy,eqGuard,h2]) hK
theorem ow_ptrSame [TI P t] [TI P te] (ht:TI.u P t=.pointer te) {p:Addr} (hx:env.ev x=some (.cell (.val (.pointer (some p))))) (hy:env.ev y=some (.cell (.val (.pointer (some p))))) (hK:K (Bl false) H):OpWp c ⟨d,.binOp .neq t x y t',ty,pos,af,g⟩ env H K :=
 ow_valx rfl (fun a w h=>by
  have hu:P.underlying t=some (.pointer te):=by rw [TI.hu (P:=P) (t:=t),ht]
  have h2:=Lib.run_neq_ptr_same (P:=P) w p hu (TI.hi (P:=P) (t:=te))
  simp [execOp,ev_val h hx,ev_val h hy,eqGuard,h2]) hK
theorem shape_of_blk {w:World} {b:Nat} {cs:List Value} {bt:TypeId} (hh:w.heap[b]?=some (.cells cs.toArray bt (0,0))):w.shape? b=some (bt,cs.length):=by
 simp [World.shape?,hh]
theorem ow_toUnsafe {dst:TypeId} [TI P t] [TI P dst] [TI P te] (j:Nat) {b:Nat} {bt:TypeId} {row:List C} (ht:TI.u P t=.pointer te) (hd:TI.u P dst=.unsafePointer) (hz:(TI.i P te).size≠0) (hx:env.ev x=some (.cell (.val (.pointer (some ⟨b,0,none⟩)))))
 (hp:pick [j] H=some ([.blk b bt row],Hr)) (hr:0 < row.length) (hK:K (.cell (.val (.pointer (some ⟨b,0,none⟩)))) H):OpWp c ⟨d,.convert t dst x,ty,pos,af,g⟩ env H K :=
 ow_valx rfl (fun a w h=>by
  obtain ⟨cs,hh,hrd⟩:=blk_ok h hp
  have hu:P.underlying t=some (.pointer te):=by rw [TI.hu (P:=P) (t:=t),ht]
  have hv:P.underlying dst=some .unsafePointer:=by rw [TI.hu (P:=P) (t:=dst),hd]
  have h2:=Lib.run_to_unsafe (P:=P) w ⟨b,0,none⟩ hu hv (TI.hi (P:=P) (t:=te)) hz (shape_of_blk hh) (by rw [rdRow_length hrd]; exact hr)
  simp only [execOp,ev_val h hx,Sem.run_bind,h2,Result.andThen_ok,Sem.run_pure]) hK
theorem ow_fromUnsafe {dst u:TypeId} [TI P t] [TI P dst] [TI P u] (j:Nat) {b:Nat} {bt:TypeId} {row:List C} (ht:TI.u P t=.unsafePointer) (hd:TI.u P dst=.pointer u) (hx:env.ev x=some (.cell (.val (.pointer (some ⟨b,0,none⟩)))))
 (hp:pick [j] H=some ([.blk b bt row],Hr)) (hl:liesAt P P.depth bt (row.length / P.cellsOf bt) 0 u 1=true) (hK:K (.cell (.val (.pointer (some ⟨b,0,none⟩)))) H):OpWp c ⟨d,.convert t dst x,ty,pos,af,g⟩ env H K :=
 ow_valx rfl (fun a w h=>by
  obtain ⟨cs,hh,hrd⟩:=blk_ok h hp
  have hu:P.underlying t=some .unsafePointer:=by rw [TI.hu (P:=P) (t:=t),ht]
  have hv:P.underlying dst=some (.pointer u):=by rw [TI.hu (P:=P) (t:=dst),hd]
  have h2:=Lib.run_from_unsafe (P:=P) w ⟨b,0,none⟩ hu hv (TI.hi (P:=P) (t:=u)) (shape_of_blk hh) (by rw [rdRow_length hrd]; exact hl)
  simp only [execOp,ev_val h hx,Sem.run_bind,h2,Result.andThen_ok,Sem.run_pure]) hK
theorem ow_noEscape {f:FuncId} {at_:Array TypeId} {v:Value} (hf:∀ w,(callFunc f #[v]).run P w=.ok (.value v) w) (h1:v.oneCell'=true) (hx:env.ev x=some (.cell (.val v))) (hK:K (.cell (.val v)) H) :
 OpWp c ⟨d,.call { callee:=.value (.func f),args:=#[x],argTypes:=at_ },ty,pos,af,g⟩ env H K :=
 ow_valx h1 (fun a w h=>by
  have hz:a.eval (.func f)=.func (.func f) #[] #[]:=rfl
  simp only [execOp,resolve,invoke,hz,Deferred.ofValue,Sem.run_bind,Sem.run_pure,Result.andThen_ok,List.map_toArray,List.map_cons,List.map_nil,ev_val h hx]
  simp [hf]) hK
theorem jc_ownSome {Q:Exit→Act→World→Prop} {code:Code} (j:Nat) {v:Value} {e:TypeId} {k:Nat} {rows:List (List C)} (hp:pick [j] H=some ([.own v e k rows],Hr)) (h0:0 < rows.length)
 (h:∀ g cap,v=.slice (some ⟨g,0,none⟩) rows.length cap→rows.length≤cap→cap≤9223372036854775807→JC c code Q env H):JC c code Q env H:=by
 intro a w hs
 have hok:=hs.heap.ok (.own v e k rows) ((pick_perm hp).mem_iff.2 (by simp))
 obtain ⟨vs,⟨_,ho⟩,_,_⟩:=hok
 rcases ho with ⟨_,h1⟩ | ⟨g,cap,cur,hv,_,_,h2,h3,_⟩
 ·omega
 ·exact h g cap hv h2 (by unfold maxLen at h3; omega) a w hs
theorem rdRows_bytesI {w:World} {A:Nat→Prop}:∀ {L:List Int} {vs:List Value},RdRows w A 1 (L.map Brow) vs→vs=L.map (Value.int .u8)
 | [],vs,h=>by simpa [RdRows] using h
 | n :: L,vs,h=>by
  obtain ⟨cc,r,rfl,_,h2,h3⟩:=h
  obtain ⟨v,r',rfl,h4,h5⟩:=h2
  simp only [RdRow] at h5
  subst h5
  rw [rdRows_bytesI h3]
  obtain ⟨rfl,_⟩:=h4
  rfl
theorem freeze_grow (w:World) (g n:Nat):Grow [g] w (w.freeze ⟨g,0,none⟩ n):=by
 unfold World.freeze
 split
 ·exact Grow.refl _ _
 ·exact ⟨rfl,rfl,rfl,by simp,fun k hk hn=>by
   simp only [Array.getElem?_modify]
   rw [if_neg (fun e=>hn (by simpa using e.symm))]⟩
theorem bi_unsafeString {ats:Array TypeId} {ty:TypeId} {cs:Array Bool} {args:Array Value}:builtin .unsafeString ats ty cs args=(do pure (.value (← Builtin.unsafeString_ ats ty args))):=rfl
theorem bi_unsafeSliceData {ats:Array TypeId} {ty:TypeId} {cs:Array Bool} {args:Array Value}:builtin .unsafeSliceData ats ty cs args=(do pure (.value (← Builtin.unsafeSliceData_ ats ty args))):=rfl
theorem ow_unsafeString {pt it e:TypeId} [TI P pt] (j:Nat) {gb cap:Nat} {X:ByteArray} {m:Int} (ht:TI.u P pt=.pointer e) (hc:P.cellsOf e=1) (hx:env.ev x=some (.cell (.val (.pointer (some ⟨gb,0,none⟩))))) (hy:env.ev y=some (In .i64 m)) (hm:m=X.size)
 (hp:pick [j] H=some ([.own (.slice (some ⟨gb,0,none⟩) X.size cap) e 1 ((bytesI X).map Brow)],Hr)) (h0:0 < X.size) (h63:X.size≤9223372036854775807) (hK:K (Str X) Hr) :
 OpWp c ⟨d,.call { callee:=.builtin .unsafeString,args:=#[x,y],argTypes:=#[pt,it] },ty,pos,af,g⟩ env H K:=by
 subst hm
 intro a w h next Q hn
 have hperm:=pick_perm hp
 have h':StW c ([.own (.slice (some ⟨gb,0,none⟩) X.size cap) e 1 ((bytesI X).map Brow)] ++ Hr) w:=h.heap.perm hperm
 have hav:c.av ([.own (.slice (some ⟨gb,0,none⟩) X.size cap) e 1 ((bytesI X).map Brow)] ++ Hr)=c.av H:=av_perm c hperm
 obtain ⟨vs,⟨hl,ho⟩,hr,_⟩:=h'.ok _ (List.mem_append_left _ (List.mem_singleton.2 rfl))
 have hvs:=rdRows_bytesI hr
 rcases ho with ⟨hv,_⟩ | ⟨g',cap',cur,hv,_,hh,h2,h3,h4,h5⟩
 ·cases hv
 simp only [Value.slice.injEq,Option.some.injEq,Addr.mk.injEq] at hv
 obtain ⟨⟨rfl,_⟩,hv2,rfl⟩:=hv
 have hu:P.underlying pt=some (.pointer e):=by rw [TI.hu (P:=P) (t:=pt),ht]
 have hX:X.data.toList.length=X.size:=by simp
 have hXI:bytesI X=X.data.toList.map (fun b=>(b.toNat:Int)):=rfl
 have hlen:(bytesI X).length=X.size:=bytesI_len X
 have hrun:=Lib.run_unsafeString_row (P:=P) w pt it ty e hu hc gb cur.size (by simp [World.shape?,hh]) X.data.toList (by intro h; rw [h] at hX; simp at hX; omega) (by
  rw [hX,h4]; rw [List.length_map,hlen] at h2; omega) (by rw [hX]; omega) (fun i b hb=>by
  have hi:i < X.size:=by
   have:=(List.getElem?_eq_some_iff.1 hb).1
   omega
  have hadd:(⟨gb,0,none⟩:Addr).add i=⟨gb,i,none⟩:=by rw [add_at]; simp
  rw [hadd]
  have h6:vs[i]?=some (.int .u8 b.toNat):=by rw [hvs,hXI,List.getElem?_map,List.getElem?_map,hb]; rfl
  have h7:=h5
  rw [← h7] at h6
  have h8:i < (((bytesI X).map Brow).length * 1):=by rw [List.length_map,hlen]; omega
  rw [List.getElem?_take_of_lt h8] at h6
  simp only [World.cell?,hh]
  rw [← Array.getElem?_toList]
  exact h6)
 rw [hX] at hrun
 have hgr:Grow (hb [.own (.slice (some ⟨gb,0,none⟩) X.size cap) e 1 ((bytesI X).map Brow)]) w (w.freeze ⟨gb,0,none⟩ X.size):=freeze_grow w gb X.size
 obtain ⟨s1,s2⟩:=StW.step (H1':=[]) h' hgr (by simp [hb]) (by simp [hb]) (by simp)
 unfold Oper.wp
 have hex:(execOp a.eval ⟨d,.call { callee:=.builtin .unsafeString,args:=#[x,y],argTypes:=#[pt,it] },ty,pos,af,g⟩).run P w=.ok (.value (.string X)) (w.freeze ⟨gb,0,none⟩ X.size):=by
  have hXX:(⟨X.data.toList.toArray⟩:ByteArray)=X:=by simp
  rw [hXX] at hrun
  simp only [execOp,resolve,invoke,bi_unsafeString,Sem.run_bind,Sem.run_pure,Result.andThen_ok,List.map_toArray,List.map_cons,List.map_nil,ev_val h hx,ev_val h hy,hrun]
 rw [hex]
 rw [List.nil_append] at s1 s2
 exact hn _ _ _ _ hK s1 ⟨rfl,rfl⟩ (fun s v hs=>s2 s v (by rw [hav]; exact hs))
theorem hok_sliceData {Sw:World→Prop} {st:TypeId} {p:Addr} {n cap:Nat} (hx:env.ev x=some (.cell (.val (.slice (some p) n cap)))) (h0:0 < cap):HOk c Sw env H ⟨d,.call { callee:=.builtin .unsafeSliceData,args:=#[x],argTypes:=#[st] },ty,pos,af,none⟩ (.cell (.val (.pointer (some p)))) :=
 fun a w h _=>⟨.pointer (some p),fun w' _=>by
  have hrun:=Lib.run_unsafeSliceData_row (P:=P) w' #[st] ty p n cap (by omega)
  simp only [execOp,resolve,invoke,bi_unsafeSliceData,Sem.run_bind,Sem.run_pure,Result.andThen_ok,List.map_toArray,List.map_cons,List.map_nil,ev_val h hx,hrun],rfl,rfl⟩
theorem hok_sliceDataNil {Sw:World→Prop} {st:TypeId} {n cap:Nat} (hx:env.ev x=some (.cell (.val (.slice none n cap)))):HOk c Sw env H ⟨d,.call { callee:=.builtin .unsafeSliceData,args:=#[x],argTypes:=#[st] },ty,pos,af,none⟩ (.cell (.val (.pointer none))) :=
 fun a w h _=>⟨.pointer none,fun w' _=>by
  have hrun:=Lib.run_unsafeSliceData_nil (P:=P) w' #[st] ty n cap
  simp only [execOp,resolve,invoke,bi_unsafeSliceData,Sem.run_bind,Sem.run_pure,Result.andThen_ok,List.map_toArray,List.map_cons,List.map_nil,ev_val h hx,hrun],rfl,rfl⟩
theorem ow_unsafeString0 {pt it:TypeId} {p:Option Addr} (hx:env.ev x=some (.cell (.val (.pointer p)))) (hy:env.ev y=some (In .i64 0)) (hK:K (Str ⟨#[]⟩) H) :
 OpWp c ⟨d,.call { callee:=.builtin .unsafeString,args:=#[x,y],argTypes:=#[pt,it] },ty,pos,af,g⟩ env H K :=
 ow_valx rfl (fun a w h=>by
  have hrun:=Lib.run_unsafeString_none (P:=P) w pt it ty p
  simp only [execOp,resolve,invoke,bi_unsafeString,Sem.run_bind,Sem.run_pure,Result.andThen_ok,List.map_toArray,List.map_cons,List.map_nil,ev_val h hx,ev_val h hy,hrun]
  rfl) hK
theorem hok_lenV {Sw:World→Prop} [SL P t] {p:Option Addr} {n cap:Nat} (hx:env.ev x=some (.cell (.val (.slice p n cap)))) (_hn:n≤9223372036854775807):HOk c Sw env H ⟨d,.call { callee:=.builtin .len,args:=#[x],argTypes:=#[t] },ty,pos,af,none⟩ (In .i64 (n:Int)) :=
 fun a w h _=>⟨.int .i64 n,fun w' _=>by
  simp [execOp,resolve,invoke,builtin,ev_val h hx,Builtin.len_,run_underlying (SL.hs (P:=P) (t:=t)),goInt],rfl,rfl⟩
end
end Go.Vc
end