import Derived.Test.YtalkkcfojplmdaaGreatDoorMy2
import Derived.Test.YtalkkcfojplmdaaGreatDoorProg
import Derived.Lib.LaidTab
import Derived.Lib.ItoaNum
import Derived.KernelRfl
section
namespace Go.Vc
open Go.RowKit
set_option maxHeartbeats 1000000
def FullV (v:Value) (n:Nat):Prop:=(n=0∧v=.slice none 0 0) ∨ ∃ b o,v=.slice (some ⟨b,o,none⟩) n n
abbrev FX (rows:List (List C)):C:=.ex (fun v:{v:Value // FullV v rows.length}=>.both v.1 (.list rows))
theorem rd_fx {w:World} {A:Nat→Prop} {rows:List (List C)} {x:Value} (h:Rd1 w A (FX rows) x):FullV x rows.length∧Rd1 w A (.list rows) x:=by
 obtain ⟨⟨v,hv⟩,rfl,h2⟩:=h
 exact ⟨hv,h2⟩
theorem CLe.fx (rows:List (List C)):CLe (FX rows) (.list rows):=fun _ _ _ h=>(rd_fx h).2
section
variable {P:Program} [Gl P] {nt:Nat} {c:Cx P nt} {env:Env} {H Hr:List Ch} {K:S→List Ch→Prop} {d:Option Tmp} {t t' te ty:TypeId} {pos:String} {af:Array Edge} {g:Option (Nat × Bool)} {x y:Operand}
end
def C.pure:C→Prop
 | .val _=>True
 | .any=>True
 | .inn _ _=>True
 | _=>False
mutual
def S.pure:S→Prop
 | .void=>True
 | .cell c=>c.pure
 | .row r=>∀ c ∈ r,c.pure
 | .tup l=>S.pures l
 | .ex f=>∀ i,(f i).pure
def S.pures:List S→Prop
 | []=>True
 | s :: l=>s.pure∧S.pures l
end
def Ch.pure:Ch→Prop
 | .blk _ _ row=>∀ c ∈ row,c.pure
 | .own _ _ _ rows=>∀ row ∈ rows,∀ c ∈ row,c.pure
 | .mapc _ _=>True
 | .ownB _ _ _=>True
theorem rd1_pure {w:World} {A A':Nat→Prop} {c:C} {v:Value} (hp:c.pure) (h:Rd1 w A c v):Rd1 w A' c v:=by
 cases c <;> first | exact h | exact hp.elim
theorem rdRow_pure {w:World} {A A':Nat→Prop}:∀ {cs:List C} {vs:List Value},(∀ c ∈ cs,c.pure)→RdRow w A cs vs→RdRow w A' cs vs
 | [],_,_,h=>h
 | c :: cs,_,hp,h=>by
  obtain ⟨v,r,rfl,h1,h2⟩:=h
  exact ⟨v,r,rfl,rd1_pure (hp c (by simp)) h1,rdRow_pure (fun c hc=>hp c (by simp [hc])) h2⟩
mutual
theorem sok_pure {w:World} {A A':Nat→Prop}:∀ (s:S) (v:Value),s.pure→SOk w A s v→SOk w A' s v
 | .void,_,_,_=>trivial
 | .cell c,_,hp,h=>rd1_pure (c:=c) hp h
 | .row r,_,hp,h=>by
  obtain ⟨cs,rfl,h⟩:=h
  exact ⟨cs,rfl,rdRow_pure hp h⟩
 | .tup l,_,hp,h=>by
  obtain ⟨vs,rfl,h⟩:=h
  exact ⟨vs,rfl,soks_pure l vs hp h⟩
 | .ex f,v,hp,h=>by
  obtain ⟨i,h⟩:=h
  exact ⟨i,sok_pure (f i) v (hp i) h⟩
theorem soks_pure {w:World} {A A':Nat→Prop}:∀ (l:List S) (vs:List Value),S.pures l→SOks w A l vs→SOks w A' l vs
 | [],_,_,h=>h
 | s :: l,_,hp,h=>by
  obtain ⟨v,r,rfl,h1,h2⟩:=h
  exact ⟨v,r,rfl,sok_pure s v hp.1 h1,soks_pure l r hp.2 h2⟩
end
theorem own_list {w:World} {A:Nat→Prop} {v:Value} {e:TypeId} {k:Nat} {rows:List (List C)} (h:(Ch.own v e k rows).ok w A) (hA:∀ b,v.ownBlock=some b→¬ A b):Rd1 w A (.list rows) v:=by
 obtain ⟨vs,⟨_,ho⟩,hr,hk⟩:=h
 have hcs:=fun (g:Nat) (hg:v.ownBlock=some g)=>(show w.ownsRow 0 e k v rows.length vs from ⟨by assumption,ho⟩).cells (g:=g) hg
 rcases ho with ⟨rfl,h0⟩ | ⟨g,cap,cur,rfl,_,_,h1,h2,_⟩
 ·exact ⟨none,0,by rw [h0],by omega,Nat.zero_le _,.inl h0⟩
 ·refine ⟨_,cap,rfl,h1,h2,.inr ⟨g,0,vs,k,rfl,hA g rfl,fun j u hj=>?_,hk,hr⟩⟩
  have:=hcs g rfl j u hj
  rw [add_at,Nat.zero_add] at this
  rw [Nat.zero_add]
  exact this
section
variable {P:Program} [Gl P] {nt:Nat} {c:Cx P nt} {env:Env} {H:List Ch}
theorem st_freezeOG {a:Act} {w:World} {v v2:Value} {e e2:TypeId} {k k2 j j2:Nat} (i q:Nat) {rows rows2:List (List C)} {row:List C} {Hr:List Ch} (h:St c env H a w) (hp:pick [j,j2] H=some ([.own v e k rows,.own v2 e2 k2 rows2],Hr)) (hi:rows2[i]?=some row) (hq:row[q]?=some (.val v)) (hX:∀ b ∈ c.X,b ∈ hb (.own v2 e2 k2 rows2 :: Hr)) :
 St c env (.own v2 e2 k2 (rows2.set i (row.set q (.list rows))) :: Hr) a w:=by
 have h1:=h.perm (pick_perm hp)
 have h':StW c (.own v e k rows :: .own v2 e2 k2 rows2 :: Hr) w:=h1.heap
 obtain ⟨f1,f2,f3⟩:=stw_freeze h' hX
 have hs:St c env (.own v2 e2 k2 rows2 :: Hr) a w:=⟨h.size,h.defers,fun t s hl=>f3 _ _ (h1.slots t s hl),f1⟩
 obtain ⟨vs,g1,g2,g3⟩:=hs.heap.ok (.own v2 e2 k2 rows2) (by simp)
 refine st_chg (j:=0) hs O O ⟨vs,by rw [List.length_set]; exact g1,?_,g3⟩
 generalize c.av (.own v2 e2 k2 rows2 :: Hr)=A at f2 g2
 clear g1 hX f1 f3 h1 h' hp hs
 induction rows2 generalizing vs i with
 | nil=>simp at hi
 | cons r0 rows2 ih =>
  obtain ⟨c0,rest,rfl,e1,e2',e3⟩:=g2
  cases i with
  | zero =>
   simp only [List.getElem?_cons_zero,Option.some.injEq] at hi
   subst hi
   refine ⟨c0,rest,rfl,e1,?_,e3⟩
   obtain ⟨u,hu,hr⟩:=rdRow_get e2' hq
   have:=rdRow_set (i:=q) e2' (c:=.list rows) (v:=u) (by rw [hr.1]; exact f2)
   obtain ⟨hlt,rfl⟩:=List.getElem?_eq_some_iff.1 hu
   rwa [List.set_getElem_self] at this
  | succ i=>exact ⟨c0,rest,rfl,e1,e2',ih i (by simpa using hi) rest e3⟩
theorem jc_freezeOG {Q:Exit→Act→World→Prop} {code:Code} (j j2 i q:Nat) {v v2:Value} {e e2:TypeId} {k k2:Nat} {rows rows2:List (List C)} {row:List C} {Hr:List Ch} (hp:pick [j,j2] H=some ([.own v e k rows,.own v2 e2 k2 rows2],Hr)) (hi:rows2[i]?=some row) (hq:row[q]?=some (.val v)) (hX:∀ b ∈ c.X,b ∈ hb (.own v2 e2 k2 rows2 :: Hr))
 (h:JC c code Q env (.own v2 e2 k2 (rows2.set i (row.set q (.list rows))) :: Hr)):JC c code Q env H:=fun a w hs=>h a w (st_freezeOG i q hs hp hi hq hX)
end
end Go.Vc
end
section
namespace Go.Vc
open Go.RowKit
section
variable {κ:Type} [KY κ]
abbrev listM {α:Type} (f:α→List C) (A:List (κ × List α)):C:=.mapR (A.map (fun e=>KY.v e.1)) (A.map (fun e=>.list (e.2.map f)))
theorem zip_get {α:Type} {f:α→List C} {w:World} {A0:Nat→Prop} (k:κ):∀ {A:List (κ × List α)} {vals:List Value},RdRow w A0 (A.map (fun e=>.list (e.2.map f))) vals →
 (aget A k=none∧aget (List.zipWith (fun e v=>(e.1,v)) A vals) k=none) ∨ ∃ l v,aget A k=some l∧aget (List.zipWith (fun e v=>(e.1,v)) A vals) k=some v∧Rd1 w A0 (.list (l.map f)) v
 | [],vals,_=>by cases vals <;> exact .inl ⟨rfl,rfl⟩
 | e :: A,vals,h=>by
  obtain ⟨v,r,rfl,h1,h2⟩:=h
  rw [List.zipWith_cons_cons,aget,aget]
  by_cases hk:e.1=k
  ·rw [if_pos hk,if_pos hk]
   exact .inr ⟨e.2,v,rfl,rfl,h1⟩
  ·rw [if_neg hk,if_neg hk]
   exact zip_get k h2
theorem zip_map {α:Type}:∀ {A:List (κ × List α)} {l:List MapEntry},l.map (fun e=>e.key)=A.map (fun e=>KY.v e.1)→l.map (fun e=>(e.key,e.val))=mapE (fun v:Value=>v) (List.zipWith (fun e v=>(e.1,v)) A (l.map (fun e=>e.val)))
 | [],l,h=>by
  cases l with
  | nil=>rfl
  | cons e l=>simp at h
 | a :: A,l,h=>by
  cases l with
  | nil=>simp at h
  | cons e l =>
   simp only [List.map_cons,List.cons.injEq] at h
   simp only [List.map_cons,List.zipWith_cons_cons,mapE]
   rw [h.1,zip_map h.2]
variable {P:Program} [Gl P] {nt:Nat} {c:Cx P nt} {env:Env} {H:List Ch} {K:S→List Ch→Prop}
variable {d:Option Tmp} {ty t t':TypeId} {pos:String} {af:Array Edge} {g:Option (Nat × Bool)} {x y z:Operand}
theorem ow_mapGetL {α:Type} {f:α→List C} [MK P t] [TI P (MK.e P t)] {A:List (κ × List α)} {k:κ} (hd:MK.d P t=KY.d κ) (hzv:(TI.i P (MK.e P t)).zero=some (.slice none 0 0)) (hx:env.ev x=some (.cell (listM f A))) (hy:env.ev y=some (.cell (.val (KY.v k))))
 (hK:K (.cell (.list (((aget A k).getD []).map f))) H):OpWp c ⟨d,.lookup t x y false,ty,pos,af,g⟩ env H K :=
 ow_val (fun a w h=>by
  obtain ⟨b,ents,clock,hxe,_,hh,hk,hr⟩:=ev_ok h hx
  have he:=zip_map hk
  have hrun:=run_mapGet (P:=P) (t:=t) hd k hzv false hh he
  simp only [Bool.false_eq_true,if_false] at hrun
  refine ⟨_,by simp only [execOp,hxe,ev_val h hy,Sem.run_bind,hrun,Result.andThen_ok,Sem.run_pure]; rfl,?_⟩
  rcases zip_get k hr with ⟨h1,h2⟩ | ⟨l,v,h1,h2,h3⟩
  ·rw [h1,h2]
   exact ⟨none,0,rfl,Nat.le_refl _,Nat.zero_le _,.inl rfl⟩
  ·rw [h1,h2]
   exact h3) hK
end
theorem con_lendG {P:Program} [Gl P] {f:FuncId} {ss ss':List S} {Hin:List Ch} {s0:S} (con:Con P f ss [] (fun K=>K s0 [])) (hp:s0.pure)
 (hargs:∀ (w:World) (A:Nat→Prop) (vs:List Value),(∀ ch ∈ Hin,ch.ok w A)→(∀ b ∈ hb Hin,¬ A b)→SOks w A ss' vs→SOks w A ss vs) :
 Con P f ss' Hin (fun K=>K s0 Hin):=by
 intro vs w A hA hHA hnd hvs hok hgl
 have hAA:∀ b,(A b∧b ∉ hb Hin)→A b ∨ w.heap.size≤b:=fun b hb=>.inl hb.1
 have hok':∀ ch ∈ Hin,ch.ok w (fun b=>A b∧b ∉ hb Hin):=fun ch hch=>Ch.up (Up.refl A w) hAA (fun _ _=>rfl) (hok ch hch)
 have hvs':=soks_up (Up.refl A w) hAA ss' vs hvs
 refine (con vs w (fun b=>A b∧b ∉ hb Hin) (fun b hb=>hA b hb.1) (by simp [hb]) (by simp [hb]) (hargs w _ vs hok' (fun b hb h=>h.2 hb) hvs') (by simp) (Gl.up (Up.refl A w) hAA hgl)).mono ?_
 rintro e' w' ⟨v',s,Hout,rfl,hK,hs,hok2,hnd',hnew,hg⟩
 obtain ⟨rfl,rfl⟩:s=s0∧Hout=[]:=hK (fun s H=>s=s0∧H=[]) ⟨rfl,rfl⟩
 have hg0:∀ j,j < w.heap.size→w'.heap[j]?=w.heap[j]?:=fun j hj=>hg.block j hj (by simp [hb])
 refine ⟨v',s,Hin,rfl,fun K h=>h,sok_pure s v' hp hs,?_,hnd,fun b hb=>.inl hb,⟨hg.os,hg.tape,hg.output,hg.size,fun j hj _=>hg0 j hj⟩⟩
 intro ch hch
 refine Ch.up (hg.up (A:=A) (by simp [hb])) ?_ (fun b hb=>hg0 b (Ch.lt (hok ch hch) b hb)) (hok ch hch)
 intro b hbm
 rcases hbm with hbm | hbm
 ·exact .inl hbm
 ·exact .inl (hHA b hbm)
theorem lend_map {w:World} {A:Nat→Prop} {b:Nat} {es:List (Value × Value)} (h:(Ch.mapc b es).ok w A) (hb:¬ A b):Rd1 w A (.map es) (.map (some b)):=by
 obtain ⟨ents,clock,h1,h2⟩:=h
 exact ⟨b,ents,clock,rfl,hb,h1,h2⟩
theorem lend_two {κ α:Type} [KY κ] {f:α→List C} {w:World} {A:Nat→Prop} {b:Nat} {va vb:Value} {e:TypeId} {k:Nat} {ca cb:List α} {AM:List (κ × Bool)} (h:(Ch.mapc b (mapE (fun q=>cond q va vb) AM)).ok w A) (hb:¬ A b)
 (h1:(Ch.own va e k (ca.map f)).ok w A) (n1:∀ g,va.ownBlock=some g→¬ A g) (h2:(Ch.own vb e k (cb.map f)).ok w A) (n2:∀ g,vb.ownBlock=some g→¬ A g) :
 Rd1 w A (listM f (AM.map (fun e=>(e.1,cond e.2 ca cb)))) (.map (some b)):=by
 obtain ⟨ents,clock,g1,g2⟩:=h
 refine ⟨b,ents,clock,rfl,hb,g1,?_,?_⟩
 ·have:=congrArg (List.map Prod.fst) g2
  simpa [List.map_map,Function.comp_def] using this
 ·have e2:=congrArg (List.map Prod.snd) g2
  simp only [List.map_map,Function.comp_def] at e2
  rw [e2,List.map_map]
  have ha:=own_list h1 n1
  have hb:=own_list h2 n2
  generalize AM=L
  induction L with
  | nil=>rfl
  | cons x L ih =>
   refine ⟨_,_,rfl,?_,ih⟩
   cases hx:x.2 <;> simp only [Function.comp_def,hx,cond]
   ·exact hb
   ·exact ha
end Go.Vc
end
section
namespace Go.Proofs.YtalkkcfojplmdaaGreatDoor
open Go.Vc
def words:List ByteArray:=[⟨#[114,101,115,111,117,114,99,101]⟩,⟨#[115,104,97,114,101,100]⟩,⟨#[116,97,115,107]⟩,⟨#[112,101,114,105,111,100]⟩,⟨#[100,101,97,100,108,105,110,101]⟩,⟨#[112,114,105,111,114,105,116,121]⟩,⟨#[106,105,116,116,101,114]⟩,⟨#[105,110,112,117,116]⟩,⟨#[118,97,114]⟩,⟨#[97,114,114,97,121]⟩,⟨#[109,111,100,101]⟩,⟨#[110,101,118,101,114]⟩,⟨#[98,111,100,121]⟩,⟨#[101,110,100]⟩,⟨#[105,102]⟩,⟨#[108,97,98,101,108]⟩,⟨#[101,108,115,101]⟩,⟨#[119,104,105,108,101]⟩,⟨#[109,97,120]⟩,⟨#[108,111,99,107]⟩]
def signL:List ByteArray:=[⟨#[43]⟩,⟨#[45]⟩,⟨#[42]⟩,⟨#[47]⟩,⟨#[37]⟩,⟨#[38]⟩,⟨#[124]⟩,⟨#[94]⟩,⟨#[60,60]⟩,⟨#[62,62]⟩,⟨#[60]⟩,⟨#[60,61]⟩,⟨#[61,61]⟩,⟨#[33,61]⟩]
abbrev Wrow (s:ByteArray):List C:=[.val (.string s)]
def pow10Ok (w:World) (A:Nat→Prop):Prop:=∃ g,Tryz.prog.globalNamed "internal/strconv.uint64pow10"=some g∧¬ A g∧Lib.TabIs Tryz.prog w "internal/strconv.uint64pow10" .u64 Lib.pow10Tab
theorem pow10_up {w w':World} {A A':Nat→Prop} (hu:Up A w w') (hA:∀ b,A' b→A b ∨ w.heap.size≤b) (h:pow10Ok w A):pow10Ok w' A':=by
 obtain ⟨g,h1,h2,h3⟩:=h
 have hlt:g < w.heap.size:=by
  rcases Nat.lt_or_ge g w.heap.size with h | h
  ·exact h
  ·unfold Lib.TabIs World.var? at h3
   rw [h1] at h3
   simp only [Option.bind_some,Array.getElem?_eq_none h] at h3
   cases h3
 refine ⟨g,h1,fun h=>(hA g h).elim h2 (by omega),?_⟩
 unfold Lib.TabIs World.var? at h3 ⊢
 rw [h1] at h3 ⊢
 simp only [Option.bind_some] at h3 ⊢
 rw [hu.block g hlt h2]
 exact h3
instance gl:Gl Tryz.prog where
 ok w A:=pow10Ok w A∧GV w A 0 [.list (words.map Wrow)]∧GV w A 1 (signL.map (fun s=>.val (.string s)))
 up:=fun hu hA ⟨h1,h2,h3⟩=>⟨pow10_up hu hA h1,h2.up hu hA,h3.up hu hA⟩
theorem gl_words (w:World) (A:Nat→Prop) (h:Gl.ok Tryz.prog w A):GV w A 0 [.list (words.map Wrow)]:=h.2.1
theorem gl_signs (w:World) (A:Nat→Prop) (h:Gl.ok Tryz.prog w A):GV w A 1 (signL.map (fun s=>.val (.string s))):=h.2.2
end Go.Proofs.YtalkkcfojplmdaaGreatDoor
end
section
namespace Go.Proofs.YtalkkcfojplmdaaGreatDoor
open Go.Vc
noncomputable instance ti3:TI Tryz.prog 3:=⟨_,Tryz.underlying3,Tryz.t3,by kernel_rfl⟩
noncomputable instance ti4:TI Tryz.prog 4:=⟨_,Tryz.underlying4,Tryz.t4,by kernel_rfl⟩
noncomputable instance ti5:TI Tryz.prog 5:=⟨_,Tryz.underlying5,Tryz.t5,by kernel_rfl⟩
noncomputable instance ti9:TI Tryz.prog 9:=⟨_,Tryz.underlying9,Tryz.t9,by kernel_rfl⟩
noncomputable instance ti21:TI Tryz.prog 21:=⟨_,Tryz.underlying21,Tryz.t21,by kernel_rfl⟩
noncomputable instance ti22:TI Tryz.prog 22:=⟨_,Tryz.underlying22,Tryz.t22,by kernel_rfl⟩
noncomputable instance ti25:TI Tryz.prog 25:=⟨_,Tryz.underlying25,Tryz.t25,by kernel_rfl⟩
noncomputable instance ti27:TI Tryz.prog 27:=⟨_,Tryz.underlying27,Tryz.t27,by kernel_rfl⟩
noncomputable instance ti28:TI Tryz.prog 28:=⟨_,Tryz.underlying28,Tryz.t28,by kernel_rfl⟩
noncomputable instance ti29:TI Tryz.prog 29:=⟨_,Tryz.underlying29,Tryz.t29,by kernel_rfl⟩
noncomputable instance ti31:TI Tryz.prog 31:=⟨_,Tryz.underlying31,Tryz.t31,by kernel_rfl⟩
noncomputable instance ti33:TI Tryz.prog 33:=⟨_,Tryz.underlying33,Tryz.t33,by kernel_rfl⟩
noncomputable instance ti34:TI Tryz.prog 34:=⟨_,Tryz.underlying34,Tryz.t34,by kernel_rfl⟩
noncomputable instance ti35:TI Tryz.prog 35:=⟨_,Tryz.underlying35,Tryz.t35,by kernel_rfl⟩
noncomputable instance ti36:TI Tryz.prog 36:=⟨_,Tryz.underlying36,Tryz.t36,by kernel_rfl⟩
noncomputable instance ti37:TI Tryz.prog 37:=⟨_,Tryz.underlying37,Tryz.t37,by kernel_rfl⟩
noncomputable instance ti39:TI Tryz.prog 39:=⟨_,Tryz.underlying39,Tryz.t39,by kernel_rfl⟩
noncomputable instance ti41:TI Tryz.prog 41:=⟨_,Tryz.underlying41,Tryz.t41,by kernel_rfl⟩
noncomputable instance ti43:TI Tryz.prog 43:=⟨_,Tryz.underlying43,Tryz.t43,by kernel_rfl⟩
noncomputable instance ti46:TI Tryz.prog 46:=⟨_,Tryz.underlying46,Tryz.t46,by kernel_rfl⟩
noncomputable instance ti62:TI Tryz.prog 62:=⟨_,Tryz.underlying62,Tryz.t62,by kernel_rfl⟩
noncomputable instance ti63:TI Tryz.prog 63:=⟨_,Tryz.underlying63,Tryz.t63,by kernel_rfl⟩
noncomputable instance ti64:TI Tryz.prog 64:=⟨_,Tryz.underlying64,Tryz.t64,by kernel_rfl⟩
noncomputable instance ti66:TI Tryz.prog 66:=⟨_,Tryz.underlying66,Tryz.t66,by kernel_rfl⟩
noncomputable instance ti69:TI Tryz.prog 69:=⟨_,Tryz.underlying69,Tryz.t69,by kernel_rfl⟩
noncomputable instance ti73:TI Tryz.prog 73:=⟨_,Tryz.underlying73,Tryz.t73,by kernel_rfl⟩
noncomputable instance ti84:TI Tryz.prog 84:=⟨_,Tryz.underlying84,Tryz.t84,by kernel_rfl⟩
noncomputable instance ti86:TI Tryz.prog 86:=⟨_,Tryz.underlying86,Tryz.t86,by kernel_rfl⟩
noncomputable instance ti88:TI Tryz.prog 88:=⟨_,Tryz.underlying88,Tryz.t88,by kernel_rfl⟩
noncomputable instance ti92:TI Tryz.prog 92:=⟨_,Tryz.underlying92,Tryz.t92,by kernel_rfl⟩
noncomputable instance ti104:TI Tryz.prog 104:=⟨_,Tryz.underlying104,Tryz.t104,by kernel_rfl⟩
noncomputable instance ti106:TI Tryz.prog 106:=⟨_,Tryz.underlying106,Tryz.t106,by kernel_rfl⟩
noncomputable instance ti121:TI Tryz.prog 121:=⟨_,Tryz.underlying121,Tryz.t121,by kernel_rfl⟩
noncomputable instance ti126:TI Tryz.prog 126:=⟨_,Tryz.underlying126,Tryz.t126,by kernel_rfl⟩
noncomputable instance ti130:TI Tryz.prog 130:=⟨_,Tryz.underlying130,Tryz.t130,by kernel_rfl⟩
noncomputable instance ti132:TI Tryz.prog 132:=⟨_,Tryz.underlying132,Tryz.t132,by kernel_rfl⟩
noncomputable instance ti134:TI Tryz.prog 134:=⟨_,Tryz.underlying134,Tryz.t134,by kernel_rfl⟩
noncomputable instance ti143:TI Tryz.prog 143:=⟨_,Tryz.underlying143,Tryz.t143,by kernel_rfl⟩
noncomputable instance ti165:TI Tryz.prog 165:=⟨_,Tryz.underlying165,Tryz.t165,by kernel_rfl⟩
noncomputable instance ti180:TI Tryz.prog 180:=⟨_,Tryz.underlying180,Tryz.t180,by kernel_rfl⟩
noncomputable instance ti192:TI Tryz.prog 192:=⟨_,Tryz.underlying192,Tryz.t192,by kernel_rfl⟩
noncomputable instance ti199:TI Tryz.prog 199:=⟨_,Tryz.underlying199,Tryz.t199,by kernel_rfl⟩
noncomputable instance ti202:TI Tryz.prog 202:=⟨_,Tryz.underlying202,Tryz.t202,by kernel_rfl⟩
noncomputable instance ti221:TI Tryz.prog 221:=⟨_,Tryz.underlying221,Tryz.t221,by kernel_rfl⟩
noncomputable instance ti230:TI Tryz.prog 230:=⟨_,Tryz.underlying230,Tryz.t230,by kernel_rfl⟩
noncomputable instance ti238:TI Tryz.prog 238:=⟨_,Tryz.underlying238,Tryz.t238,by kernel_rfl⟩
noncomputable instance sl22:SL Tryz.prog 22:=⟨3,inferInstance,Tryz.underlying22⟩
noncomputable instance sl27:SL Tryz.prog 27:=⟨9,inferInstance,Tryz.underlying27⟩
noncomputable instance sl28:SL Tryz.prog 28:=⟨86,inferInstance,Tryz.underlying28⟩
noncomputable instance sl29:SL Tryz.prog 29:=⟨39,inferInstance,Tryz.underlying29⟩
noncomputable instance sl33:SL Tryz.prog 33:=⟨92,inferInstance,Tryz.underlying33⟩
noncomputable instance sl34:SL Tryz.prog 34:=⟨84,inferInstance,Tryz.underlying34⟩
noncomputable instance sl35:SL Tryz.prog 35:=⟨104,inferInstance,Tryz.underlying35⟩
noncomputable instance sl36:SL Tryz.prog 36:=⟨106,inferInstance,Tryz.underlying36⟩
noncomputable instance sl37:SL Tryz.prog 37:=⟨66,inferInstance,Tryz.underlying37⟩
noncomputable instance sl43:SL Tryz.prog 43:=⟨22,inferInstance,Tryz.underlying43⟩
noncomputable instance sl64:SL Tryz.prog 64:=⟨69,inferInstance,Tryz.underlying64⟩
noncomputable instance sl73:SL Tryz.prog 73:=⟨5,inferInstance,Tryz.underlying73⟩
noncomputable instance sl219:SL Tryz.prog 219:=⟨64,inferInstance,Tryz.underlying219⟩
noncomputable instance mk41:MK Tryz.prog 41:=⟨9,9,_,Tryz.underlying41,Tryz.underlying9⟩
noncomputable instance mke41:TI Tryz.prog (MK.e Tryz.prog 41):=inferInstanceAs (TI Tryz.prog 9)
noncomputable instance mk62:MK Tryz.prog 62:=⟨9,3,_,Tryz.underlying62,Tryz.underlying9⟩
noncomputable instance mke62:TI Tryz.prog (MK.e Tryz.prog 62):=inferInstanceAs (TI Tryz.prog 3)
noncomputable instance mk63:MK Tryz.prog 63:=⟨9,22,_,Tryz.underlying63,Tryz.underlying9⟩
noncomputable instance mke63:TI Tryz.prog (MK.e Tryz.prog 63):=inferInstanceAs (TI Tryz.prog 22)
noncomputable instance mk143:MK Tryz.prog 143:=⟨9,3,_,Tryz.underlying143,Tryz.underlying9⟩
noncomputable instance mke143:TI Tryz.prog (MK.e Tryz.prog 143):=inferInstanceAs (TI Tryz.prog 3)
noncomputable instance mk152:MK Tryz.prog 152:=⟨3,4,_,Tryz.underlying152,Tryz.underlying3⟩
noncomputable instance mke152:TI Tryz.prog (MK.e Tryz.prog 152):=inferInstanceAs (TI Tryz.prog 4)
noncomputable instance mk181:MK Tryz.prog 181:=⟨9,4,_,Tryz.underlying181,Tryz.underlying9⟩
noncomputable instance mke181:TI Tryz.prog (MK.e Tryz.prog 181):=inferInstanceAs (TI Tryz.prog 4)
instance fi12:FI Tryz.prog 12:=⟨fun args w=>by kernel_rfl⟩
instance fi13:FI Tryz.prog 13:=⟨fun args w=>by kernel_rfl⟩
instance fi14:FI Tryz.prog 14:=⟨fun args w=>by kernel_rfl⟩
instance fi15:FI Tryz.prog 15:=⟨fun args w=>by kernel_rfl⟩
instance fi17:FI Tryz.prog 17:=⟨fun args w=>by kernel_rfl⟩
instance fi18:FI Tryz.prog 18:=⟨fun args w=>by kernel_rfl⟩
instance fi19:FI Tryz.prog 19:=⟨fun args w=>by kernel_rfl⟩
instance fi20:FI Tryz.prog 20:=⟨fun args w=>by kernel_rfl⟩
instance fi21:FI Tryz.prog 21:=⟨fun args w=>by kernel_rfl⟩
instance fi24:FI Tryz.prog 24:=⟨fun args w=>by kernel_rfl⟩
instance fi26:FI Tryz.prog 26:=⟨fun args w=>by kernel_rfl⟩
instance fi30:FI Tryz.prog 30:=⟨fun args w=>by kernel_rfl⟩
instance fi32:FI Tryz.prog 32:=⟨fun args w=>by kernel_rfl⟩
instance fi33:FI Tryz.prog 33:=⟨fun args w=>by kernel_rfl⟩
instance fi37:FI Tryz.prog 37:=⟨fun args w=>by kernel_rfl⟩
instance fi38:FI Tryz.prog 38:=⟨fun args w=>by kernel_rfl⟩
instance fi39:FI Tryz.prog 39:=⟨fun args w=>by kernel_rfl⟩
instance fi40:FI Tryz.prog 40:=⟨fun args w=>by kernel_rfl⟩
instance fi43:FI Tryz.prog 43:=⟨fun args w=>by kernel_rfl⟩
instance fi44:FI Tryz.prog 44:=⟨fun args w=>by kernel_rfl⟩
instance fi46:FI Tryz.prog 46:=⟨fun args w=>by kernel_rfl⟩
instance fi47:FI Tryz.prog 47:=⟨fun args w=>by kernel_rfl⟩
instance fi48:FI Tryz.prog 48:=⟨fun args w=>by kernel_rfl⟩
instance fi49:FI Tryz.prog 49:=⟨fun args w=>by kernel_rfl⟩
instance fi50:FI Tryz.prog 50:=⟨fun args w=>by kernel_rfl⟩
instance fi51:FI Tryz.prog 51:=⟨fun args w=>by kernel_rfl⟩
instance fi52:FI Tryz.prog 52:=⟨fun args w=>by kernel_rfl⟩
instance fi53:FI Tryz.prog 53:=⟨fun args w=>by kernel_rfl⟩
instance fi54:FI Tryz.prog 54:=⟨fun args w=>by kernel_rfl⟩
instance fi55:FI Tryz.prog 55:=⟨fun args w=>by kernel_rfl⟩
instance fi56:FI Tryz.prog 56:=⟨fun args w=>by kernel_rfl⟩
instance fi57:FI Tryz.prog 57:=⟨fun args w=>by kernel_rfl⟩
instance fi58:FI Tryz.prog 58:=⟨fun args w=>by kernel_rfl⟩
instance fi59:FI Tryz.prog 59:=⟨fun args w=>by kernel_rfl⟩
instance fi61:FI Tryz.prog 61:=⟨fun args w=>by kernel_rfl⟩
instance fi62:FI Tryz.prog 62:=⟨fun args w=>by kernel_rfl⟩
instance fi63:FI Tryz.prog 63:=⟨fun args w=>by kernel_rfl⟩
instance fi64:FI Tryz.prog 64:=⟨fun args w=>by kernel_rfl⟩
instance fi67:FI Tryz.prog 67:=⟨fun args w=>by kernel_rfl⟩
instance fi73:FI Tryz.prog 73:=⟨fun args w=>by kernel_rfl⟩
instance fi74:FI Tryz.prog 74:=⟨fun args w=>by kernel_rfl⟩
instance fi76:FI Tryz.prog 76:=⟨fun args w=>by kernel_rfl⟩
instance fi77:FI Tryz.prog 77:=⟨fun args w=>by kernel_rfl⟩
instance fi78:FI Tryz.prog 78:=⟨fun args w=>by kernel_rfl⟩
instance fi79:FI Tryz.prog 79:=⟨fun args w=>by kernel_rfl⟩
instance fi80:FI Tryz.prog 80:=⟨fun args w=>by kernel_rfl⟩
instance fi81:FI Tryz.prog 81:=⟨fun args w=>by kernel_rfl⟩
instance fi82:FI Tryz.prog 82:=⟨fun args w=>by kernel_rfl⟩
instance fi83:FI Tryz.prog 83:=⟨fun args w=>by kernel_rfl⟩
instance fi84:FI Tryz.prog 84:=⟨fun args w=>by kernel_rfl⟩
instance fi85:FI Tryz.prog 85:=⟨fun args w=>by kernel_rfl⟩
instance fi86:FI Tryz.prog 86:=⟨fun args w=>by kernel_rfl⟩
instance fi87:FI Tryz.prog 87:=⟨fun args w=>by kernel_rfl⟩
instance fi88:FI Tryz.prog 88:=⟨fun args w=>by kernel_rfl⟩
instance fi89:FI Tryz.prog 89:=⟨fun args w=>by kernel_rfl⟩
instance fi90:FI Tryz.prog 90:=⟨fun args w=>by kernel_rfl⟩
instance fi91:FI Tryz.prog 91:=⟨fun args w=>by kernel_rfl⟩
instance fi92:FI Tryz.prog 92:=⟨fun args w=>by kernel_rfl⟩
instance fi93:FI Tryz.prog 93:=⟨fun args w=>by kernel_rfl⟩
instance fi94:FI Tryz.prog 94:=⟨fun args w=>by kernel_rfl⟩
instance fi95:FI Tryz.prog 95:=⟨fun args w=>by kernel_rfl⟩
instance fi96:FI Tryz.prog 96:=⟨fun args w=>by kernel_rfl⟩
instance fi97:FI Tryz.prog 97:=⟨fun args w=>by kernel_rfl⟩
instance fi98:FI Tryz.prog 98:=⟨fun args w=>by kernel_rfl⟩
instance fi99:FI Tryz.prog 99:=⟨fun args w=>by kernel_rfl⟩
instance fi100:FI Tryz.prog 100:=⟨fun args w=>by kernel_rfl⟩
instance fi101:FI Tryz.prog 101:=⟨fun args w=>by kernel_rfl⟩
instance fi102:FI Tryz.prog 102:=⟨fun args w=>by kernel_rfl⟩
instance fi103:FI Tryz.prog 103:=⟨fun args w=>by kernel_rfl⟩
instance fi104:FI Tryz.prog 104:=⟨fun args w=>by kernel_rfl⟩
instance fi105:FI Tryz.prog 105:=⟨fun args w=>by kernel_rfl⟩
instance fi106:FI Tryz.prog 106:=⟨fun args w=>by kernel_rfl⟩
instance fi107:FI Tryz.prog 107:=⟨fun args w=>by kernel_rfl⟩
instance fi108:FI Tryz.prog 108:=⟨fun args w=>by kernel_rfl⟩
instance fi109:FI Tryz.prog 109:=⟨fun args w=>by kernel_rfl⟩
instance fi110:FI Tryz.prog 110:=⟨fun args w=>by kernel_rfl⟩
instance fi111:FI Tryz.prog 111:=⟨fun args w=>by kernel_rfl⟩
instance fi112:FI Tryz.prog 112:=⟨fun args w=>by kernel_rfl⟩
instance fi113:FI Tryz.prog 113:=⟨fun args w=>by kernel_rfl⟩
instance fi114:FI Tryz.prog 114:=⟨fun args w=>by kernel_rfl⟩
instance fi115:FI Tryz.prog 115:=⟨fun args w=>by kernel_rfl⟩
instance fi116:FI Tryz.prog 116:=⟨fun args w=>by kernel_rfl⟩
instance fi117:FI Tryz.prog 117:=⟨fun args w=>by kernel_rfl⟩
instance fi121:FI Tryz.prog 121:=⟨fun args w=>by kernel_rfl⟩
instance fi122:FI Tryz.prog 122:=⟨fun args w=>by kernel_rfl⟩
instance fi123:FI Tryz.prog 123:=⟨fun args w=>by kernel_rfl⟩
instance fi126:FI Tryz.prog 126:=⟨fun args w=>by kernel_rfl⟩
instance fi128:FI Tryz.prog 128:=⟨fun args w=>by kernel_rfl⟩
instance fi130:FI Tryz.prog 130:=⟨fun args w=>by kernel_rfl⟩
instance fi131:FI Tryz.prog 131:=⟨fun args w=>by kernel_rfl⟩
instance fi132:FI Tryz.prog 132:=⟨fun args w=>by kernel_rfl⟩
instance fi133:FI Tryz.prog 133:=⟨fun args w=>by kernel_rfl⟩
instance fi134:FI Tryz.prog 134:=⟨fun args w=>by kernel_rfl⟩
instance fi135:FI Tryz.prog 135:=⟨fun args w=>by kernel_rfl⟩
instance fi136:FI Tryz.prog 136:=⟨fun args w=>by kernel_rfl⟩
instance fi137:FI Tryz.prog 137:=⟨fun args w=>by kernel_rfl⟩
instance fi138:FI Tryz.prog 138:=⟨fun args w=>by kernel_rfl⟩
instance fi139:FI Tryz.prog 139:=⟨fun args w=>by kernel_rfl⟩
instance fi140:FI Tryz.prog 140:=⟨fun args w=>by kernel_rfl⟩
instance fi141:FI Tryz.prog 141:=⟨fun args w=>by kernel_rfl⟩
instance fi142:FI Tryz.prog 142:=⟨fun args w=>by kernel_rfl⟩
instance fi143:FI Tryz.prog 143:=⟨fun args w=>by kernel_rfl⟩
instance fi144:FI Tryz.prog 144:=⟨fun args w=>by kernel_rfl⟩
instance fi145:FI Tryz.prog 145:=⟨fun args w=>by kernel_rfl⟩
instance fi146:FI Tryz.prog 146:=⟨fun args w=>by kernel_rfl⟩
instance fi147:FI Tryz.prog 147:=⟨fun args w=>by kernel_rfl⟩
instance fi148:FI Tryz.prog 148:=⟨fun args w=>by kernel_rfl⟩
instance fi149:FI Tryz.prog 149:=⟨fun args w=>by kernel_rfl⟩
instance fi150:FI Tryz.prog 150:=⟨fun args w=>by kernel_rfl⟩
instance fi151:FI Tryz.prog 151:=⟨fun args w=>by kernel_rfl⟩
instance fi152:FI Tryz.prog 152:=⟨fun args w=>by kernel_rfl⟩
instance fi153:FI Tryz.prog 153:=⟨fun args w=>by kernel_rfl⟩
instance fi154:FI Tryz.prog 154:=⟨fun args w=>by kernel_rfl⟩
instance fi155:FI Tryz.prog 155:=⟨fun args w=>by kernel_rfl⟩
instance fi156:FI Tryz.prog 156:=⟨fun args w=>by kernel_rfl⟩
instance fi157:FI Tryz.prog 157:=⟨fun args w=>by kernel_rfl⟩
instance fi158:FI Tryz.prog 158:=⟨fun args w=>by kernel_rfl⟩
instance fi159:FI Tryz.prog 159:=⟨fun args w=>by kernel_rfl⟩
instance fi160:FI Tryz.prog 160:=⟨fun args w=>by kernel_rfl⟩
instance fi161:FI Tryz.prog 161:=⟨fun args w=>by kernel_rfl⟩
instance fi162:FI Tryz.prog 162:=⟨fun args w=>by kernel_rfl⟩
instance fi163:FI Tryz.prog 163:=⟨fun args w=>by kernel_rfl⟩
instance fi164:FI Tryz.prog 164:=⟨fun args w=>by kernel_rfl⟩
instance fi165:FI Tryz.prog 165:=⟨fun args w=>by kernel_rfl⟩
instance fi166:FI Tryz.prog 166:=⟨fun args w=>by kernel_rfl⟩
instance fi167:FI Tryz.prog 167:=⟨fun args w=>by kernel_rfl⟩
instance fi168:FI Tryz.prog 168:=⟨fun args w=>by kernel_rfl⟩
instance fi169:FI Tryz.prog 169:=⟨fun args w=>by kernel_rfl⟩
instance fi170:FI Tryz.prog 170:=⟨fun args w=>by kernel_rfl⟩
instance fi171:FI Tryz.prog 171:=⟨fun args w=>by kernel_rfl⟩
instance fi172:FI Tryz.prog 172:=⟨fun args w=>by kernel_rfl⟩
instance fi173:FI Tryz.prog 173:=⟨fun args w=>by kernel_rfl⟩
instance fi174:FI Tryz.prog 174:=⟨fun args w=>by kernel_rfl⟩
instance fi177:FI Tryz.prog 177:=⟨fun args w=>by kernel_rfl⟩
instance fi180:FI Tryz.prog 180:=⟨fun args w=>by kernel_rfl⟩
instance fi181:FI Tryz.prog 181:=⟨fun args w=>by kernel_rfl⟩
instance fi182:FI Tryz.prog 182:=⟨fun args w=>by kernel_rfl⟩
instance fi183:FI Tryz.prog 183:=⟨fun args w=>by kernel_rfl⟩
instance fi184:FI Tryz.prog 184:=⟨fun args w=>by kernel_rfl⟩
instance fi185:FI Tryz.prog 185:=⟨fun args w=>by kernel_rfl⟩
instance fi186:FI Tryz.prog 186:=⟨fun args w=>by kernel_rfl⟩
instance fi187:FI Tryz.prog 187:=⟨fun args w=>by kernel_rfl⟩
instance fi188:FI Tryz.prog 188:=⟨fun args w=>by kernel_rfl⟩
instance fi193:FI Tryz.prog 193:=⟨fun args w=>by kernel_rfl⟩
instance fi194:FI Tryz.prog 194:=⟨fun args w=>by kernel_rfl⟩
instance fi195:FI Tryz.prog 195:=⟨fun args w=>by kernel_rfl⟩
instance fi196:FI Tryz.prog 196:=⟨fun args w=>by kernel_rfl⟩
instance fi197:FI Tryz.prog 197:=⟨fun args w=>by kernel_rfl⟩
instance fi198:FI Tryz.prog 198:=⟨fun args w=>by kernel_rfl⟩
instance fi199:FI Tryz.prog 199:=⟨fun args w=>by kernel_rfl⟩
instance fi200:FI Tryz.prog 200:=⟨fun args w=>by kernel_rfl⟩
instance fi201:FI Tryz.prog 201:=⟨fun args w=>by kernel_rfl⟩
instance fi202:FI Tryz.prog 202:=⟨fun args w=>by kernel_rfl⟩
instance fi203:FI Tryz.prog 203:=⟨fun args w=>by kernel_rfl⟩
instance fi204:FI Tryz.prog 204:=⟨fun args w=>by kernel_rfl⟩
instance fi220:FI Tryz.prog 220:=⟨fun args w=>by kernel_rfl⟩
instance fi221:FI Tryz.prog 221:=⟨fun args w=>by kernel_rfl⟩
instance fi222:FI Tryz.prog 222:=⟨fun args w=>by kernel_rfl⟩
instance fi223:FI Tryz.prog 223:=⟨fun args w=>by kernel_rfl⟩
instance fi224:FI Tryz.prog 224:=⟨fun args w=>by kernel_rfl⟩
instance fi225:FI Tryz.prog 225:=⟨fun args w=>by kernel_rfl⟩
instance fi226:FI Tryz.prog 226:=⟨fun args w=>by kernel_rfl⟩
instance fi227:FI Tryz.prog 227:=⟨fun args w=>by kernel_rfl⟩
instance fi228:FI Tryz.prog 228:=⟨fun args w=>by kernel_rfl⟩
instance fi235:FI Tryz.prog 235:=⟨fun args w=>by kernel_rfl⟩
instance fi236:FI Tryz.prog 236:=⟨fun args w=>by kernel_rfl⟩
instance fi237:FI Tryz.prog 237:=⟨fun args w=>by kernel_rfl⟩
instance fi238:FI Tryz.prog 238:=⟨fun args w=>by kernel_rfl⟩
instance fi239:FI Tryz.prog 239:=⟨fun args w=>by kernel_rfl⟩
instance fi240:FI Tryz.prog 240:=⟨fun args w=>by kernel_rfl⟩
instance fi241:FI Tryz.prog 241:=⟨fun args w=>by kernel_rfl⟩
instance fi242:FI Tryz.prog 242:=⟨fun args w=>by kernel_rfl⟩
instance fi243:FI Tryz.prog 243:=⟨fun args w=>by kernel_rfl⟩
instance fi244:FI Tryz.prog 244:=⟨fun args w=>by kernel_rfl⟩
instance fi245:FI Tryz.prog 245:=⟨fun args w=>by kernel_rfl⟩
instance fi251:FI Tryz.prog 251:=⟨fun args w=>by kernel_rfl⟩
instance fi252:FI Tryz.prog 252:=⟨fun args w=>by kernel_rfl⟩
instance fi253:FI Tryz.prog 253:=⟨fun args w=>by kernel_rfl⟩
instance fi254:FI Tryz.prog 254:=⟨fun args w=>by kernel_rfl⟩
instance fi260:FI Tryz.prog 260:=⟨fun args w=>by kernel_rfl⟩
noncomputable instance ts31:TS Tryz.prog 31:=⟨#[(0,1),(1,1),(2,1)],fun w=>by kernel_rfl⟩
noncomputable instance ts39:TS Tryz.prog 39:=⟨#[(0,1),(1,1),(2,1),(3,1),(4,1),(5,1),(6,1),(7,1),(8,1),(9,1),(10,1)],fun w=>by kernel_rfl⟩
noncomputable instance ts46:TS Tryz.prog 46:=⟨#[(0,1),(1,1),(2,1),(3,1),(4,1)],fun w=>by kernel_rfl⟩
noncomputable instance ts66:TS Tryz.prog 66:=⟨#[(0,1),(1,1),(2,1),(3,1),(4,1),(5,1),(6,1),(7,1)],fun w=>by kernel_rfl⟩
noncomputable instance ts69:TS Tryz.prog 69:=⟨#[(0,1),(1,1),(2,1),(3,1),(4,1)],fun w=>by kernel_rfl⟩
noncomputable instance ts84:TS Tryz.prog 84:=⟨#[(0,1),(1,1)],fun w=>by kernel_rfl⟩
noncomputable instance ts86:TS Tryz.prog 86:=⟨#[(0,2),(2,1)],fun w=>by kernel_rfl⟩
noncomputable instance ts88:TS Tryz.prog 88:=⟨#[(0,1),(1,1)],fun w=>by kernel_rfl⟩
noncomputable instance ts92:TS Tryz.prog 92:=⟨#[(0,1),(1,1),(2,1)],fun w=>by kernel_rfl⟩
noncomputable instance ts104:TS Tryz.prog 104:=⟨#[(0,1),(1,1),(2,1),(3,1)],fun w=>by kernel_rfl⟩
noncomputable instance ts106:TS Tryz.prog 106:=⟨#[(0,1),(1,1)],fun w=>by kernel_rfl⟩
noncomputable instance ts126:TS Tryz.prog 126:=⟨#[(0,1),(1,1),(2,1),(3,1)],fun w=>by kernel_rfl⟩
noncomputable instance ts132:TS Tryz.prog 132:=⟨#[(0,1),(1,1)],fun w=>by kernel_rfl⟩
noncomputable instance ts134:TS Tryz.prog 134:=⟨#[(0,2)],fun w=>by kernel_rfl⟩
noncomputable instance ts165:TS Tryz.prog 165:=⟨#[(0,1),(1,1),(2,1),(3,1),(4,1),(5,1),(6,1),(7,1),(8,1)],fun w=>by kernel_rfl⟩
end Go.Proofs.YtalkkcfojplmdaaGreatDoor
end
section
namespace Go.Proofs.YtalkkcfojplmdaaGreatDoor
open Go.Vc
attribute [local irreducible] JL JC JQ OpWp Con ConN
set_option maxHeartbeats 4000000
inductive T where
 | nu (n:Int)
 | nm (s:ByteArray)
 | ix (s:ByteArray) (t:T)
 | bn (o:Int) (a b:T)
def T.kind:T→Int
 | .nu _=>1
 | .nm _=>2
 | .ix _ _=>3
 | .bn _ _ _=>4
def T.num:T→Int
 | .nu n=>n
 | _=>0
def T.name:T→ByteArray
 | .nm s=>s
 | .ix s _=>s
 | _=>⟨#[]⟩
def T.op:T→Int
 | .bn o _ _=>o
 | _=>0
def T.args:T→List T
 | .ix _ t=>[t]
 | .bn _ a b=>[a,b]
 | _=>[]
def T.row:T→List C
 | .nu n=>[.val (.int .i64 1),.val (.int .i64 n),.val (.string ⟨#[]⟩),.val (.int .i64 0),.list []]
 | .nm s=>[.val (.int .i64 2),.val (.int .i64 0),.val (.string s),.val (.int .i64 0),.list []]
 | .ix s t=>[.val (.int .i64 3),.val (.int .i64 0),.val (.string s),.val (.int .i64 0),.list [t.row]]
 | .bn o a b=>[.val (.int .i64 4),.val (.int .i64 0),.val (.string ⟨#[]⟩),.val (.int .i64 o),.list [a.row,b.row]]
abbrev T.row' (t:T):List C:=[.val (.int .i64 t.kind),.val (.int .i64 t.num),.val (.string t.name),.val (.int .i64 t.op),.list (t.args.map T.row)]
theorem T.row_eq (t:T):t.row=t.row':=by cases t <;> rfl
def T.dep:T→Nat
 | .nu _=>1
 | .nm _=>1
 | .ix _ t=>t.dep+1
 | .bn _ a b=>max a.dep b.dep+1
theorem T.dep_args (t:T):t.dep=(t.args.map T.dep).foldl max 0+1:=by cases t <;> simp [T.dep,T.args]
def mx (f:T→Nat) (l:List T):Nat:=l.foldl (fun m t=>max m (f t)) 0
theorem mx_snoc (f:T→Nat) (l:List T) (t:T):mx f (l ++ [t])=max (mx f l) (f t):=by simp [mx]
def dl:Nat→T→Nat
 | 0,_=>1
 | L+1,t=>mx (dl L) t.args+1
theorem dl_eq : ∀ (L : Nat) (t : T), dl L t = min t.dep (L + 1)
  | 0, t => by have : 1 ≤ t.dep := by rw [T.dep_args]; omega
               simp only [dl]; omega
  | L + 1, t => by
    have h := dl_eq L
    cases t <;> simp only [dl, T.args, mx, List.foldl_nil, List.foldl_cons, T.dep, h] <;> omega
theorem dl_le (L:Nat) (t:T):dl L t≤L+1:=by rw [dl_eq]; omega
theorem mx_le {f:T→Nat} {B:Nat} (h:∀ t,f t≤B):∀ l:List T,mx f l≤B:=by
 intro l
 unfold mx
 have:∀ (l:List T) (m:Nat),m≤B→l.foldl (fun m t=>max m (f t)) m≤B:=by
  intro l
  induction l with
  | nil=>intro m hm; exact hm
  | cons t l ih=>intro m hm; exact ih _ (by have:=h t; show max m (f t)≤B; omega)
 exact this l 0 (Nat.zero_le _)
theorem Depth_c:∀ (L:Nat) (t:T),L≤1000→Con Tryz.prog 140 [.row t.row',In .i64 (L:Int)] [] (fun K=>K (In .i64 (dl L t:Int)) []):=by
 intro L
 induction L with
 | zero =>
  intro t _
  refine con_intro Tryz.func140 O O b_ (fun c hc=>Wv (fun bx=>?_))
  refine ZV ?_
  refine bz_ O O (T_ (jc_condd O (fun h=>by omega) (fun _=>as_ (al_ ?_))))
  refine R_ (M_ O (o_ O (bj_ O O g_ (E_ O (T_ (ar_ (jq_ret1 O O [] O (fun K h=>h))))))))
 | succ L ih =>
  intro t hL
  have eA:(t.args.map T.row).length=t.args.length:=List.length_map _
  refine con_intro Tryz.func140 O O b_ (fun c hc=>Wv (fun bx=>?_))
  refine ZV ?_
  refine bz_ O O (T_ (jc_condd O (fun _=>R_ (F_ O ?_)) (fun h=>by omega)))
  refine L_ 0 O (o_ O (br_ O (fun hlen=>M_ O (T_ (au_ (jc_loopS (ι:=Nat) [] (fun k=>k≤t.args.length) (fun k=>[(1,In .i64 ((L+1:Nat):Int)),(5,In .i64 (mx (dl L) (t.args.take k):Int)),(11,.cell (.list (t.args.map T.row))),(12,In .i64 ((t.args.map T.row).length:Int)),(13,In .i64 (k:Int))]) (fun _=>[]) (fun k=>t.args.length - k) 0 (Nat.zero_le _) ?_ ?_ ?_))))))
  ·exact sub_end
  ·exact Ww
  ·intro k hk
   refine jc_reset [(1,In .i64 ((L+1:Nat):Int)),(5,In .i64 (mx (dl L) (t.args.take k):Int)),(11,.cell (.list (t.args.map T.row))),(12,In .i64 ((t.args.map T.row).length:Int)),(13,In .i64 (k:Int))] [] ?_ ⟨[],[],rfl⟩ ?_
   ·exact Ww
   refine R_ (o_ O (bw_ O O (T_ (am_ (jc_condd O (fun hlt=>?_) (fun hge=>?_))))))
   ·have hlt':k < t.args.length:=by omega
    have hI:Con Tryz.prog 140 [.row (t.args[k]).row',In .i64 (((L+1:Nat):Int) - 1)] [] (fun K=>K (In .i64 (dl L t.args[k]:Int)) []):=by
     rw [show (((L+1:Nat):Int) - 1)=(L:Int) by omega]
     exact ih _ g_
    refine as_ (al_ (B_ (R_ (Zy ?_))))
    refine Yt (fun bl=>?_)
    refine an_ (M_ O (A_ 0 O (M_ O (o_ O (cg_ O O g_ (o_ O (bm_ O (hI) (o_ O (ck_ O O ?_)))))))))
    refine E_ O (ak_ (Zx ?_))
    refine jq_againS (k+1) g_ g_ ?_ ?_
    ·exact sub_end
    ·rw [List.take_succ_eq_append_getElem hlt',mx_snoc,show ((max (mx (dl L) (t.args.take k)) (dl L t.args[k]):Nat):Int)=max (mx (dl L) (t.args.take k):Int) (dl L t.args[k]:Int) by omega]
     exact Ww
   ·obtain rfl:k=t.args.length:=by omega
    have hm:=mx_le (dl_le L) t.args
    rw [List.take_length]
    refine av_ (ax_ (ax_ (ba_ (al_ (R_ (M_ O (o_ O (bj_ O O g_ (E_ O (T_ (ar_ (jq_ret1 O O [] O (fun K h=>h)))))))))))))
def rd:Nat→T→Nat
 | 0,_=>21
 | F+1,t=>max (20 - F) (mx (rd F) t.args)
theorem rd_eq : ∀ (F : Nat) (t : T), F ≤ 20 → rd F t = min (t.dep + (20 - F)) 21
  | 0, t, _ => by have : 1 ≤ t.dep := by rw [T.dep_args]; omega
                  simp only [rd]; omega
  | F + 1, t, hF => by
    have h := fun t => rd_eq F t (by omega)
    cases t <;> simp only [rd, T.args, mx, List.foldl_nil, List.foldl_cons, T.dep, h] <;> omega
end Go.Proofs.YtalkkcfojplmdaaGreatDoor
end
section
namespace Go.Proofs.YtalkkcfojplmdaaGreatDoor
open Go.Vc
set_option maxHeartbeats 1000000
abbrev Ptr (b:Nat):S:=.cell (.val (.pointer (some ⟨b,0,none⟩)))
abbrev Irow (n:Int):List C:=[.val (.int .i64 n)]
inductive Sm where
 | mk (kind:Int) (name:ByteArray) (index value:List T) (max label:Int) (thn els:List Sm)
mutual
def Sm.row:Sm→List C
 | .mk k n i v m l t e=>[.val (.int .i64 k),.val (.string n),.list (i.map T.row),.list (v.map T.row),.val (.int .i64 m),.val (.int .i64 l),.list (Sm.rows t),.list (Sm.rows e)]
def Sm.rows:List Sm→List (List C)
 | []=>[]
 | s :: l=>s.row :: Sm.rows l
end
theorem Sm.rows_map:∀ l:List Sm,Sm.rows l=l.map Sm.row
 | []=>rfl
 | s :: l=>by simp [Sm.rows,Sm.rows_map l]
def Sm.kind:Sm→Int | .mk k _ _ _ _ _ _ _=>k
def Sm.name:Sm→ByteArray | .mk _ n _ _ _ _ _ _=>n
def Sm.index:Sm→List T | .mk _ _ i _ _ _ _ _=>i
def Sm.value:Sm→List T | .mk _ _ _ v _ _ _ _=>v
def Sm.max:Sm→Int | .mk _ _ _ _ m _ _ _=>m
def Sm.label:Sm→Int | .mk _ _ _ _ _ l _ _=>l
def Sm.thn:Sm→List Sm | .mk _ _ _ _ _ _ t _=>t
def Sm.els:Sm→List Sm | .mk _ _ _ _ _ _ _ e=>e
abbrev Sm.row' (s:Sm):List C:=[.val (.int .i64 s.kind),.val (.string s.name),.list (s.index.map T.row),.list (s.value.map T.row),.val (.int .i64 s.max),.val (.int .i64 s.label),.list (s.thn.map Sm.row),.list (s.els.map Sm.row)]
theorem Sm.row_eq (s:Sm):s.row=s.row':=by
 cases s
 simp [Sm.row,Sm.row',Sm.rows_map,Sm.kind,Sm.name,Sm.index,Sm.value,Sm.max,Sm.label,Sm.thn,Sm.els]
abbrev Inp:=ByteArray × Int × Int
abbrev Shd:=ByteArray × Int × ByteArray
abbrev Arr:=ByteArray × Int
abbrev Md:=ByteArray × ByteArray × Int × Int
abbrev Clm:=Int × Int
abbrev InRow (x:Inp):List C:=[.val (.string x.1),.val (.int .i64 x.2.1),.val (.int .i64 x.2.2)]
abbrev ShRow (x:Shd):List C:=[.val (.string x.1),.val (.int .i64 x.2.1),.val (.string x.2.2)]
abbrev ArRow (x:Arr):List C:=[.val (.string x.1),.val (.int .i64 x.2)]
abbrev MdRow (x:Md):List C:=[.val (.string x.1),.val (.string x.2.1),.val (.int .i64 x.2.2.1),.val (.int .i64 x.2.2.2)]
abbrev ClRow (x:Clm):List C:=[.val (.int .i64 x.1),.val (.int .i64 x.2)]
structure Tk where
 name:ByteArray
 period:Int
 deadline:Int
 priority:Int
 jitter:Int
 inputs:List Inp
 vars:List ByteArray
 arrays:List Arr
 modes:List Md
 claims:List Clm
 body:List Sm
abbrev Tk.row (t:Tk):List C:=[.val (.string t.name),.val (.int .i64 t.period),.val (.int .i64 t.deadline),.val (.int .i64 t.priority),.val (.int .i64 t.jitter),.list (t.inputs.map InRow),.list (t.vars.map Wrow),.list (t.arrays.map ArRow),.list (t.modes.map MdRow),.list (t.claims.map ClRow),.list (t.body.map Sm.row)]
structure Pg where
 res:List ByteArray
 shared:List Shd
 tasks:List Tk
abbrev Pg.row (p:Pg):List C:=[.list (p.res.map Wrow),.list (p.shared.map ShRow),.list (p.tasks.map Tk.row)]
end Go.Proofs.YtalkkcfojplmdaaGreatDoor
end
section
namespace Go.Proofs.YtalkkcfojplmdaaGreatDoor
open Go.Vc
attribute [local irreducible] JL JC JQ OpWp Con ConN HOk
set_option maxHeartbeats 4000000
def wr (n:Int):Int:=(n+2147483648) % 4294967296 - 2147483648
theorem wr_bd (n:Int):-2147483648≤wr n∧wr n≤2147483647:=by unfold wr; omega
theorem wrap32 (n:Int):IntKind.i64.wrap (IntKind.i32.wrap (IntKind.u32.wrap n))=wr n:=by
 have e1:IntKind.u32.wrap n=n % 4294967296:=by simp [IntKind.wrap,IntKind.bits,IntKind.signed]
 have e2:IntKind.i32.wrap (n % 4294967296)=wr n:=by
  simp only [IntKind.wrap,IntKind.bits,IntKind.signed]
  unfold wr
  simp
  split <;> omega
 rw [e1,e2]
 have:=wr_bd n
 exact IntWalk.i64_in _ g_
theorem wrap64_32 (n:Int):IntKind.i64.wrap (IntKind.i32.wrap (IntKind.u32.wrap (IntKind.u64.wrap n)))=wr n:=by
 have e1:IntKind.u64.wrap n=n % 18446744073709551616:=by simp [IntKind.wrap,IntKind.bits,IntKind.signed]
 rw [e1,wrap32]
 unfold wr
 omega
theorem and31 (n:Int):0≤andW n 31∧andW n 31≤31:=by
 have h:(BitVec.ofInt 64 n &&& BitVec.ofInt 64 31).toNat≤31:=by
  rw [BitVec.toNat_and]
  exact Nat.le_trans Nat.and_le_right (by decide)
 have h2:andW n 31=((BitVec.ofInt 64 n &&& BitVec.ofInt 64 31).toNat:Int):=IntWalk.i64_in _ (by omega)
 omega
def rawF (op a b:Int):Int :=
 if op=1 then a+b else if op=2 then a - b else if op=3 then a * b
 else if op=4 then (if b=0 then 0 else IntKind.i64.wrap (a.tdiv b)) else if op=5 then (if b=0 then 0 else a.tmod b)
 else if op=6 then andW a b else if op=7 then orW a b else if op=8 then xorW a b
 else if op=9 then IntKind.i64.wrap (a * 2 ^ (min (andW b 31).toNat 64)) else if op=10 then a.fdiv (2 ^ (min (andW b 31).toNat 64))
 else if op=11 then (if a < b then 1 else 0) else if op=12 then (if a≤b then 1 else 0) else if op=13 then (if a=b then 1 else 0) else (if a=b then 0 else 1)
def doV (op a b:Int):Int:=if 1≤op∧op≤14 then wr (rawF op (wr a) (wr b)) else 0
def doE (op:Int):Int:=if 1≤op∧op≤14 then 0 else 6
def evF (V:List (ByteArray × Int)) (A:List (ByteArray × List Int)):Nat→T→Int
 | 0,_=>0
 | _+1,.nu n=>wr n
 | _+1,.nm s=>(aget V s).getD 0
 | f+1,.ix s t=>if (aget A s).getD []=[] then 0 else ((aget A s).getD []).getD (evF V A f t % ((aget A s).getD []).length).toNat 0
 | f+1,.bn o a b=>doV o (evF V A f a) (evF V A f b)
theorem rWrap_c (n:Int):Con Tryz.prog 121 [In .i64 n] [] (fun K=>K (In .i64 (wr n)) []):=by
 have hw:=wrap64_32 n
 refine con_intro Tryz.func121 O O b_ (fun c hc=>R_ (E_ O (T_ (R_ (M_ O (o_ O (ow_convInt O O O (o_ O (ow_convInt O O O (o_ O (ow_convInt O O O (o_ O (ow_convInt O O O (E_ O (T_ (ar_ (jq_ret1 O O [] O (fun K h=>by rw [← hw] at h; exact h))))))))))))))))))
theorem rtruth_c (b:Bool):Con Tryz.prog 177 [Bl b] [] (fun K=>K (In .i64 (if b=true then 1 else 0)) []):=by
 refine con_intro Tryz.func177 O O b_ (fun c hc=>?_)
 cases b with
 | false =>
  refine R_ (E_ O (T_ (am_ (R_ (M_ O (T_ (ap_ O O (as_ (al_ (R_ (E_ O (T_ (ar_ (jq_ret1 O O [] O (fun K h=>h)))))))))))))))
 | true =>
  refine R_ (E_ O (T_ (am_ (R_ (M_ O (ZK ?_))))))
  refine aw_ (jq_ret1 O O [] O (fun K h=>h))
theorem mul_bd {a b:Int} (h1:-2147483648≤a∧a≤2147483647) (h2:-2147483648≤b∧b≤2147483647):-9223372036854775808≤a * b∧a * b≤9223372036854775807:=by
 have e:(a * b).natAbs≤2147483648 * 2147483648:=by
  rw [Int.natAbs_mul]
  exact Nat.mul_le_mul g_ g_
 omega
theorem rDo_c (op a b:Int):Con Tryz.prog 123 [In .i64 op,In .i64 a,In .i64 b] [] (fun K=>K (.tup [In .i64 (doV op a b),In .i64 (doE op)]) []):=by
 have hA:=rWrap_c a
 have hB:=rWrap_c b
 have e0:doV op a b=if 1≤op∧op≤14 then wr (rawF op (wr a) (wr b)) else 0:=rfl
 have e1:doE op=if 1≤op∧op≤14 then 0 else 6:=rfl
 have ba:=wr_bd a
 have bb:=wr_bd b
 generalize wr a=a' at hA e0 ba
 generalize wr b=b' at hB e0 bb
 have hm:=mul_bd ba bb
 have h31:=and31 b'
 refine con_intro Tryz.func123 O O b_ (fun c hc=>?_)
 by_cases h1:op=1
 ·have hr:1≤op∧op≤14:=by omega
  rw [if_pos hr] at e0 e1
  unfold rawF at e0
  rw [if_pos h1] at e0
  refine ZC ?_
  refine T_ (am_ ?_)
  refine R_ (M_ O (T_ (au_ (Zu ?_))))
  refine aq_ O u_ (an_ (M_ O (YN ?_)))
  refine ay_ ?_
  refine al_ (R_ (Wo ?_))
  refine ar_ (jq_ret2 O O O [] O (fun K h=>by rw [e0,e1] at h; exact h))
 by_cases h2:op=2
 ·have hr:1≤op∧op≤14:=by omega
  rw [if_pos hr] at e0 e1
  unfold rawF at e0
  rw [if_neg h1,if_pos h2] at e0
  refine ZC ?_
  refine T_ (am_ ?_)
  refine R_ (M_ O (T_ (au_ (Zc ?_))))
  refine E_ O (T_ (aq_ O u_ (an_ (M_ O ?_))))
  refine M_ O (o_ O (cg_ O O g_ (Yy ?_)))
  refine T_ (ar_ (jq_ret2 O O O [] O (fun K h=>by rw [e0,e1] at h; exact h)))
 by_cases h3:op=3
 ·have hr:1≤op∧op≤14:=by omega
  rw [if_pos hr] at e0 e1
  unfold rawF at e0
  rw [if_neg h1,if_neg h2,if_pos h3] at e0
  refine ZC ?_
  refine T_ (am_ ?_)
  refine R_ (M_ O (T_ (au_ (Zc ?_))))
  refine Ya ?_
  refine E_ O (T_ (Wq ?_))
  refine cz_ O O g_ (Yy ?_)
  refine T_ (ar_ (jq_ret2 O O O [] O (fun K h=>by rw [e0,e1] at h; exact h)))
 by_cases h4:op=4
 ·have hr:1≤op∧op≤14:=by omega
  rw [if_pos hr] at e0 e1
  unfold rawF at e0
  rw [if_neg h1,if_neg h2,if_neg h3,if_pos h4] at e0
  by_cases hb0:b'=0
  ·have hb1:¬ b'≠0:=fun h=>h hb0
   rw [if_pos hb0] at e0
   refine ZC ?_
   refine T_ (am_ ?_)
   refine R_ (M_ O (T_ (au_ (Zc ?_))))
   refine Ya ?_
   refine E_ O (T_ (ap_ O w_ (Zu ?_)))
   refine aq_ O u_ (R_ (M_ O (o_ O (bx_ O O (T_ (ap_ O w_ (as_ (ay_ (al_ ?_)))))))))
   refine R_ (Wo ?_)
   refine ar_ (jq_ret2 O O O [] O (fun K h=>by rw [e0,e1] at h; exact h))
  ·rw [if_neg hb0] at e0
   refine ZC ?_
   refine T_ (am_ ?_)
   refine R_ (M_ O (T_ (au_ (Zc ?_))))
   refine Ya ?_
   refine E_ O (T_ (ap_ O w_ (Zu ?_)))
   refine aq_ O u_ (R_ (M_ O (o_ O (bx_ O O (T_ (aq_ O u_ (an_ (M_ O (M_ O ?_)))))))))
   refine o_ O (ow_quo O O g_ (E_ O (ak_ (ay_ (al_ (R_ (M_ O (o_ O (bm_ O (rWrap_c _) (E_ O (E_ O (T_ (ar_ (jq_ret2 O O O [] O (fun K h=>by rw [e0,e1] at h; exact h)))))))))))))))
 by_cases h5:op=5
 ·have hr:1≤op∧op≤14:=by omega
  rw [if_pos hr] at e0 e1
  unfold rawF at e0
  rw [if_neg h1,if_neg h2,if_neg h3,if_neg h4,if_pos h5] at e0
  by_cases hb0:b'=0
  ·have hb1:¬ b'≠0:=fun h=>h hb0
   rw [if_pos hb0] at e0
   refine ZC ?_
   refine T_ (am_ ?_)
   refine R_ (M_ O (T_ (au_ (Zc ?_))))
   refine Ya ?_
   refine E_ O (T_ (ap_ O w_ (Zc ?_)))
   refine E_ O (T_ (aq_ O u_ (R_ (M_ O (o_ O (bx_ O O ?_))))))
   refine T_ (ap_ O w_ (as_ (ay_ (al_ (R_ (Wo ?_))))))
   refine ar_ (jq_ret2 O O O [] O (fun K h=>by rw [e0,e1] at h; exact h))
  ·rw [if_neg hb0] at e0
   refine ZC ?_
   refine T_ (am_ ?_)
   refine R_ (M_ O (T_ (au_ (Zc ?_))))
   refine Ya ?_
   refine E_ O (T_ (ap_ O w_ (Zc ?_)))
   refine E_ O (T_ (aq_ O u_ (R_ (M_ O (o_ O (bx_ O O ?_))))))
   refine T_ (Wq ?_)
   refine ch_ O O g_ (Yy ?_)
   refine T_ ?_
   refine ar_ (jq_ret2 O O O [] O (fun K h=>by rw [e0,e1] at h; exact h))
 by_cases h6:op=6
 ·have hr:1≤op∧op≤14:=by omega
  rw [if_pos hr] at e0 e1
  unfold rawF at e0
  rw [if_neg h1,if_neg h2,if_neg h3,if_neg h4,if_neg h5,if_pos h6] at e0
  refine ZC ?_
  refine T_ (am_ ?_)
  refine R_ (M_ O (T_ (au_ (Zc ?_))))
  refine Ya ?_
  refine E_ O (T_ (ap_ O w_ (Zc ?_)))
  refine Ya ?_
  refine E_ O ?_
  refine T_ (Wq ?_)
  refine ow_and64 O O (Yy ?_)
  refine T_ ?_
  refine ar_ (jq_ret2 O O O [] O (fun K h=>by rw [e0,e1] at h; exact h))
 by_cases h7:op=7
 ·have hr:1≤op∧op≤14:=by omega
  rw [if_pos hr] at e0 e1
  unfold rawF at e0
  rw [if_neg h1,if_neg h2,if_neg h3,if_neg h4,if_neg h5,if_neg h6,if_pos h7] at e0
  refine ZC ?_
  refine T_ (am_ ?_)
  refine R_ (M_ O (T_ (au_ (Zc ?_))))
  refine Ya ?_
  refine E_ O (T_ (ap_ O w_ (Zc ?_)))
  refine Ya ?_
  refine E_ O ?_
  refine T_ (ap_ O w_ (Zu ?_))
  refine Wq ?_
  refine ow_or64 O O (E_ O (ak_ (ay_ (al_ (R_ ?_)))))
  refine Wo ?_
  refine ar_ (jq_ret2 O O O [] O (fun K h=>by rw [e0,e1] at h; exact h))
 by_cases h8:op=8
 ·have hr:1≤op∧op≤14:=by omega
  rw [if_pos hr] at e0 e1
  unfold rawF at e0
  rw [if_neg h1,if_neg h2,if_neg h3,if_neg h4,if_neg h5,if_neg h6,if_neg h7,if_pos h8] at e0
  refine ZC ?_
  refine T_ (am_ ?_)
  refine R_ (M_ O (T_ (au_ (Zc ?_))))
  refine Ya ?_
  refine E_ O (T_ (ap_ O w_ (Zc ?_)))
  refine Ya ?_
  refine E_ O ?_
  refine T_ (ap_ O w_ (Zc ?_))
  refine E_ O (T_ (Wq ?_))
  refine ow_xor64 O O ?_
  refine Yy ?_
  refine T_ (ar_ (jq_ret2 O O O [] O (fun K h=>by rw [e0,e1] at h; exact h)))
 by_cases h9:op=9
 ·have hr:1≤op∧op≤14:=by omega
  rw [if_pos hr] at e0 e1
  unfold rawF at e0
  rw [if_neg h1,if_neg h2,if_neg h3,if_neg h4,if_neg h5,if_neg h6,if_neg h7,if_neg h8,if_pos h9] at e0
  refine ZC ?_
  refine T_ (am_ ?_)
  refine R_ (M_ O (T_ (au_ (Zc ?_))))
  refine Ya ?_
  refine E_ O (T_ (ap_ O w_ (Zc ?_)))
  refine Ya ?_
  refine E_ O ?_
  refine T_ (ap_ O w_ (Zc ?_))
  refine E_ O (T_ (ap_ O w_ (Zu ?_)))
  refine Wq ?_
  refine ow_and64 O O (o_ O (ow_convU64 O O O g_ (o_ O (ow_shl O O g_ (Yy ?_)))))
  refine T_ (ar_ (jq_ret2 O O O [] O (fun K h=>by rw [e0,e1] at h; exact h)))
 by_cases h10:op=10
 ·have hr:1≤op∧op≤14:=by omega
  rw [if_pos hr] at e0 e1
  unfold rawF at e0
  rw [if_neg h1,if_neg h2,if_neg h3,if_neg h4,if_neg h5,if_neg h6,if_neg h7,if_neg h8,if_neg h9,if_pos h10] at e0
  refine ZC ?_
  refine T_ (am_ ?_)
  refine R_ (M_ O (T_ (au_ (Zc ?_))))
  refine Ya ?_
  refine E_ O (T_ (ap_ O w_ (Zc ?_)))
  refine Ya ?_
  refine E_ O ?_
  refine T_ (ap_ O w_ (Zc ?_))
  refine E_ O (T_ (ap_ O w_ (Zu ?_)))
  refine ap_ O w_ (Zu ?_)
  refine Wq ?_
  refine ow_and64 O O (o_ O (ow_convU64 O O O g_ (o_ O (ow_shr O O g_ (E_ O (ak_ (ay_ (al_ ?_))))))))
  refine R_ (Wo ?_)
  refine ar_ (jq_ret2 O O O [] O (fun K h=>by rw [e0,e1] at h; exact h))
 by_cases h11:op=11
 ·have hr:1≤op∧op≤14:=by omega
  rw [if_pos hr] at e0 e1
  unfold rawF at e0
  rw [if_neg h1,if_neg h2,if_neg h3,if_neg h4,if_neg h5,if_neg h6,if_neg h7,if_neg h8,if_neg h9,if_neg h10,if_pos h11] at e0
  have hT:=rtruth_c (decide (a' < b'))
  rw [show (if (decide (a' < b'))=true then (1:Int) else 0)=if a' < b' then 1 else 0 by by_cases hb0:a' < b' <;> simp [hb0]] at hT
  generalize (if a' < b' then (1:Int) else 0)=tv at hT e0
  refine ZC ?_
  refine T_ (am_ ?_)
  refine R_ (M_ O (T_ (au_ (Zc ?_))))
  refine Ya ?_
  refine E_ O (T_ (ap_ O w_ (Zc ?_)))
  refine Ya ?_
  refine E_ O ?_
  refine T_ (ap_ O w_ (Zc ?_))
  refine E_ O (T_ (ap_ O w_ (Zu ?_)))
  refine ap_ O w_ (Zc ?_)
  refine E_ O (T_ (Wq ?_))
  refine bw_ O O (o_ O (bm_ O (hT) ?_))
  refine Yy ?_
  refine T_ (ar_ (jq_ret2 O O O [] O (fun K h=>by rw [e0,e1] at h; exact h)))
 by_cases h12:op=12
 ·have hr:1≤op∧op≤14:=by omega
  rw [if_pos hr] at e0 e1
  unfold rawF at e0
  rw [if_neg h1,if_neg h2,if_neg h3,if_neg h4,if_neg h5,if_neg h6,if_neg h7,if_neg h8,if_neg h9,if_neg h10,if_neg h11,if_pos h12] at e0
  have hT:=rtruth_c (decide (a'≤b'))
  rw [show (if (decide (a'≤b'))=true then (1:Int) else 0)=if a'≤b' then 1 else 0 by by_cases hb0:a'≤b' <;> simp [hb0]] at hT
  generalize (if a'≤b' then (1:Int) else 0)=tv at hT e0
  refine ZC ?_
  refine T_ (am_ ?_)
  refine R_ (M_ O (T_ (au_ (Zc ?_))))
  refine Ya ?_
  refine E_ O (T_ (ap_ O w_ (Zc ?_)))
  refine Ya ?_
  refine E_ O ?_
  refine T_ (ap_ O w_ (Zc ?_))
  refine E_ O (T_ (ap_ O w_ (Zu ?_)))
  refine ap_ O w_ (Zc ?_)
  refine E_ O (T_ (ap_ O w_ (Zu ?_)))
  refine aq_ O u_ ?_
  refine an_ (M_ O (M_ O (o_ O (cu_ O O (o_ O (bm_ O (hT) (Yy ?_)))))))
  refine T_ (ar_ ?_)
  refine jq_ret2 O O O [] O (fun K h=>by rw [e0,e1] at h; exact h)
 by_cases h13:op=13
 ·have hr:1≤op∧op≤14:=by omega
  rw [if_pos hr] at e0 e1
  unfold rawF at e0
  rw [if_neg h1,if_neg h2,if_neg h3,if_neg h4,if_neg h5,if_neg h6,if_neg h7,if_neg h8,if_neg h9,if_neg h10,if_neg h11,if_neg h12,if_pos h13] at e0
  have hT:=rtruth_c (decide (a'=b'))
  rw [show (if (decide (a'=b'))=true then (1:Int) else 0)=if a'=b' then 1 else 0 by by_cases hb0:a'=b' <;> simp [hb0]] at hT
  generalize (if a'=b' then (1:Int) else 0)=tv at hT e0
  refine ZC ?_
  refine T_ (am_ ?_)
  refine R_ (M_ O (T_ (au_ (Zc ?_))))
  refine Ya ?_
  refine E_ O (T_ (ap_ O w_ (Zc ?_)))
  refine Ya ?_
  refine E_ O ?_
  refine T_ (ap_ O w_ (Zc ?_))
  refine E_ O (T_ (ap_ O w_ (Zu ?_)))
  refine ap_ O w_ (Zc ?_)
  refine E_ O (T_ (ap_ O w_ (Zu ?_)))
  refine ap_ O w_ ?_
  refine Zu ?_
  refine Wq ?_
  refine bn_ O O (o_ O (bm_ O (hT) (E_ O (ak_ (ay_ (al_ (R_ (M_ O ?_))))))))
  refine o_ O (bm_ O (rWrap_c _) (E_ O (E_ O (T_ (ar_ (jq_ret2 O O O [] O (fun K h=>by rw [e0,e1] at h; exact h)))))))
 by_cases h14:op=14
 ·have hr:1≤op∧op≤14:=by omega
  rw [if_pos hr] at e0 e1
  unfold rawF at e0
  rw [if_neg h1,if_neg h2,if_neg h3,if_neg h4,if_neg h5,if_neg h6,if_neg h7,if_neg h8,if_neg h9,if_neg h10,if_neg h11,if_neg h12,if_neg h13] at e0
  have hT:=rtruth_c (decide (a'≠b'))
  rw [show (if (decide (a'≠b'))=true then (1:Int) else 0)=if a'=b' then 0 else 1 by by_cases hb0:a'=b' <;> simp [hb0]] at hT
  generalize (if a'=b' then (0:Int) else 1)=tv at hT e0
  refine ZC ?_
  refine T_ (am_ ?_)
  refine R_ (M_ O (T_ (au_ (Zc ?_))))
  refine Ya ?_
  refine E_ O (T_ (ap_ O w_ (Zc ?_)))
  refine Ya ?_
  refine E_ O ?_
  refine T_ (ap_ O w_ (Zc ?_))
  refine E_ O (T_ (ap_ O w_ (Zu ?_)))
  refine ap_ O w_ (Zc ?_)
  refine E_ O (T_ (ap_ O w_ (Zu ?_)))
  refine ap_ O w_ ?_
  refine Zc ?_
  refine E_ O (T_ (Wq ?_))
  refine bx_ O O (o_ O (bm_ O (hT) (E_ O ?_)))
  refine ak_ (ay_ (al_ (R_ (Wo ?_))))
  refine ar_ (jq_ret2 O O O [] O (fun K h=>by rw [e0,e1] at h; exact h))
 rw [if_neg (by omega)] at e0 e1
 refine ZC ?_
 refine T_ (am_ ?_)
 refine R_ (M_ O (T_ (au_ (Zc ?_))))
 refine Ya ?_
 refine E_ O (T_ (ap_ O w_ (Zc ?_)))
 refine Ya ?_
 refine E_ O ?_
 refine T_ (ap_ O w_ (Zc ?_))
 refine E_ O (T_ (ap_ O w_ (Zu ?_)))
 refine ap_ O w_ (Zc ?_)
 refine E_ O (T_ (ap_ O w_ (Zu ?_)))
 refine ap_ O w_ ?_
 refine Zc ?_
 refine E_ O (T_ (ap_ O w_ (R_ (E_ O (E_ O (T_ (ar_ (az_ ?_))))))))
 refine aw_ (jq_ret2 O O O [] O (fun K h=>by rw [e0,e1] at h; exact h))
theorem tmod_bd {n m:Int} (hm:0 < m):-m < n.tmod m∧n.tmod m < m:=by
 have h1:=Int.tmod_lt_of_pos n hm
 have h2:=Int.lt_tmod_of_pos n hm
 omega
theorem tmod_md {n m:Int} (hm:0 < m):(n.tmod m+m).tmod m=n % m:=by
 have h:=tmod_bd (n:=n) hm
 rw [Int.tmod_eq_emod_of_nonneg (by omega)]
 rw [Int.add_emod_right]
 by_cases hn:0≤n
 ·rw [Int.tmod_eq_emod_of_nonneg hn,Int.emod_emod_of_dvd _ (Int.dvd_refl m)]
 ·rw [Int.tmod_def]
  rw [show n - m * n.tdiv m=n+m * (-(n.tdiv m)) by rw [Int.mul_neg]; omega,Int.add_mul_emod_self_left]
theorem rmod_c (n m:Int) (hm:0 < m∧m≤1000000000):Con Tryz.prog 122 [In .i64 n,In .i64 m] [] (fun K=>K (In .i64 (n % m)) []):=by
 have h1:=tmod_bd (n:=n) hm.1
 have h2:=tmod_md (n:=n) hm.1
 refine con_intro Tryz.func122 O O b_ (fun c hc=>R_ (E_ O (T_ (R_ (M_ O (M_ O (o_ O (ch_ O O g_ (M_ O (o_ O (bj_ O O g_ (M_ O (o_ O (ch_ O O g_ (E_ O (T_ (ar_ (jq_ret1 O O [] O (fun K h=>by rw [← h2] at h; exact h)))))))))))))))))))
abbrev VMp (V:List (ByteArray × Int)):S:=.cell (.map (mapE (Value.int .i64) V))
abbrev AMp (A:List (ByteArray × List Int)):S:=.cell (listM Irow A)
def smallA (A:List (ByteArray × List Int)):Prop:=∀ s,((aget A s).getD []).length≤1000000
theorem rexpr6_c (V:List (ByteArray × Int)) (A:List (ByteArray × List Int)) (hA:smallA A):∀ (fuel:Nat) (e:T) (depth:Int),0≤depth→depth+fuel=21→Con Tryz.prog 67 [.row e.row',VMp V,AMp A,In .i64 depth] [] (fun K=>K (In .i64 (evF V A fuel e)) []):=by
 intro fuel
 induction fuel with
 | zero =>
  intro e depth h0 h1
  have hg:depth > 20:=by omega
  refine con_intro Tryz.func67 O O b_ (fun c hc=>ZD (fun bx=>?_))
  refine M_ O (o_ O (bz_ O O (T_ (aq_ O u_ (R_ (E_ O (T_ (ar_ (aw_ ?_)))))))))
  refine jq_ret1 O O [] O (fun K h=>h)
 | succ f ih =>
  intro e depth h0 h1
  have hg:¬ depth > 20:=by omega
  cases e with
  | nu n =>
   show Con _ _ [.row [.val (.int .i64 1),.val (.int .i64 n),.val (.string ⟨#[]⟩),.val (.int .i64 0),.list []],VMp V,AMp A,In .i64 depth] [] _
   refine con_intro Tryz.func67 O O b_ (fun c hc=>ZD (fun bx=>?_))
   refine YD ?_
   refine L_ 0 O (T_ (au_ (Zu ?_)))
   refine aq_ O x_ (Yh ?_)
   refine bm_ O (rWrap_c _) (E_ O (T_ (ar_ (az_ ?_))))
   refine aw_ (jq_ret1 O O [] O (fun K h=>h))
  | nm s =>
   show Con _ _ [.row [.val (.int .i64 2),.val (.int .i64 0),.val (.string s),.val (.int .i64 0),.list []],VMp V,AMp A,In .i64 depth] [] _
   refine con_intro Tryz.func67 O O b_ (fun c hc=>ZD (fun bx=>?_))
   refine YD ?_
   refine L_ 0 O (T_ (au_ (Zu ?_)))
   refine ap_ O O (Zu ?_)
   refine aq_ O x_ (R_ (M_ O (F_ O ?_)))
   refine L_ 0 O (o_ O (ow_mapGetI (κ:=ByteArray) (M:=V) O O O O (E_ O (T_ (ar_ (az_ (aw_ (jq_ret1 O O [] O (fun K h=>h)))))))))
  | ix s t =>
   show Con _ _ [.row [.val (.int .i64 3),.val (.int .i64 0),.val (.string s),.val (.int .i64 0),.list ([t].map T.row)],VMp V,AMp A,In .i64 depth] [] _
   have el1:[t].length=1:=rfl
   have el2:([t].map T.row).length=1:=rfl
   refine con_intro Tryz.func67 O O b_ (fun c hc=>?_)
   have c1:=ih t (depth+1) (by omega) (by omega)
   have e0:evF V A (f+1) (.ix s t)=if (aget A s).getD []=[] then 0 else ((aget A s).getD []).getD (evF V A f t % ((aget A s).getD []).length).toNat 0:=rfl
   have hl:=hA s
   have eM:(((aget A s).getD []).map Irow).length=((aget A s).getD []).length:=List.length_map _
   by_cases hn:(aget A s).getD []=[]
   ·rw [if_pos hn] at e0
    have hn0:((((aget A s).getD []).map Irow).length:Int)=0:=by rw [eM,hn]; rfl
    refine ZD (fun bx=>?_)
    refine YD ?_
    refine L_ 0 O ?_
    refine T_ (au_ (Zu ?_))
    refine ap_ O O (Zu ?_)
    refine ap_ O O (Zu ?_)
    refine aq_ O x_ (R_ (M_ O (F_ O (L_ 0 O (o_ O (ow_mapGetL (κ:=ByteArray) (f:=Irow) (A:=A) O O O O (E_ O (T_ (am_ (Yh ?_))))))))))
    refine br_ O (fun hlen=>o_ O (bw_ O O (M_ O (ah_ O O b_ (bd_ O ?_)))))
    refine ah_ O O b_ (br_ O (fun hlen=>ah_ O O b_ (bn_ O O (o_ O (bv_ O O O (T_ (aq_ O u_ (R_ (E_ O (T_ (ar_ (aw_ (az_ (aw_ (jq_ret1 O O [] O (fun K h=>by rw [e0] at h; exact h))))))))))))))))
   ·rw [if_neg hn] at e0
    have hpos:0 < ((aget A s).getD []).length:=List.length_pos_iff.2 hn
    have hn0:¬ ((((aget A s).getD []).map Irow).length:Int)=0:=by omega
    have c2:=rmod_c (evF V A f t) ((((aget A s).getD []).map Irow).length:Int) (by omega)
    have hb0:=Int.emod_nonneg (evF V A f t) hn0
    have hb1:=Int.emod_lt_of_pos (evF V A f t) (show 0 < ((((aget A s).getD []).map Irow).length:Int) by omega)
    rw [show (((aget A s).getD []).length:Int)=((((aget A s).getD []).map Irow).length:Int) by omega] at e0
    obtain ⟨q,hq⟩:∃ q:Nat,evF V A f t % ((((aget A s).getD []).map Irow).length:Int)=(q:Int):=⟨_,(Int.toNat_of_nonneg hb0).symm⟩
    rw [hq] at c2 e0 hb0 hb1
    have hql:q < ((aget A s).getD []).length:=by omega
    rw [show ((q:Int)).toNat=q by omega,List.getD_eq_getElem?_getD,List.getElem?_eq_getElem hql] at e0
    refine ZD (fun bx=>?_)
    refine YD ?_
    refine L_ 0 O ?_
    refine T_ (au_ (Zu ?_))
    refine ap_ O O (Zu ?_)
    refine ap_ O O (Zu ?_)
    refine aq_ O x_ (R_ (M_ O (F_ O (L_ 0 O (o_ O (ow_mapGetL (κ:=ByteArray) (f:=Irow) (A:=A) O O O O (E_ O (T_ (am_ (Yh ?_))))))))))
    refine br_ O (fun hlen=>o_ O (bw_ O O (M_ O (ah_ O O b_ (bd_ O ?_)))))
    refine ah_ O O b_ (br_ O (fun hlen=>ah_ O O b_ (bn_ O O (o_ O (bv_ O O O (T_ (ap_ O w_ (as_ (al_ (R_ (M_ O (F_ O (L_ 0 O (o_ O (cv_ O O g_ g_ (T.row_eq _) O b_ (o_ O (cr_ O O O (M_ O (M_ O (M_ O ?_))))))))))))))))))))
    refine o_ O (bj_ O O g_ (o_ O (bm_ O (c1) (M_ O (o_ O (br_ O (fun hlen=>o_ O (bm_ O (c2) (ZI ?_)))))))))
    refine cb_ O O (E_ O (T_ (ar_ (az_ (aw_ (jq_ret1 O O [] O (fun K h=>by rw [e0] at h; exact h)))))))
  | bn o a b =>
   show Con _ _ [.row [.val (.int .i64 4),.val (.int .i64 0),.val (.string ⟨#[]⟩),.val (.int .i64 o),.list ([a,b].map T.row)],VMp V,AMp A,In .i64 depth] [] _
   have el1:[a,b].length=2:=rfl
   have el2:([a,b].map T.row).length=2:=rfl
   refine con_intro Tryz.func67 O O b_ (fun c hc=>?_)
   have c1:=ih a (depth+1) (by omega) (by omega)
   have c2:=ih b (depth+1) (by omega) (by omega)
   have e0:evF V A (f+1) (.bn o a b)=doV o (evF V A f a) (evF V A f b):=rfl
   refine ZD (fun bx=>?_)
   refine YD ?_
   refine L_ 0 O ?_
   refine T_ (au_ (Zu ?_))
   refine ap_ O O (Zu ?_)
   refine ap_ O O (Zu ?_)
   refine ap_ O O (Zu ?_)
   refine aq_ O x_ (am_ (Yh ?_))
   refine br_ O (fun hlen=>o_ O (bw_ O O (T_ (ap_ O O (as_ (al_ ?_))))))
   refine am_ (ao_ O O k_ k_ (yF_ O (yL_ 0 O (yF_ O (yL_ 0 O (ZA ?_))))))
   refine yM_ O (yM_ O (yM_ O (aa_ (fun c=>bj_ O O g_ p_) (aa_ (fun c=>bm_ O (c1) p_) (yF_ O (yL_ 0 O (aa_ (fun c=>cv_ O O g_ g_ (T.row_eq _) O b_ p_) ?_)))))))
   refine aa_ (fun c=>cr_ O O O p_) (yM_ O (yM_ O (yM_ O (aa_ (fun c=>bj_ O O g_ p_) (aa_ (fun c=>bm_ O (c2) p_) (aa_ (fun c=>bm_ O (rDo_c _ _ _) p_) (yM_ O (aa_ (fun c=>bo_ O O p_) (aa_ (fun c=>bo_ O O p_) (yE_ O (yE_ O (ae_ (al_ (R_ (M_ O ?_)))))))))))))))
   refine E_ O (T_ (ar_ (az_ (aw_ (jq_ret1 O O [] O (fun K h=>by rw [e0] at h; exact h))))))
theorem rExpr6_c (V:List (ByteArray × Int)) (A:List (ByteArray × List Int)) (hA:smallA A) (e:T):Con Tryz.prog 30 [.row e.row',VMp V,AMp A] [] (fun K=>K (In .i64 (evF V A 20 e)) []):=by
 have h:=rexpr6_c V A hA 20 e 1 (by omega) (by omega)
 refine con_intro Tryz.func30 O O b_ (fun c hc=>R_ (o_ O (ci_ O (fun bx=>E_ O (T_ (R_ (A_ 0 O (M_ O (M_ O (o_ O (bm_ O (h) (E_ O (T_ (ar_ (jq_ret1 O O [] O (fun K h=>h))))))))))))))))
end Go.Proofs.YtalkkcfojplmdaaGreatDoor
end
section
namespace Go.Vc
open Go.RowKit
section
variable {P:Program} [Gl P] {nt:Nat} {c:Cx P nt} {env:Env} {H:List Ch} {K:S→List Ch→Prop}
variable {d:Option Tmp} {ty t t':TypeId} {pos:String} {af:Array Edge} {g:Option (Nat × Bool)} {x y z:Operand}
abbrev irow (n:Int):List C:=[.val (.int .i64 n)]
theorem ow_indexI [SL P t] {v:Value} {e:TypeId} {L:List Int} {Hr:List Ch} {m:Int} (j:Nat) (hx:env.ev x=some (.cell (.val v))) (hp:pick [j] H=some ([.own v e 1 (L.map irow)],Hr)) (hy:env.ev y=some (In .i64 m)) (h0:0≤m∧m < (L.length:Int))
 (hz:(TI.i P (SL.e P t)).size=1) (hK:K (.cell (.inn v m.toNat)) H):OpWp c ⟨d,.indexAddr t x y,ty,pos,af,g⟩ env H K :=
 ow_indexOwn j hx hp hy h0.1 (by rw [List.length_map]; omega) hz (by rw [Nat.mul_one]; exact hK)
theorem ow_loadI [TI P t] {v:Value} {e:TypeId} {off:Nat} {L:List Int} {Hr:List Ch} (j:Nat) (ha:aggB (TI.u P t)=false) (hx:env.ev x=some (.cell (.inn v off))) (hp:pick [j] H=some ([.own v e 1 (L.map irow)],Hr))
 (hlt:off < L.length) (hK:K (In .i64 (L.getD off 0)) H):OpWp c ⟨d,.load t x,ty,pos,af,g⟩ env H K :=
 ow_loadInn1 (f:=irow) (e1:=.val (.int .i64 (L.getD off 0))) j ha hx hp hlt (by rw [List.getD_eq_getElem?_getD,List.getElem?_eq_getElem hlt]; rfl) hK
theorem ow_storeI [TI P t] {v:Value} {e:TypeId} {off:Nat} {L:List Int} {Hr:List Ch} {n:Int} (j:Nat) (hx:env.ev x=some (.cell (.inn v off))) (hy:env.ev y=some (In .i64 n)) (hp:pick [j] H=some ([.own v e 1 (L.map irow)],Hr))
 (hlt:off < L.length) (hz:(TI.i P t).size=1) (hK:K .void (.own v e 1 ((L.set off n).map irow) :: Hr)):OpWp c ⟨d,.store t x y,ty,pos,af,g⟩ env H K :=
 ow_storeInnAll (r:=irow n) (row:=irow L[off]) j off hx hy rfl hp (by omega) (by rw [List.getElem?_map,List.getElem?_eq_getElem hlt]; rfl) rfl hz rfl (by rw [List.map_set] at hK; exact hK)
variable {κ α:Type} [KY κ]
theorem ow_mapGetOW [MK P t] [TI P (MK.e P t)] {b:Nat} {vv:α→Value} {M:List (κ × α)} {k:κ} {w:α} {u zv:Value} {Hr:List Ch} (j:Nat) (hd:MK.d P t=KY.d κ) (hzv:(TI.i P (MK.e P t)).zero=some zv) (hw:aget M k=some w) (hu:vv w=u) (h1:u.oneCell'=true) (hx:env.ev x=some (.cell (.val (.map (some b))))) (hp:pick [j] H=some ([.mapc b (mapE vv M)],Hr)) (hy:env.ev y=some (.cell (.val (KY.v k))))
 (hK:K (.cell (.val u)) H):OpWp c ⟨d,.lookup t x y false,ty,pos,af,g⟩ env H K :=
 ow_mapGetO j hd hzv (by rw [hw]; show (vv w).oneCell'=true; rw [hu]; exact h1) hx hp hy (by rw [hw]; show K (.cell (.val (vv w))) H; rw [hu]; exact hK)
end
end Go.Vc
end
section
namespace Go.Vc
open Go.RowKit
section
variable {P:Program} [Gl P] {nt:Nat} {c:Cx P nt} {env:Env} {H:List Ch} {K:S→List Ch→Prop}
variable {d:Option Tmp} {ty t t':TypeId} {pos:String} {af:Array Edge} {g:Option (Nat × Bool)} {x y z:Operand}
theorem ow_makeSliceI [SL P t] {m:Int} (n:Nat) (hz:(TI.i P (SL.e P t)).zero=some (.int .i64 0)) (hsz:(TI.i P (SL.e P t)).size=1) (hbt:(TI.i P (SL.e P t)).bytes=8) (hx:env.ev x=some (In .i64 m)) (hy:env.ev y=some (In .i64 m)) (hm:m=(n:Int)) (hlim:n≤1000000)
 (hK:∀ v,v.oneCell'=true→c.Fresh v→K (.cell (.val v)) (.own v (SL.e P t) 1 ((List.replicate n (0:Int)).map irow) :: H)):OpWp c ⟨d,.makeSlice t x y,ty,pos,af,g⟩ env H K:=by
 subst hm
 have hK':∀ v,v.oneCell'=true→c.Fresh v→K (.cell (.val v)) (.own v (SL.e P t) 1 (List.replicate n (irow 0)) :: H):=fun v h1 h2=>by
  have:=hK v h1 h2
  rwa [List.map_replicate] at this
 exact ow_makeSliceOwn (z:=.int .i64 0) n hz O hsz (by decide) hx hy (by show n * 1≤_; omega) (by rw [hbt]; omega) (by omega) hK'
end
section
variable {P:Program} [Gl P] {nt:Nat} {c:Cx P nt} {env:Env} {H:List Ch} {ops:Array Oper} {Q:Exit→Act→World→Prop}
theorem mem2 {α:Type} {x y z:α} {l:List α}:x ∈ y :: z :: x :: l:=List.mem_cons_of_mem _ mem1
theorem jc_freezeO1 {α:Type} {code:Code} {v v2:Value} {e e2:TypeId} {k:Nat} {rows:List (List C)} {l:List α} {Hr:List Ch} (hl:l.length≤1) (j j2:Nat) (hp:pick [j,j2] H=some ([.own v e k rows,.own v2 e2 1 (l.map (fun _=>[C.val v]))],Hr))
 (hX:∀ b ∈ c.X,b ∈ hb (.own v2 e2 1 (l.map (fun _=>[C.val v])) :: Hr)) (h:JC c code Q env (.own v2 e2 1 (l.map (fun _=>[C.list rows])) :: Hr)):JC c code Q env H:=by
 match l,hl with
 | [],_ =>
  intro a w hs
  have h1:St c env ([.own v e k rows,.own v2 e2 1 []] ++ Hr) a w:=hs.perm (pick_perm hp)
  have h1:St c env ([.own v e k rows] ++ (.own v2 e2 1 [] :: Hr)) a w:=h1
  exact h a w h1.drop
 | [a],_=>exact jc_freezeOG j j2 0 0 hp rfl rfl hX h
theorem jc_hpM2 {id n:Nat} (m:Nat) (hn:ops.size=n) {b1 b2:Nat} {t1 t2:TypeId} {r1 r2:List C} (j1 j2:Nat) (hm:P.follows .mixedOrders=true) (h1:H[j1]?=some (.blk b1 t1 r1)) (h2:H[j2]?=some (.blk b2 t2 r2))
 (h:∀ cs1 cs2:List Value,cs1.length=r1.length→(∀ (i:Nat) (v:Value),r1[i]?=some (C.val v)→cs1[i]?=some v)→cs2.length=r2.length→(∀ (i:Nat) (v:Value),r2[i]?=some (C.val v)→cs2[i]?=some v)→HP c ops Q (Keep [(b1,cs1,t1),(b2,cs2,t2)]) m n (Array.replicate n false) env H):JC c (.region id ops true) Q env H:=by
 intro a w hs
 obtain ⟨cs1,g1,k1⟩:=hs.heap.ok (.blk b1 t1 r1) (List.mem_of_getElem? h1)
 obtain ⟨cs2,g2,k2⟩:=hs.heap.ok (.blk b2 t2 r2) (List.mem_of_getElem? h2)
 refine hp_begin m hn hm hs ?_ (h cs1 cs2 (rdRow_length k1) (rdRow_val k1) (rdRow_length k2) (rdRow_val k2))
 intro p hp
 simp only [List.mem_cons,List.not_mem_nil,or_false] at hp
 rcases hp with rfl | rfl
 ·exact g1
 ·exact g2
theorem jc_hpM3 {id n:Nat} (m:Nat) (hn:ops.size=n) {b1 b2 b3:Nat} {t1 t2 t3:TypeId} {r1 r2 r3:List C} (j1 j2 j3:Nat) (hm:P.follows .mixedOrders=true) (h1:H[j1]?=some (.blk b1 t1 r1)) (h2:H[j2]?=some (.blk b2 t2 r2)) (h3:H[j3]?=some (.blk b3 t3 r3))
 (h:∀ cs1 cs2 cs3:List Value,cs1.length=r1.length→(∀ (i:Nat) (v:Value),r1[i]?=some (C.val v)→cs1[i]?=some v)→cs2.length=r2.length→(∀ (i:Nat) (v:Value),r2[i]?=some (C.val v)→cs2[i]?=some v)→cs3.length=r3.length→(∀ (i:Nat) (v:Value),r3[i]?=some (C.val v)→cs3[i]?=some v)→HP c ops Q (Keep [(b1,cs1,t1),(b2,cs2,t2),(b3,cs3,t3)]) m n (Array.replicate n false) env H):JC c (.region id ops true) Q env H:=by
 intro a w hs
 obtain ⟨cs1,g1,k1⟩:=hs.heap.ok (.blk b1 t1 r1) (List.mem_of_getElem? h1)
 obtain ⟨cs2,g2,k2⟩:=hs.heap.ok (.blk b2 t2 r2) (List.mem_of_getElem? h2)
 obtain ⟨cs3,g3,k3⟩:=hs.heap.ok (.blk b3 t3 r3) (List.mem_of_getElem? h3)
 refine hp_begin m hn hm hs ?_ (h cs1 cs2 cs3 (rdRow_length k1) (rdRow_val k1) (rdRow_length k2) (rdRow_val k2) (rdRow_length k3) (rdRow_val k3))
 intro p hp
 simp only [List.mem_cons,List.not_mem_nil,or_false] at hp
 rcases hp with rfl | rfl | rfl
 ·exact g1
 ·exact g2
 ·exact g3
theorem keepKn {L:List (Nat × List Value × TypeId)} (h:∀ p ∈ L,∃ row,Ch.blk p.1 p.2.2 row ∈ H∧knowsRow row=some p.2.1):∀ w,StW c H w→Keep L w:=by
 intro w hw p hp
 obtain ⟨row,h1,h2⟩:=h p hp
 obtain ⟨cs,g1,g2⟩:=hw.ok _ h1
 rw [rdRow_knows g2 h2] at g1
 exact g1
theorem keepK3 {b1 b2 b3:Nat} {t1 t2 t3:TypeId} {cs1 cs2 cs3:List Value} (h1:∃ row,Ch.blk b1 t1 row ∈ H∧knowsRow row=some cs1) (h2:∃ row,Ch.blk b2 t2 row ∈ H∧knowsRow row=some cs2) (h3:∃ row,Ch.blk b3 t3 row ∈ H∧knowsRow row=some cs3):∀ w,StW c H w→Keep [(b1,cs1,t1),(b2,cs2,t2),(b3,cs3,t3)] w :=
 keepKn (fun p hp=>by
  simp only [List.mem_cons,List.not_mem_nil,or_false] at hp
  rcases hp with rfl | rfl | rfl
  ·exact h1
  ·exact h2
  ·exact h3)
theorem keepAt {b:Nat} {t:TypeId} {row:List C} {cs:List Value} (j:Nat) (hp:H[j]?=some (.blk b t row)) (hk:knowsRow row=some cs):∃ row,Ch.blk b t row ∈ H∧knowsRow row=some cs:=⟨row,List.mem_of_getElem? hp,hk⟩
end
end Go.Vc
end
section
namespace Go.Proofs.YtalkkcfojplmdaaGreatDoor
open Go.Vc
attribute [local irreducible] JL JC JQ OpWp Con ConN HOk
set_option maxHeartbeats 4000000
end Go.Proofs.YtalkkcfojplmdaaGreatDoor
end
section
namespace Go.Proofs.YtalkkcfojplmdaaGreatDoor
open Go.Vc
set_option maxHeartbeats 4000000
attribute [local irreducible] JL JC JQ OpWp Con ConN
def lim (n:Int):Int:=min n 1099511627776
def wP:Nat→T→Int
 | 0,_=>1099511627776
 | f+1,e=>e.args.foldl (fun n x=>lim (n+wP f x)) 1
def wParts (e:T) (f:Nat):Int:=wP f e
def wPartsL (l:List T) (f:Nat) (n:Int):Int:=l.foldl (fun n e=>lim (n+wParts e f)) n
theorem wParts_zero (e:T):wParts e 0=1099511627776:=rfl
theorem wParts_succ (e:T) (f:Nat):wParts e (f+1)=wPartsL e.args f 1:=rfl
theorem lim_bd (n:Int) (h:0≤n):0≤lim n∧lim n≤1099511627776:=by unfold lim; omega
theorem wPartsL_bd (f:Nat) (hf:∀ e,0≤wParts e f∧wParts e f≤1099511627776):∀ (l:List T) (n:Int),0≤n∧n≤1099511627776→0≤wPartsL l f n∧wPartsL l f n≤1099511627776
 | [],n,h=>by simpa [wPartsL] using h
 | e :: r,n,h=>wPartsL_bd f hf r _ (lim_bd _ (by have:=hf e; omega))
theorem wParts_bd:∀ (f:Nat) (e:T),0≤wParts e f∧wParts e f≤1099511627776
 | 0,e=>by rw [wParts_zero]; omega
 | f+1,e=>by rw [wParts_succ]; exact wPartsL_bd f (wParts_bd f) _ _ (by omega)
theorem wPartsL_snoc (f:Nat) (e:T) (l:List T) (n:Int):wPartsL (l ++ [e]) f n=lim (wPartsL l f n+wParts e f):=by simp [wPartsL]
theorem wPartsL_take (f:Nat) (l:List T) (n:Int) (k:Nat) (h:k < l.length):wPartsL (l.take (k+1)) f n=lim (wPartsL (l.take k) f n+wParts l[k] f):=by
 rw [List.take_succ_eq_append_getElem h,wPartsL_snoc]
mutual
def wOne:Nat→Sm→Int
 | 0,_=>1099511627776
 | f+1,s =>
  if s.kind=1 ∨ s.kind=2 then lim (1+wPartsL s.index 20 0+wPartsL s.value 20 0)
  else if s.kind=3 then lim (2+wPartsL s.value 20 0+wAll f s.thn 0+wAll f s.els 0)
  else if s.kind=4 then lim (2+(Max.max 0 (min s.max 33)+1) * lim (2+wPartsL s.value 20 0+wAll f s.thn 0))
  else if s.kind=5 then lim (2+wAll f s.thn 0)
  else 0
def wAll:Nat→List Sm→Int→Int
 | _,[],n=>n
 | f,s :: r,n=>wAll f r (lim (n+wOne f s))
end
theorem prod_bd (a b:Int) (h1:0≤a) (h2:a≤34) (h3:0≤b) (h4:b≤1099511627776):0≤a * b∧a * b≤37383395344384:=by
 refine ⟨Int.mul_nonneg h1 h3,?_⟩
 have:=Int.mul_le_mul h2 h4 h3 (by omega)
 omega
mutual
theorem wOne_bd:∀ (f:Nat) (s:Sm),0≤wOne f s∧wOne f s≤1099511627776
 | 0,s=>by rw [wOne]; omega
 | f+1,s=>by
  have b1:=wPartsL_bd 20 (wParts_bd 20) s.index 0 (by omega)
  have b2:=wPartsL_bd 20 (wParts_bd 20) s.value 0 (by omega)
  have b3:=wAll_bd f s.thn 0 (by omega)
  have b4:=wAll_bd f s.els 0 (by omega)
  rw [wOne]
  split
  ·exact lim_bd _ g_
  split
  ·exact lim_bd _ g_
  split
  ·have b5:=lim_bd (2+wPartsL s.value 20 0+wAll f s.thn 0) (by omega)
   have b7:=prod_bd (Max.max 0 (min s.max 33)+1) _ (by omega) (by omega) b5.1 b5.2
   exact lim_bd _ g_
  split
  ·exact lim_bd _ g_
  ·omega
theorem wAll_bd:∀ (f:Nat) (l:List Sm) (n:Int),0≤n∧n≤1099511627776→0≤wAll f l n∧wAll f l n≤1099511627776
 | f,[],n,h=>by simpa [wAll] using h
 | f,s :: r,n,h=>by
  rw [wAll]
  exact wAll_bd f r _ (lim_bd _ (by have:=wOne_bd f s; omega))
end
theorem wAll_snoc (f:Nat) (e:Sm):∀ (l:List Sm) (n:Int),wAll f (l ++ [e]) n=lim (wAll f l n+wOne f e)
 | [],n=>by simp [wAll]
 | a :: l,n=>by simp only [List.cons_append,wAll]; exact wAll_snoc f e l _
theorem wAll_take (f:Nat) (l:List Sm) (n:Int) (k:Nat) (h:k < l.length):wAll f (l.take (k+1)) n=lim (wAll f (l.take k) n+wOne f l[k]):=by
 rw [List.take_succ_eq_append_getElem h,wAll_snoc]
theorem wexpr_c:∀ (fuel:Nat) (e:T) (depth:Int),0≤depth→depth+fuel=21→Con Tryz.prog 180 [.row e.row',In .i64 depth] [] (fun K=>K (In .i64 (wParts e fuel)) []):=by
 intro fuel
 induction fuel with
 | zero =>
  intro e depth h0 h1
  refine con_intro Tryz.func180 O O b_ (fun c hc=>ZD (fun bx=>?_))
  refine M_ O (o_ O (bz_ O O (T_ (jc_condd O (fun h=>R_ (E_ O (T_ (ar_ (aw_ ?_))))) (fun h=>absurd (show 20 < depth by omega) h)))))
  refine jq_ret1 O O [] O (fun K h=>by rw [wParts_zero] at h; exact h)
 | succ f ih =>
  intro e depth h0 h1
  refine con_intro Tryz.func180 O O b_ (fun c hc=>ZD (fun bx=>?_))
  refine M_ O (o_ O (bz_ O O (T_ (jc_condd O (fun h=>by omega) (fun h=>as_ (al_ (R_ (E_ O (T_ ?_)))))))))
  refine am_ (R_ (E_ O (T_ (au_ (jc_loop [1,2] (fun k=>k≤e.args.length) (fun k=>[(5,In .i64 (wPartsL (e.args.take k) f 1)),(6,In .i64 (k:Int))]) (fun _=>[.blk bx 69 e.row']) (fun k=>e.args.length - k) 0 [0] (Nat.zero_le _) O ?_ ?_)))))
  ·exact Ww
  ·intro k hk
   refine ZB ?_
   refine o_ O (br_ O (fun hlen=>o_ O (bw_ O O (T_ ?_))))
   have hmax:e.args.length≤9223372036854775807:=by simpa using hlen
   refine jc_condd O (fun hlt=>?_) (fun hge=>?_)
   ·simp only [List.length_map,Int.ofNat_lt] at hlt
    have b1:=wParts_bd f e.args[k]
    have b2:=wPartsL_bd f (wParts_bd f) (e.args.take k) 1 (by omega)
    refine as_ (al_ (B_ (an_ (M_ O (F_ O (L_ 0 O (M_ O (Zy ?_))))))))
    refine M_ O (o_ O (bj_ O O g_ (o_ O (bm_ O (ih _ _ g_ g_) (o_ O (bj_ O O g_ (o_ O (cl_ O O (E_ O ?_)))))))))
    refine ak_ (Zk ?_)
    refine jq_again (k+1) [0] hlt g_ O ?_
    ·rw [wPartsL_take f e.args 1 k hlt]
     unfold lim
     rw [Int.min_comm]
     exact Ww
   ·simp only [List.length_map,Int.ofNat_lt] at hge
    refine Yp ?_
    refine ar_ (jq_ret1 O O [] O (fun K h=>by rw [wParts_succ,← List.take_of_length_le (Nat.le_of_not_lt hge)] at h; exact h))
theorem rexprs_c (l:List T):Con Tryz.prog 128 [.cell (.list (l.map T.row))] [] (fun K=>K (In .i64 (wPartsL l 20 0)) []):=by
 refine con_intro Tryz.func128 O O b_ (fun c hc=>R_ (E_ O (T_ (ZO ?_))))
 refine jc_loop [0] (fun k=>k≤l.length) (fun k=>[(3,In .i64 (wPartsL (l.take k) 20 0)),(4,In .i64 (k:Int))]) (fun _=>[]) (fun k=>l.length - k) 0 [] (Nat.zero_le _) O ?_ ?_
 ·exact Ww
 ·intro k hk
  refine Yr (fun hlen=>?_)
  refine T_ ?_
  have hmax:l.length≤9223372036854775807:=by simpa using hlen
  refine jc_condd O (fun hlt=>?_) (fun hge=>?_)
  ·simp only [List.length_map,Int.ofNat_lt] at hlt
   have b1:=wParts_bd 20 l[k]
   have b2:=wPartsL_bd 20 (wParts_bd 20) (l.take k) 0 (by omega)
   refine as_ (al_ (B_ (an_ (M_ O (M_ O (M_ O (Zy ?_)))))))
   refine o_ O (bm_ O (wexpr_c 20 _ _ g_ g_) (o_ O (bj_ O O g_ (o_ O (cl_ O O (E_ O (ak_ (ay_ (al_ ?_)))))))))
   refine an_ (YN ?_)
   refine jq_again (k+1) [] hlt g_ O ?_
   ·rw [wPartsL_take 20 l 0 k hlt]
    unfold lim
    rw [Int.min_comm]
    exact Ww
  ·simp only [List.length_map,Int.ofNat_lt] at hge
   refine Yp ?_
   refine ar_ (jq_ret1 O O [] O (fun K h=>by rw [← List.take_of_length_le (Nat.le_of_not_lt hge)] at h; exact h))
theorem lim_lim (a b:Int) (h:0≤a):lim (a+lim b)=lim (a+b):=by unfold lim; omega
theorem wAll_full (l:List Sm):∀ n,n=1099511627776→wAll 0 l n=1099511627776:=by
 induction l with
 | nil=>intro n h; simpa [wAll] using h
 | cons s l ih=>intro n h; rw [wAll]; exact ih _ (by subst h; rw [wOne]; rfl)
theorem rweight_zero (l:List Sm) (depth:Int) (h1:depth=21):Con Tryz.prog 73 [.cell (.list (l.map Sm.row)),In .i64 depth] [] (fun K=>K (In .i64 (wAll 0 l 0)) []):=by
 refine con_intro Tryz.func73 O O b_ (fun c hc=>R_ (E_ O (T_ (ZO ?_))))
 refine jc_loop [0,1] (fun k:Nat=>k=0) (fun k=>[(5,In .i64 0),(6,In .i64 (k:Int))]) (fun _=>[]) (fun k=>l.length - k) 0 [] O O ?_ ?_
 ·exact Ww
 ·rintro k hk
  refine Yr (fun hlen=>?_)
  refine T_ (jc_condd O (fun hlt=>?_) (fun hge=>?_))
  ·refine as_ (al_ (B_ (Wp ?_)))
   refine T_ (jc_condd O (fun _=>R_ (E_ O (T_ (ar_ (aw_ (az_ (aw_ ?_))))))) (fun h=>by omega))
   refine aw_ (az_ (aw_ (jq_ret1 O O [] O (fun K h=>?_))))
   cases l with
   | nil=>simp at hlt; omega
   | cons s l=>rw [wAll,wAll_full l _ (by simp [wOne,lim])] at h; exact h
  ·refine Yp ?_
   refine ar_ ?_
   have:l=[]:=by cases l with
    | nil=>rfl
    | cons s l=>simp at hge; omega
   subst this
   refine jq_ret1 O O [] O (fun K h=>by simpa [wAll] using h)
theorem rweight_succ (f:Nat) (ih:∀ (l:List Sm) (depth:Int),0≤depth→depth+f=21→Con Tryz.prog 73 [.cell (.list (l.map Sm.row)),In .i64 depth] [] (fun K=>K (In .i64 (wAll f l 0)) []))
 (l:List Sm) (depth:Int) (h0:0≤depth) (h1:depth+(f+1:Nat)=21):Con Tryz.prog 73 [.cell (.list (l.map Sm.row)),In .i64 depth] [] (fun K=>K (In .i64 (wAll (f+1) l 0)) []):=by
 refine con_intro Tryz.func73 O O b_ (fun c hc=>R_ (E_ O (T_ (ZO ?_))))
 refine jc_loop [0,1] (fun k=>k≤l.length) (fun k=>[(5,In .i64 (wAll (f+1) (l.take k) 0)),(6,In .i64 (k:Int))]) (fun _=>[]) (fun k=>l.length - k) 0 [] (Nat.zero_le _) O ?_ ?_
 ·rw [List.take_zero,wAll]
  exact Ww
 ·intro k hk
  refine Yr (fun hlen=>?_)
  refine T_ ?_
  have hmax:l.length≤9223372036854775807:=by simpa using hlen
  refine jc_condd O (fun hlt=>?_) (fun hge=>?_)
  ·simp only [List.length_map,Int.ofNat_lt] at hlt
   have b1:=wPartsL_bd 20 (wParts_bd 20) l[k].index 0 (by omega)
   have b2:=wPartsL_bd 20 (wParts_bd 20) l[k].value 0 (by omega)
   have b3:=wAll_bd f l[k].thn 0 (by omega)
   have b4:=wAll_bd f l[k].els 0 (by omega)
   have b8:=wAll_bd (f+1) (l.take k) 0 (by omega)
   refine as_ (al_ (B_ (Wp ?_)))
   refine T_ (jc_condd O (fun h=>by omega) (fun h=>as_ (al_ (R_ (M_ O (M_ O (Zq ?_)))))))
   refine Yt (fun bl=>?_)
   refine R_ (E_ O (T_ (am_ (R_ (F_ O (L_ 0 O (T_ (jc_cut (ι:=Int) [0,1,5,6] (fun n=>0≤n∧n≤1099511627776000000∧lim n=wOne (f+1) l[k]) (fun n=>[(8,In .i64 n)]) (fun _=>[]) ?_ ?_))))))))
   ·refine au_ (am_ (Zu ?_))
    refine jc_condd O (fun hk1=>?_) (fun hk1=>?_)
    ·refine as_ (al_ (jc_condd O (fun _=>ao_ O O k_ k_ (yF_ O (yL_ 0 O (aa_ (fun c=>bm_ O (rexprs_c _) p_) (aa_ (fun c=>bj_ O O g_ p_) (yF_ O (yL_ 0 O (aa_ (fun c=>bm_ O (rexprs_c _) p_) (aa_ (fun c=>bj_ O O g_ p_) (yE_ O (ae_ (ay_ (jq_cut (1+wPartsL l[k].index 20 0+wPartsL l[k].value 20 0) [] ⟨by omega,by omega,by rw [wOne,if_pos (.inl hk1)]⟩ O ?_))))))))))))) (fun h=>absurd hk1 h)))
     exact Ww
    ·refine an_ (o_ O (bn_ O O (E_ O (T_ (jc_condd O (fun hk2=>?_) (fun hk2=>?_))))))
     ·refine ao_ O O k_ k_ (yF_ O (yL_ 0 O (aa_ (fun c=>bm_ O (rexprs_c _) p_) (aa_ (fun c=>bj_ O O g_ p_) (yF_ O (yL_ 0 O (aa_ (fun c=>bm_ O (rexprs_c _) p_) (aa_ (fun c=>bj_ O O g_ p_) (yE_ O (ae_ (ay_ (jq_cut (1+wPartsL l[k].index 20 0+wPartsL l[k].value 20 0) [] ⟨by omega,by omega,by rw [wOne,if_pos (.inr hk2)]⟩ O ?_))))))))))))
      exact Ww
     ·have h12:¬ (l[k].kind=1 ∨ l[k].kind=2):=by omega
      refine Zu ?_
      refine jc_condd O (fun hk3=>?_) (fun hk3=>?_)
      ·refine ao_ O O k_ k_ (yF_ O (yL_ 0 O (aa_ (fun c=>bm_ O (rexprs_c _) p_) (YO ?_))))
       refine aa_ (fun c=>bm_ O (ih _ _ g_ g_) p_) (YO ?_)
       refine aa_ (fun c=>bm_ O (ih _ _ g_ g_) p_) ?_
       refine aa_ (fun c=>bj_ O O g_ p_) (yE_ O (ae_ (ay_ (jq_cut (2+wPartsL l[k].value 20 0+wAll f l[k].thn 0+wAll f l[k].els 0) [] ⟨by omega,by omega,by rw [wOne,if_neg h12,if_pos hk3]⟩ O ?_))))
       exact Ww
      ·refine Zu ?_
       refine jc_condd O (fun hk4=>?_) (fun hk4=>?_)
       ·have b5:=lim_bd (2+wPartsL l[k].value 20 0+wAll f l[k].thn 0) (by omega)
        unfold lim at b5
        rw [Int.min_comm] at b5
        have b6:0≤Max.max 0 (min l[k].max 33)+1∧Max.max 0 (min l[k].max 33)+1≤34:=by omega
        have b7:=prod_bd _ _ b6.1 b6.2 b5.1 b5.2
        refine Yh ?_
        refine cl_ O O (o_ O (ck_ O O (E_ O (T_ (ao_ O O k_ k_ (yM_ O (aa_ (fun c=>bj_ O O g_ p_) (yF_ O (yL_ 0 O (aa_ (fun c=>bm_ O (rexprs_c _) p_) (aa_ (fun c=>bj_ O O g_ p_) (yF_ O (yL_ 0 O ?_)))))))))))))
        refine yM_ O (aa_ (fun c=>bj_ O O g_ p_) (aa_ (fun c=>bm_ O (ih _ _ g_ g_) p_) (aa_ (fun c=>bj_ O O g_ p_) (aa_ (fun c=>cl_ O O p_) (aa_ (fun c=>cz_ O O g_ p_) (aa_ (fun c=>bj_ O O g_ p_) (yE_ O (ae_ (ay_ ?_)))))))))
        refine jq_cut (2+(Max.max 0 (min l[k].max 33)+1) * min 1099511627776 (2+wPartsL l[k].value 20 0+wAll f l[k].thn 0)) [] ⟨by omega,by omega,by rw [wOne,if_neg h12,if_neg hk3,if_pos hk4,Int.min_comm 1099511627776]; rfl⟩ O ?_
        exact Ww
       ·refine Zu ?_
        refine jc_condd O (fun hk5=>?_) (fun hk5=>?_)
        ·refine an_ (F_ O (L_ 0 O (M_ O (o_ O (bj_ O O g_ (o_ O (bm_ O (ih _ _ g_ g_) (o_ O (bj_ O O g_ (E_ O (ak_ (ay_ (jq_cut (2+wAll f l[k].thn 0) [] ⟨by omega,by omega,by rw [wOne,if_neg h12,if_neg hk3,if_neg hk4,if_pos hk5]⟩ O ?_)))))))))))))
         exact Ww
        ·refine as_ (ay_ (jq_cut 0 [] ⟨by omega,by omega,by rw [wOne,if_neg h12,if_neg hk3,if_neg hk4,if_neg hk5]; rfl⟩ O ?_))
         exact Ww
   ·rintro n ⟨hn0,hn1,hn⟩
    refine an_ (M_ O (M_ O (o_ O (bj_ O O g_ (o_ O (cl_ O O (E_ O (ak_ (Zk ?_)))))))))
    refine jq_again (k+1) [] hlt g_ O ?_
    ·rw [wAll_take (f+1) l 0 k hlt,← hn,lim_lim _ _ b8.1]
     unfold lim
     rw [Int.min_comm]
     exact Ww
  ·simp only [List.length_map,Int.ofNat_lt] at hge
   refine Yp ?_
   refine ar_ (jq_ret1 O O [] O (fun K h=>by rw [← List.take_of_length_le (Nat.le_of_not_lt hge)] at h; exact h))
theorem rweight_c:∀ (f:Nat) (l:List Sm) (depth:Int),0≤depth→depth+f=21→Con Tryz.prog 73 [.cell (.list (l.map Sm.row)),In .i64 depth] [] (fun K=>K (In .i64 (wAll f l 0)) [])
 | 0,l,depth,_,h1=>rweight_zero l depth (by omega)
 | f+1,l,depth,h0,h1=>rweight_succ f (rweight_c f) l depth h0 h1
theorem rWeight_c (l:List Sm):Con Tryz.prog 32 [.cell (.list (l.map Sm.row))] [] (fun K=>K (In .i64 (wAll 20 l 0)) []):=by
 refine con_intro Tryz.func32 O O b_ (fun c hc=>R_ (E_ O (T_ (R_ (M_ O (o_ O (bm_ O (rweight_c 20 _ _ g_ g_) (E_ O (T_ (ar_ (jq_ret1 O O [] O (fun K h=>h))))))))))))
end Go.Proofs.YtalkkcfojplmdaaGreatDoor
end
section
namespace Go.Proofs.YtalkkcfojplmdaaGreatDoor
open Go.Vc
set_option maxHeartbeats 4000000
attribute [local irreducible] JL JC JQ OpWp Con ConN
abbrev DkRow (L:List Int):List C:=[.list (L.map Irow),.ex (fun i:Fin (L.length+1)=>.val (.int .i64 (i.1:Int)))]
abbrev Dk (b:Nat) (L:List Int):Ch:=.blk b 88 (DkRow L)
theorem gFew_c (a:List Int):Con Tryz.prog 12 [.cell (.list (a.map Irow))] [] (fun K=>K (Bl (decide (a.length≤400))) []):=by
 refine con_intro Tryz.func12 O O b_ (fun c hc=>R_ (YX ?_))
 refine br_ O (fun hlen=>o_ O (cu_ O O (E_ O (T_ (ar_ (jq_ret1 O O [] O (fun K h=>?_)))))))
 have e:decide (a.length≤400)=decide (((a.map Irow).length:Int)≤400):=by simp; omega
 rw [e] at h
 exact h
theorem gMod_c (n k:Int) (hk:1≤k∧k≤1000000000) (_hn:-9223372036854775808≤n∧n≤9223372036854775807):Con Tryz.prog 24 [In .i64 n,In .i64 k] [] (fun K=>K (In .i64 (n % k)) []):=by
 have h1:=Int.tmod_lt_of_pos n (show 0 < k by omega)
 have h2:-k < n.tmod k:=by
  have:=Int.tmod_lt_of_pos (-n) (show 0 < k by omega)
  rw [Int.neg_tmod] at this
  omega
 have e:(n.tmod k+k) % k=n % k:=by
  rw [Int.add_emod_right,Int.tmod_eq_emod]
  split
  ·rw [show (n % k - ((0:Nat):Int))=n % k by omega]
   exact Int.emod_emod_of_dvd n (Int.dvd_refl k)
  ·rw [Int.sub_emod,show ((k.natAbs:Int))=k by omega,Int.emod_self,Int.sub_zero,Int.emod_emod_of_dvd _ (Int.dvd_refl k)]
   exact Int.emod_emod_of_dvd n (Int.dvd_refl k)
 refine con_intro Tryz.func24 O O b_ (fun c hc=>R_ (E_ O (T_ (R_ (M_ O (M_ O (o_ O (ch_ O O g_ (M_ O (o_ O (bj_ O O g_ (M_ O (o_ O (ow_rem64 O O g_ g_ (E_ O (T_ (ar_ (jq_ret1 O O [] O (fun K h=>by rw [← e] at h; exact h)))))))))))))))))))
theorem gNew_c (L:List Int):Con Tryz.prog 14 [.cell (.list (L.map Irow))] [] (fun K=>∀ b,K (Ptr b) [Dk b L]):=by
 refine con_intro Tryz.func14 O O b_ (fun c hc=>R_ (E_ O (T_ (R_ (M_ O (o_ O (bu_ O O O O O (o_ O (ci_ O (fun bx=>E_ O (T_ (ar_ (jq_row 0 (DkRow L) O (.cons (.refl _) (.cons (.ex (fun i:Fin (L.length+1)=>.val (.int .i64 (i.1:Int))) ⟨0,by omega⟩) .nil)) (jq_ret1 O O [0] O (fun K h=>h bx)))))))))))))))
abbrev Upto (n:Int):S:=.ex (fun i:{i:Int // 0≤i∧(i < n ∨ i=0)}=>In .i64 i.1)
theorem gNext_c (L:List Int) (b:Nat) (n:Int) (hL:∀ x ∈ L,-9223372036854775808≤x∧x≤9223372036854775807) (hlen:L.length≤400) (hn:n≤1000000000) :
 Con Tryz.prog 46 [Ptr b,In .i64 n] [Dk b L] (fun K=>K (Upto n) [Dk b L]):=by
 refine con_intro Tryz.func46 O O b_ (fun c hc=>jc_open 0 O (.there .here) (fun i=>?_))
 obtain ⟨i,hi⟩:=i
 dsimp only
 have fin:∀ k:Nat,k≤L.length→RowLe [.list (L.map Irow),.val (.int .i64 (k:Int))] (DkRow L):=fun k hk=>.cons (.refl _) (.cons (.ex (fun i:Fin (L.length+1)=>.val (.int .i64 (i.1:Int))) ⟨k,by omega⟩) .nil)
 have up:∀ k,0≤k∧(k < n ∨ k=0)→SLe (In .i64 k) (Upto n):=fun k hk=>SLe.ex (fun i:{i:Int // 0≤i∧(i < n ∨ i=0)}=>In .i64 i.1) ⟨k,hk⟩
 by_cases hge:(((L.map Irow).length:Nat):Int)≤(i:Int)
 ·refine R_ (E_ O (T_ (am_ (am_ (ao_ O O k_ k_ (Yb ?_))))))
  refine aa_ (fun c=>cn_ O O p_) ?_
  refine yM_ O (ac_ O u_ (ac_ O u_ (aa_ (fun c=>bp_ O u_ O p_) (ae_ (al_ (jc_cond rfl (fun _=>R_ (E_ O (T_ (ar_ (aw_ (jq_row 0 _ rfl (fin i g_) (jq_sle 4 rfl (up 0 g_) (jq_ret1 rfl rfl [0] rfl (fun K h=>h))))))))) (fun h=>by cases h)))))))
 ·by_cases hn1:n≤1
  ·refine R_ (E_ O (T_ (am_ (am_ (ao_ O O k_ k_ (Yb ?_))))))
   refine aa_ (fun c=>cn_ O O p_) ?_
   refine yM_ O (ab_ O w_ (fun c=>bd_ O p_) (ab_ O w_ (fun c=>cu_ O O p_) (aa_ (fun c=>bv_ O w_ O p_) (ae_ (al_ (jc_condd O (fun _=>R_ (E_ O (T_ (ar_ (aw_ (jq_row 0 _ O (fin i g_) (jq_sle 4 O (up 0 g_) (jq_ret1 O O [0] O (fun K h=>h))))))))) (fun h=>absurd hn1 h)))))))
  ·have hlt:i < L.length:=by simp at hge; omega
   have hlt2:((i:Int)+1 - 1).toNat < L.length:=by omega
   have hr:=hL L[((i:Int)+1 - 1).toNat] (List.getElem_mem hlt2)
   have hm:=Int.emod_nonneg L[((i:Int)+1 - 1).toNat] (show n≠0 by omega)
   have hm2:=Int.emod_lt_of_pos L[((i:Int)+1 - 1).toNat] (show 0 < n by omega)
   refine R_ (E_ O (T_ (am_ (am_ (ao_ O O k_ k_ (Yb ?_))))))
   refine aa_ (fun c=>cn_ O O p_) ?_
   refine yM_ O (ab_ O w_ (fun c=>bd_ O p_) (ab_ O w_ (fun c=>cu_ O O p_) (aa_ (fun c=>bv_ O w_ O p_) (ae_ (al_ (jc_condd O (fun h=>absurd h hn1) (fun _=>as_ (al_ (R_ (YF ?_))))))))))
   refine o_ O (bj_ O O g_ (N_ O ?_))
   refine F_ O (W_ 0 O (T_ (am_ (ao_ O O k_ k_ (yM_ O (yN_ O (yF_ O (yL_ 0 O (yM_ O (yN_ O (yF_ O (yL_ 0 O (aa_ (fun c=>cg_ O O g_ p_) (aa_ (fun c=>cv_ O O g_ g_ O O b_ p_) (aa_ (fun c=>cb_ O O p_) ?_)))))))))))))))
   refine yM_ O (aa_ (fun c=>bm_ O (gMod_c _ _ g_ hr) p_) (yE_ O (ae_ (al_ (ar_ (jq_row 0 _ O (fin (i+1) g_) (jq_sle 4 O (up _ ⟨hm,.inl hm2⟩) (jq_ret1 O O [0] O (fun K h=>h)))))))))
theorem gNum_c (n:Int):Con Tryz.prog 37 [In .i64 n] [] (fun K=>K (.row (T.nu n).row') []):=by
 refine con_intro Tryz.func37 O O b_ (fun c hc=>R_ (o_ O (bl_ O O (fun bl=>T_ (R_ (M_ O (o_ O (bu_ O O O O O (S_ 0 O (T_ (ar_ (jq_row 0 (T.nu n).row' O ?_ ?_))))))))))))
 ·(repeat (first | exact RowLe.nil | refine RowLe.cons (CLe.refl _) ?_ | refine RowLe.cons CLe.nil ?_))
 ·refine jq_retRow O O O O 0 O [] O (fun K h=>h)
theorem gName_c (s:ByteArray):Con Tryz.prog 40 [Str s] [] (fun K=>K (.row (T.nm s).row') []):=by
 refine con_intro Tryz.func40 O O b_ (fun c hc=>R_ (o_ O (bl_ O O (fun bl=>T_ (R_ (M_ O (o_ O (bu_ O O O O O (S_ 0 O (T_ (ar_ (jq_row 0 (T.nm s).row' O ?_ ?_))))))))))))
 ·(repeat (first | exact RowLe.nil | refine RowLe.cons (CLe.refl _) ?_ | refine RowLe.cons CLe.nil ?_))
 ·refine jq_retRow O O O O 0 O [] O (fun K h=>h)
theorem gBin_c (o:Int) (a b:T):Con Tryz.prog 38 [In .i64 o,.row a.row',.row b.row'] [] (fun K=>K (.row (T.bn o a b).row') []):=by
 refine con_intro Tryz.func38 O O b_ (fun c hc=>R_ (o_ O (ci_ O (fun bx=>o_ O (ci_ O (fun bx=>o_ O (bl_ O O (fun bl=>T_ (R_ (M_ O (A_ 2 O (A_ 1 O (YK ?_)))))))))))))
 refine bu_ O O O O O (S_ 0 O (T_ (ar_ (jq_row 0 (T.bn o a b).row' O ?_ ?_))))
 ·(repeat (first | exact RowLe.nil | refine RowLe.cons (CLe.refl _) ?_ | refine RowLe.cons CLe.nil ?_))
  exact RowLe.cons (CLe.eq (by simp [T.row_eq,T.args])) .nil
 ·refine jq_retRow O O O O 0 O [] O (fun K h=>h)
abbrev InR (L:List Int):Prop:=∀ x ∈ L,-9223372036854775808≤x∧x≤9223372036854775807
theorem Nx_c {L:List Int} {b:Nat} (n:Int) (hL:InR L) (hLn:L.length≤400) (hn:n≤1000000000) :
 Con Tryz.prog 46 [Ptr b,In .i64 n] [Dk b L] (fun K=>∀ i:Int,(0≤i∧(i < n ∨ i=0))→K (In .i64 i) [Dk b L]) :=
 con_exP (gNext_c L b n hL hLn hn)
theorem gOp_c {L:List Int} {b:Nat} (hL:InR L) (hLn:L.length≤400) :
 Con Tryz.prog 241 [Ptr b] [Dk b L] (fun K=>∀ i:Int,(1≤i∧i≤14)→K (In .i64 i) [Dk b L]):=by
 refine con_intro Tryz.func241 O O b_ (fun c hc=>R_ (E_ O (T_ (R_ (M_ O (o_ O (bt_ [0] O O (Nx_c _ hL hLn g_) (fun i hi=>o_ O (bj_ O O g_ (E_ O (T_ (ar_ (jq_ret1 O O [0] O (fun K h=>h (1+i) g_))))))))))))))
theorem gWord_c {L:List Int} {b:Nat} (hL:InR L) (hLn:L.length≤400) :
 Con Tryz.prog 47 [Ptr b] [Dk b L] (fun K=>∀ i:Int,(-2147483648≤i∧i≤2147483647)→K (In .i64 i) [Dk b L]):=by
 refine con_intro Tryz.func47 O O b_ (fun c hc=>ZV ?_)
 refine bt_ [0] O O (Nx_c _ hL hLn g_) (fun k hk=>T_ (au_ (Zu ?_)))
 refine jc_condd O (fun h0=>?_) (fun h0=>?_)
 ·refine R_ (M_ O (o_ O (bt_ [0] O O (Nx_c _ hL hLn g_) (fun i hi=>o_ O (cy_ O g_ (E_ O (T_ (ar_ (az_ (aw_ (jq_ret1 O O [0] O (fun K h=>h _ g_))))))))))))
 refine Zu ?_
 refine jc_condd O (fun h1=>?_) (fun h1=>?_)
 ·refine R_ (M_ O (o_ O (bt_ [0] O O (Nx_c _ hL hLn g_) (fun i hi=>o_ O (cg_ O O g_ (E_ O (T_ (ar_ (az_ (aw_ (jq_ret1 O O [0] O (fun K h=>h _ g_))))))))))))
 refine Zu ?_
 refine jc_condd O (fun h2=>?_) (fun h2=>?_)
 ·refine R_ (M_ O (o_ O (bt_ [0] O O (Nx_c _ hL hLn g_) (fun i hi=>o_ O (bj_ O O g_ (E_ O (T_ (ar_ (az_ (aw_ (jq_ret1 O O [0] O (fun K h=>h _ g_))))))))))))
 refine Zu ?_
 refine jc_condd O (fun h3=>?_) (fun h3=>?_)
 ·refine R_ (M_ O (o_ O (bt_ [0] O O (Nx_c _ hL hLn g_) (fun i hi=>?_))))
  have h5:(0:Int)≤1 * 2 ^ i.toNat∧(1:Int) * 2 ^ i.toNat≤1073741824:=by
   have h6:(2:Nat) ^ i.toNat≤2 ^ 30:=Nat.pow_le_pow_right (by omega) (by omega)
   have h7:((2 ^ i.toNat:Nat):Int)=(2:Int) ^ i.toNat:=by simp
   have h8:(0:Int)≤(2:Int) ^ i.toNat:=h7 ▸ Int.natCast_nonneg _
   omega
  refine o_ O (ow_convU64 O O O g_ (o_ O (ow_shl64 O O g_ g_ (E_ O (T_ (ar_ (az_ (aw_ (jq_ret1 O O [0] O (fun K h=>h _ g_))))))))))
 ·refine as_ (ay_ (al_ (R_ (M_ O (o_ O (bt_ [0] O O (Nx_c _ hL hLn g_) (fun i hi=>E_ O (T_ (ar_ (jq_ret1 O O [0] O (fun K h=>h _ g_)))))))))))
abbrev MkRow (bd:Nat) (V:List ByteArray) (lv:Value) (A:List ByteArray) (Sh:List Shd) (hs:ByteArray) (lab st il:Int):List C :=
 [.val (.pointer (some ⟨bd,0,none⟩)),.list (V.map Wrow),.val lv,.list (A.map Wrow),.list (Sh.map ShRow),.val (.string hs),.val (.int .i64 lab),.val (.int .i64 st),.val (.int .i64 il)]
abbrev Mk (bm bd:Nat) (V:List ByteArray) (lv:Value) (A:List ByteArray) (Sh:List Shd) (hs:ByteArray) (lab st il:Int):Ch:=.blk bm 165 (MkRow bd V lv A Sh hs lab st il)
theorem gname_c {L:List Int} {bm bd:Nat} {V A:List ByteArray} {lv:Value} {Sh:List Shd} {hs:ByteArray} {lab st il:Int} (hL:InR L) (hLn:L.length≤400) (l:List ByteArray) (h0:0 < l.length) (h1:l.length≤1000) :
 Con Tryz.prog 221 [Ptr bm,.cell (.list (l.map Wrow))] [Mk bm bd V lv A Sh hs lab st il,Dk bd L] (fun K=>∀ s:ByteArray,s ∈ l→K (Str s) [Mk bm bd V lv A Sh hs lab st il,Dk bd L]):=by
 refine con_intro Tryz.func221 O O b_ (fun c hc=>R_ (E_ O (T_ (R_ (M_ O (YF ?_))))))
 refine M_ O (o_ O (br_ O (fun hlen=>o_ O (bt_ [1] O O (Nx_c _ hL hLn (by simp; omega)) (fun i hi=>?_)))))
 simp only [List.length_map] at hi
 refine o_ O (cv_ O O g_ g_ O O b_ (o_ O (cb_ O O (E_ O (T_ (ar_ (jq_ret1 O O [1,0] O (fun K h=>h _ (List.getElem_mem _)))))))))
end Go.Proofs.YtalkkcfojplmdaaGreatDoor
end
section
namespace Go.Proofs.YtalkkcfojplmdaaGreatDoor
open Go.Vc
set_option maxHeartbeats 4000000
attribute [local irreducible] JL JC JQ OpWp Con ConN
def usableF (A:List ByteArray) (Sh:List Shd) (hs:ByteArray):List ByteArray:=A ++ Sh.filterMap fun s=>if s.2.2=hs then some s.1 else none
theorem usable_len (A:List ByteArray) (Sh:List Shd) (hs:ByteArray):(usableF A Sh hs).length≤A.length+Sh.length:=by
 unfold usableF
 rw [List.length_append]
 have:=List.length_filterMap_le (fun s:Shd=>if s.2.2=hs then some s.1 else none) Sh
 omega
inductive ExG (V U:List ByteArray):Nat→T→Prop
 | nu (d:Nat) (n:Int) (h:-2147483647≤n∧n≤2147483647):ExG V U d (.nu n)
 | nm (d:Nat) (s:ByteArray) (h:s ∈ V):ExG V U d (.nm s)
 | ix (d:Nat) (s:ByteArray) (t:T) (h:s ∈ U) (ht:ExG V U d t):ExG V U (d+1) (.ix s t)
 | bn (d:Nat) (o:Int) (a b:T) (ho:1≤o∧o≤14) (ha:ExG V U d a) (hb:ExG V U d b):ExG V U (d+1) (.bn o a b)
theorem ExG.pos {x:Int} (h:0 < x):x.toNat=(x - 1).toNat+1:=by omega
section
variable {L:List Int} {bm bd:Nat} {V A LS:List ByteArray} {lv:Value} {Sh:List Shd} {hs:ByteArray} {lab st il:Int}
theorem gusable_c (hA:A.length≤100) (hSh:Sh.length≤100) :
 Con Tryz.prog 220 [Ptr bm] [Mk bm bd V lv A Sh hs lab st il] (fun K=>K (.cell (.list ((usableF A Sh hs).map Wrow))) [Mk bm bd V lv A Sh hs lab st il]):=by
 have eS:(Sh.map ShRow).length=Sh.length:=List.length_map _
 refine con_intro Tryz.func220 O O b_ (fun c hc=>R_ (E_ O (T_ (R_ (o_ O (ow_buildSliceOwn O O b_ O O b_ (fun v0 hv0 fv0=>Wm ?_)))))))
 refine ow_appendM (f:=Wrow) (l1:=[]) (l2:=A) 0 O O O O O O O (fun _=>O) (by show (0+_) * 16≤_; omega) (by simp; omega) (fun v1 hv1=>E_ O (T_ (am_ (R_ (E_ O ?_)))))
 refine T_ (au_ (jc_loopS (ι:=Nat × Value) [] (fun i=>i.1≤Sh.length) (fun i=>[(0,Ptr bm),(3,.cell (.val i.2)),(4,In .i64 (i.1:Int))]) (fun i=>[.own i.2 9 1 ((usableF A (Sh.take i.1) hs).map Wrow),Mk bm bd V lv A Sh hs lab st il]) (fun i=>Sh.length - i.1) (0,v1) (Nat.zero_le _) ?_ ?_ ?_))
 ·rw [show usableF A (Sh.take 0) hs=A by simp [usableF]]
  exact Wx
 ·exact Ww
 rintro ⟨k,v⟩ hk
 dsimp only at hk ⊢
 have hlen:=usable_len A (Sh.take k) hs
 have htk:(Sh.take k).length≤k:=by rw [List.length_take]; omega
 refine jc_reset [(0,Ptr bm),(3,.cell (.val v)),(4,In .i64 (k:Int))] [.own v 9 1 ((usableF A (Sh.take k) hs).map Wrow),Mk bm bd V lv A Sh hs lab st il] ?_ ⟨[0,0],[],rfl⟩ ?_
 ·exact Ww
 by_cases hlt:k < Sh.length
 ·have hlt':(k:Int) < ((Sh.map ShRow).length:Int):=by omega
  by_cases he:Sh[k].2.2=hs
  ·have e2:usableF A (Sh.take (k+1)) hs=usableF A (Sh.take k) hs ++ [Sh[k].1]:=by
    unfold usableF
    rw [List.take_succ_eq_append_getElem hlt,List.filterMap_append,List.append_assoc]
    simp [he]
   refine Yu ?_
   refine N_ O (F_ O (L_ 1 O (Zb (fun hlen=>?_))))
   refine am_ (ao_ O O k_ k_ ?_)
   refine Wg ?_
   refine Zi ?_
   refine Wg ?_
   refine aa_ (fun c=>cs_ O O p_) (ae_ (al_ (aq_ O u_ ?_)))
   refine an_ (M_ O (M_ O (N_ O (F_ O (L_ 1 O (M_ O (ZI ?_)))))))
   refine cf_ O O O b_ O b_ (o_ O (Yo ?_))
   refine bq_ O O b_ O O b_ ?_
   refine o_ O (ow_append1 0 (Sh[k].1) O O O O O O O (fun _=>O) (by show (_+_) * 16≤_; first | omega | (simp only [List.length_append]; omega)) (by first | omega | (simp only [List.length_append]; omega)) (fun v2 hv2=>E_ O (ak_ (Zk ?_))))
   refine jq_againS (i:=(k,v)) ((k+1,v2):Nat × Value) hlt (by dsimp only; omega) ?_ ?_
   ·rw [e2]
    exact Wx
   ·exact Ww
  ·have e2:usableF A (Sh.take (k+1)) hs=usableF A (Sh.take k) hs:=by
    unfold usableF
    rw [List.take_succ_eq_append_getElem hlt,List.filterMap_append]
    simp [he]
   refine Yu ?_
   refine N_ O (F_ O (L_ 1 O (Zb (fun hlen=>?_))))
   refine am_ (ao_ O O k_ k_ ?_)
   refine Wg ?_
   refine Zi ?_
   refine Wg ?_
   refine aa_ (fun c=>cs_ O O p_) (ae_ (al_ (ap_ O w_ ?_)))
   refine as_ (Zk ?_)
   refine jq_againS (i:=(k,v)) ((k+1,v):Nat × Value) hlt (by dsimp only; omega) ?_ ?_
   ·rw [e2]
    exact Wx
   ·exact Ww
 ·have hlt':¬ (k:Int) < ((Sh.map ShRow).length:Int):=by omega
  have e2:Sh.take k=Sh:=List.take_of_length_le (by omega)
  rw [e2]
  refine Yu ?_
  refine N_ O (F_ O (L_ 1 O (Zh (fun hlen=>?_))))
  refine al_ ?_
  refine R_ (M_ O (E_ O (T_ (ar_ (jq_freeze 2 0 O O (by rw [hc]; simp [hb]) (jq_ret1 O O [0] O (fun K h=>h)))))))
theorem gtarget_c (hL:InR L) (hLn:L.length≤400) (hV0:0 < V.length) (hV:V.length≤100) (hLS:LS.length≤100) :
 Con Tryz.prog 225 [Ptr bm] [Mk bm bd V lv A Sh hs lab st il,Dk bd L,.own lv 9 1 (LS.map Wrow)] (fun K=>∀ s:ByteArray,s ∈ V→K (Str s) [Mk bm bd V lv A Sh hs lab st il,Dk bd L,.own lv 9 1 (LS.map Wrow)]):=by
 have eV:(V.map Wrow).length=V.length:=List.length_map _
 refine con_intro Tryz.func225 O O b_ (fun c hc=>R_ (E_ O (T_ (R_ (M_ O (YF ?_))))))
 refine o_ O (bt_ [0,0] O O (gname_c hL hLn V hV0 g_) (fun s hs1=>E_ O (T_ (am_ (R_ (E_ O ?_))))))
 refine T_ (au_ (jc_loop [0,3] (fun k=>k≤LS.length) (fun k=>[(4,In .i64 (k:Int))]) (fun _=>[Mk bm bd V lv A Sh hs lab st il,Dk bd L,.own lv 9 1 (LS.map Wrow)]) (fun k=>LS.length - k) 0 [0,0,0] (Nat.zero_le _) O ?_ ?_))
 ·exact Ww
 ·intro k hk
  refine Yu ?_
  refine N_ O (F_ O (L_ 0 O (o_ O (cw_ 2 O O (fun hlen=>o_ O (bw_ O O (T_ (jc_condd O (fun hlt=>?_) (fun hge=>?_)))))))))
  ·simp only [List.length_map,Int.ofNat_lt] at hlt
   refine as_ (al_ (B_ (R_ (YF ?_))))
   refine M_ O (o_ O (dc_ 2 O O O g_ (by simp only [List.length_map]; omega) O (o_ O (db_ 2 O O O g_ O (M_ O (o_ O (cs_ O O (T_ (jc_condd O (fun he=>?_) (fun hne=>?_))))))))))
   ·refine am_ (ao_ O O k_ k_ (Yb ?_))
    refine aa_ (fun c=>cg_ O O g_ p_) (aa_ (fun c=>cv_ O O g_ g_ O O b_ p_) (aa_ (fun c=>cb_ O O p_) (yE_ O (ae_ ?_))))
    refine al_ (ar_ (az_ (aw_ (aw_ (az_ (aw_ (jq_ret1 O O [0,0,0] O (fun K h=>h _ (List.getElem_mem _)))))))))
   ·refine as_ (Zk ?_)
    refine jq_again (k+1) [0,0,0] hlt g_ O ?_
    exact Ww
  ·refine Yp ?_
   refine ar_ (jq_ret1 O O [0,0,0] O (fun K h=>h _ hs1))
theorem gexpr_step (hL:InR L) (hLn:L.length≤400) (hV0:0 < V.length) (hV:V.length≤100) (hA:A.length≤100) (hSh:Sh.length≤100) (d:Int) (hd0:-100≤d) (hd1:d≤100)
 (ih:0 < d→Con Tryz.prog 222 [Ptr bm,In .i64 (d - 1)] [Mk bm bd V lv A Sh hs lab st il,Dk bd L] (fun K=>∀ e:T,ExG V (usableF A Sh hs) (d - 1).toNat e→K (.row e.row') [Mk bm bd V lv A Sh hs lab st il,Dk bd L])) :
 Con Tryz.prog 222 [Ptr bm,In .i64 d] [Mk bm bd V lv A Sh hs lab st il,Dk bd L] (fun K=>∀ e:T,ExG V (usableF A Sh hs) d.toNat e→K (.row e.row') [Mk bm bd V lv A Sh hs lab st il,Dk bd L]):=by
 refine con_intro Tryz.func222 O O b_ (fun c hc=>R_ (o_ O (bl_ O O (fun bl=>T_ (R_ (Wm ?_))))))
 refine bt_ [2] O O (Nx_c _ hL hLn g_) (fun k0 hk0=>E_ O (T_ (am_ (R_ (M_ O (o_ O (cu_ O O ?_)))))))
 refine T_ ?_
 have ht:0≤k0 % 3∧k0 % 3≤2:=by omega
 refine jc_cut (ι:=Int) [0,1,4] (fun k=>0≤k∧k≤5∧(d≤0→k≤2)) (fun k=>[(5,In .i64 k)]) (fun _=>[Mk bm bd V lv A Sh hs lab st il,Dk bd L,.blk bl 69 [.val (.int .i64 0),.val (.int .i64 0),.val (.string ⟨#[]⟩),.val (.int .i64 0),.val (.slice none 0 0)]]) ?_ ?_
 ·refine jc_condd O (fun hd=>?_) (fun hd=>?_)
  ·refine an_ (M_ O (o_ O (ow_rem64 O O g_ g_ (E_ O (ak_ (jq_cut (k0 % 3) [2,0,0] ⟨ht.1,by omega,fun _=>ht.2⟩ O ?_))))))
   exact Ww
  ·refine as_ (jq_cut k0 [2,0,0] ⟨hk0.1,by omega,fun h=>absurd h hd⟩ O ?_)
   exact Ww
 ·intro k ⟨hka,hkb,hkd⟩
  refine am_ (R_ (M_ O (T_ (au_ (Zu ?_)))))
  refine jc_condd O (fun h0=>?_) (fun h0=>?_)
  ·refine R_ (YF ?_)
   refine o_ O (bt_ [1] O O (Nx_c _ hL hLn g_) (fun n1 hn1=>E_ O (T_ (am_ (R_ (Wm ?_))))))
   refine bt_ [0] O O (Nx_c _ hL hLn g_) (fun n2 hn2=>o_ O (bn_ O O ?_))
   refine T_ (jc_cut (ι:=Int) [0,1,4] (fun k=>-2147483647≤k∧k≤2147483647) (fun k=>[(6,In .i64 k)]) (fun _=>[Mk bm bd V lv A Sh hs lab st il,Dk bd L,.blk bl 69 [.val (.int .i64 0),.val (.int .i64 0),.val (.string ⟨#[]⟩),.val (.int .i64 0),.val (.slice none 0 0)]]) ?_ ?_)
   ·refine jc_condd O (fun _=>?_) (fun _=>?_)
    ·refine an_ (Wm ?_)
     refine bt_ [0] O O (gWord_c hL hLn) (fun n3 hn3=>o_ O (ck_ O O (E_ O (ak_ (jq_cut (max (-2147483647) n3) [1,0,0] g_ O ?_)))))
     exact Ww
    ·refine as_ (jq_cut n1 [1,0,0] g_ O ?_)
     exact Ww
   ·intro n3 hn3
    refine R_ (M_ O (o_ O (bm_ O (gNum_c _) (S_ 2 O (T_ (ar_ (az_ (aw_ (jq_retRow O O O O 0 O [1,1] O (fun K h=>h _ (.nu _ _ hn3)))))))))))
  ·refine Zu ?_
   refine jc_condd O (fun h3=>?_) (fun h3=>?_)
   ·refine R_ (M_ O ?_)
    have hU:=usable_len A Sh hs
    refine o_ O (bi_ [0] O O (gusable_c hA hSh) (YX ?_))
    refine br_ O (fun hlen=>o_ O (bz_ O O (T_ (jc_condd O (fun hp=>?_) (fun hp=>?_)))))
    ·simp only [List.length_map] at hp
     refine R_ (M_ O (M_ O (o_ O (bt_ [0,0] O O (gname_c hL hLn (usableF A Sh hs) g_ g_) (fun s hs1=>M_ O (M_ O (o_ O (cg_ O O g_ (o_ O (bt_ [0,0] O O (ih g_) (fun e1 he1=>YK ?_)))))))))))
     refine bu_ O O O O O (S_ 2 O (T_ (ar_ (az_ (aw_ (jq_row 0 (T.ix s e1).row' O ?_ ?_))))))
     ·(repeat (first | exact RowLe.nil | refine RowLe.cons (CLe.refl _) ?_ | refine RowLe.cons CLe.nil ?_))
      exact RowLe.cons (CLe.eq (by simp [T.row_eq,T.args])) .nil
     ·refine jq_retRow O O O O 0 O [1,1] O (fun K h=>h _ (by rw [ExG.pos (x:=d) g_]; exact .ix _ _ _ hs1 he1))
    ·refine as_ (ay_ (al_ (R_ (M_ O (YF ?_)))))
     refine o_ O (bt_ [0,0] O O (gname_c hL hLn V hV0 g_) (fun s hs1=>o_ O (bm_ O (gName_c _) (S_ 2 O (T_ (ar_ (jq_retRow O O O O 0 O [1,1] O (fun K h=>h _ (.nm _ _ hs1)))))))))
   ·refine am_ (Zu ?_)
    refine jc_condd O (fun h4=>?_) (fun h4=>?_)
    ·refine as_ (al_ (jc_condd O (fun _=>R_ (M_ O (N_ O (F_ O (L_ 0 O (o_ O (bt_ [1] O O (gOp_c hL hLn) (fun o ho=>M_ O (M_ O (o_ O (cg_ O O g_ (o_ O (bt_ [1,0] O O (ih g_) (fun e1 he1=>M_ O (M_ O (o_ O (cg_ O O g_ ?_))))))))))))))))) (fun h=>absurd h4 h)))
     refine o_ O (bt_ [0,0] O O (ih g_) (fun e2 he2=>o_ O (bm_ O (gBin_c _ _ _) (S_ 2 O (T_ (ar_ (az_ (aw_ (jq_retRow O O O O 0 O [1,1] O (fun K h=>h _ (by rw [ExG.pos (x:=d) g_]; exact .bn _ _ _ _ ho he1 he2)))))))))))
    ·refine an_ (o_ O (bn_ O O (E_ O (T_ (jc_condd O (fun h5=>?_) (fun h5=>?_))))))
     ·refine R_ (YF ?_)
      refine o_ O (bt_ [1] O O (gOp_c hL hLn) (fun o ho=>M_ O (M_ O (o_ O (cg_ O O g_ (o_ O (bt_ [1,0] O O (ih g_) (fun e1 he1=>M_ O (M_ O (o_ O (cg_ O O g_ (o_ O (bt_ [0,0] O O (ih g_) (fun e2 he2=>o_ O (bm_ O (gBin_c _ _ _) (S_ 2 O ?_))))))))))))))))
      refine T_ (ar_ (az_ (aw_ (jq_retRow O O O O 0 O [1,1] O (fun K h=>h _ (by rw [ExG.pos (x:=d) g_]; exact .bn _ _ _ _ ho he1 he2))))))
     ·refine as_ (ay_ (al_ (R_ (M_ O (YF ?_)))))
      refine o_ O (bt_ [0,0] O O (gname_c hL hLn V hV0 g_) (fun s hs1=>o_ O (bm_ O (gName_c _) (S_ 2 O (T_ (ar_ (jq_retRow O O O O 0 O [1,1] O (fun K h=>h _ (.nm _ _ hs1)))))))))
theorem gexpr_c (hL:InR L) (hLn:L.length≤400) (hV0:0 < V.length) (hV:V.length≤100) (hA:A.length≤100) (hSh:Sh.length≤100):∀ (n:Nat) (d:Int),d≤n→-100≤d→n≤100 →
 Con Tryz.prog 222 [Ptr bm,In .i64 d] [Mk bm bd V lv A Sh hs lab st il,Dk bd L] (fun K=>∀ e:T,ExG V (usableF A Sh hs) d.toNat e→K (.row e.row') [Mk bm bd V lv A Sh hs lab st il,Dk bd L])
 | 0,d,h1,h2,_=>gexpr_step hL hLn hV0 hV hA hSh d h2 (by omega) (fun h=>by omega)
 | n+1,d,h1,h2,h3=>gexpr_step hL hLn hV0 hV hA hSh d h2 (by omega) (fun h=>gexpr_c hL hLn hV0 hV hA hSh n (d - 1) (by omega) (by omega) (by omega))
end
end Go.Proofs.YtalkkcfojplmdaaGreatDoor
end
section
namespace Go.Proofs.YtalkkcfojplmdaaGreatDoor
open Go.Vc
set_option maxHeartbeats 4000000
attribute [local irreducible] JL JC JQ OpWp Con ConN
section
variable {L:List Int} {bm bd:Nat} {V A LS:List ByteArray} {lv:Value} {Sh:List Shd} {hs:ByteArray} {lab st il:Int}
theorem gcondition_c (hL:InR L) (hLn:L.length≤400) (hV0:0 < V.length) (hV:V.length≤100) (hA:A.length≤100) (hSh:Sh.length≤100) :
 Con Tryz.prog 223 [Ptr bm] [Mk bm bd V lv A Sh hs lab st il,Dk bd L] (fun K=>∀ e:T,ExG V (usableF A Sh hs) 2 e→K (.row e.row') [Mk bm bd V lv A Sh hs lab st il,Dk bd L]):=by
 refine con_intro Tryz.func223 O O b_ (fun c hc=>R_ (o_ O (bl_ O O (fun bl=>T_ (am_ (R_ (Wm ?_)))))))
 refine bt_ [2] O O (Nx_c _ hL hLn g_) (fun k0 hk0=>o_ O (bn_ O O (T_ (jc_condd O (fun h3=>?_) (fun h3=>?_)))))
 ·refine R_ (M_ O (o_ O (bt_ [2,0] O O (gexpr_c hL hLn hV0 hV hA hSh 2 2 g_ g_ g_) (fun e1 he1=>S_ 2 O (T_ (ar_ (aw_ (jq_retRow O O O O 0 O [1,1] O (fun K h=>h _ he1)))))))))
 ·refine as_ (al_ (am_ (jc_anyB 20 none O k_ k_ (yM_ O (yN_ O (yF_ O (yL_ 2 O (aa_ (fun c=>ow_callA [0] O O (gNext_c L _ _ hL hLn g_)) (aa_ (fun c=>ow_exarg 15 O (fun i=>bj_ O O (by have:=i.2; omega) ⟨rfl,.refl _⟩)) (yM_ O (yM_ O (yN_ O (yF_ O (yL_ 2 O (aa_ (fun c=>ow_callA [2,0] O O (con_toEx (gname_c hL hLn V hV0 g_))) ?_)))))))))))))))
  refine aa_ (fun c=>ow_exarg 22 O (fun i=>bm_ O (gName_c _) ⟨rfl,.refl _⟩)) (yM_ O (yN_ O (yF_ O (yL_ 2 O (aa_ (fun c=>ow_callA [0] O O (gNext_c L _ _ hL hLn g_)) (aa_ (fun c=>ow_exarg 28 O (fun i=>bm_ O (gNum_c _) ⟨rfl,.refl _⟩)) (aa_ (fun c=>ow_exarg 16 O (fun i=>ow_exarg 23 O (fun j=>ow_exarg 29 O (fun k=>bm_ O (gBin_c _ _ _) ⟨rfl,.refl _⟩)))) (ae_ (afin_none ?_)))))))))
  refine jl_slot 30 O (fun i=>jl_slot 30 O (fun j=>jl_slot 30 O (fun k=>S_ 1 O (T_ (ar_ (jq_retRow O O O O 0 O [2,1] O (fun K h=>h _ (.bn _ _ _ _ (by have:=i.2; omega) (.nm _ _ j.2) (.nu _ _ (by have:=k.2; omega))))))))))
end
mutual
def Sm.sz:Sm→Nat
 | .mk _ _ _ _ _ _ t e=>1+Sm.szs t+Sm.szs e
def Sm.szs:List Sm→Nat
 | []=>0
 | s :: l=>s.sz+Sm.szs l
end
theorem Sm.szs_app:∀ l m:List Sm,Sm.szs (l ++ m)=Sm.szs l+Sm.szs m
 | [],m=>by simp [Sm.szs]
 | s :: l,m=>by simp only [List.cons_append,Sm.szs,Sm.szs_app l m]; omega
theorem Sm.sz_eq (s:Sm):s.sz=1+Sm.szs s.thn+Sm.szs s.els:=by cases s; simp [Sm.sz,Sm.thn,Sm.els]
theorem Sm.szs_take (l:List Sm) (n:Nat):Sm.szs (l.take n)≤Sm.szs l:=by
 have:=Sm.szs_app (l.take n) (l.drop n)
 rw [List.take_append_drop] at this
 omega
def czT:T→Int
 | .nu n=>if 0≤n∧n≤9 then 1 else 13
 | .nm _=>3
 | .ix _ t=>5+czT t
 | .bn _ a b=>6+czT a+czT b
theorem czT_nn:∀ t:T,0≤czT t
 | .nu n=>by unfold czT; split <;> omega
 | .nm _=>by unfold czT; omega
 | .ix _ t=>by have:=czT_nn t; unfold czT; omega
 | .bn _ a b=>by have:=czT_nn a; have:=czT_nn b; unfold czT; omega
def czTs:List T→Int
 | []=>0
 | t :: l=>czT t+czTs l
mutual
def Sm.cz:Sm→Int
 | .mk k _ i v _ _ t e=>(if k=1 then 15 else if k=2 then 17 else if k=3 then 50 else if k=4 then 42 else 29)+czTs i+czTs v+Sm.czs t+Sm.czs e
def Sm.czs:List Sm→Int
 | []=>0
 | s :: l=>s.cz+Sm.czs l
end
theorem Sm.czs_app:∀ l m:List Sm,Sm.czs (l ++ m)=Sm.czs l+Sm.czs m
 | [],m=>by simp [Sm.czs]
 | s :: l,m=>by simp only [List.cons_append,Sm.czs,Sm.czs_app l m]; omega
theorem czTs_nn:∀ l:List T,0≤czTs l
 | []=>by simp [czTs]
 | t :: l=>by have:=czT_nn t; have:=czTs_nn l; unfold czTs; omega
mutual
theorem Sm.cz_nn:∀ s:Sm,0≤s.cz
 | .mk k _ i v _ _ t e=>by
  have h1:=Sm.czs_nn t
  have h2:=Sm.czs_nn e
  have h3:=czTs_nn i
  have h4:=czTs_nn v
  have h5:0≤(if k=1 then 15 else if k=2 then 17 else if k=3 then 50 else if k=4 then 42 else 29:Int):=by (repeat' split) <;> omega
  simp only [Sm.cz]
  omega
theorem Sm.czs_nn:∀ l:List Sm,0≤Sm.czs l
 | []=>by simp [Sm.czs]
 | s :: l=>by have h1:=Sm.cz_nn s; have h2:=Sm.czs_nn l; simp only [Sm.czs]; omega
end
theorem Sm.czs_take (l:List Sm) (n:Nat):Sm.czs (l.take n)≤Sm.czs l:=by
 have:=Sm.czs_app (l.take n) (l.drop n)
 rw [List.take_append_drop] at this
 have:=Sm.czs_nn (l.drop n)
 omega
theorem ExG.cz {V U:List ByteArray}:∀ {d:Nat} {t:T},ExG V U d t→czT t≤19 * 2 ^ d - 6:=by
 intro d t h
 have hp:∀ d:Nat,1≤(2:Int) ^ d:=fun d=>Int.pow_pos (by decide)
 induction h with
 | nu d n h=>have:=hp d; unfold czT; split <;> omega
 | nm d s h=>have:=hp d; unfold czT; omega
 | ix d s t _ _ ih=>have:=hp d; unfold czT; rw [Int.pow_succ]; omega
 | bn d o a b _ _ _ ia ib=>have:=hp d; unfold czT; rw [Int.pow_succ]; omega
theorem ExG.cz1 {V U:List ByteArray} {t:T} (h:ExG V U 1 t):czT t≤32:=h.cz
theorem ExG.cz2 {V U:List ByteArray} {t:T} (h:ExG V U 2 t):czT t≤70:=h.cz
inductive PcG (St:Int→Int→List Sm→Prop):Nat→Int→Int→List Sm→Prop
 | nil (lab:Int):PcG St 0 lab lab []
 | snoc (n:Nat) (lab lab1 lab2:Int) (l l2:List Sm) (h1:PcG St n lab lab1 l) (h2:St lab1 lab2 l2):PcG St (n+1) lab lab2 (l ++ l2)
def BlG (St:Int→Int→List Sm→Prop) (most:Int) (lab lab':Int) (l:List Sm):Prop:=∃ n:Nat,(n:Int)≤most∧PcG St n lab lab' l
abbrev E0:ByteArray:=⟨#[]⟩
def LeafG (V U:List ByteArray) (lab lab':Int) (l:List Sm):Prop :=
 lab'=lab∧((∃ s e,s ∈ V∧ExG V U 2 e∧l=[.mk 1 s [] [e] 0 0 [] []]) ∨ ∃ s e1 e2,s ∈ U∧ExG V U 1 e1∧ExG V U 2 e2∧l=[.mk 2 s [e1] [e2] 0 0 [] []])
def IfG (V U:List ByteArray) (St:Int→Int→List Sm→Prop) (lab lab':Int) (l:List Sm):Prop :=
 lab < 12∧∃ c l1 l2 lab1,ExG V U 2 c∧BlG St 2 (lab+1) lab1 l1∧(l2=[]∧lab'=lab1 ∨ BlG St 2 lab1 lab' l2)∧l=[.mk 3 E0 [] [c] 0 (lab+1) l1 l2]
def WhG (V U:List ByteArray) (St:Int→Int→List Sm→Prop) (lab lab':Int) (l:List Sm):Prop :=
 ∃ c mx l1,ExG V U 2 c∧(0≤mx∧mx≤5)∧BlG St 2 (lab+1) lab' l1∧l=[.mk 4 E0 [] [c] mx (lab+1) l1 []]
def CtG (V:List ByteArray) (St:Int→Int→List Sm→Prop) (lab lab':Int) (l:List Sm):Prop :=
 ∃ v n op top mx l1 st,v ∈ V∧(0≤n∧n≤2)∧(0≤op∧op≤1)∧((∃ t,(0≤t∧t≤5)∧top=.nu t) ∨ ∃ s ∈ V,top=.nm s)∧(0≤mx∧mx≤5)∧(1≤st∧st≤3)∧BlG St 2 (lab+1) lab' l1 ∧
  l=[.mk 1 v [] [.nu n] 0 0 [] [],.mk 4 E0 [] [.bn (11+op) (.nm v) top] mx (lab+1) (l1 ++ [.mk 1 v [] [.bn 1 (.nm v) (.nu st)] 0 0 [] []]) []]
def LpG (V U:List ByteArray) (il:Int) (St:Int→Int→List Sm→Prop) (lab lab':Int) (l:List Sm):Prop:=il < 2∧lab < 12∧(WhG V U St lab lab' l ∨ CtG V St lab lab' l)
def LkG (Sh:List Shd) (hs:ByteArray) (St:ByteArray→Int→Int→List Sm→Prop) (lab lab':Int) (l:List Sm):Prop:=hs=E0∧∃ sh ∈ Sh,∃ l1,BlG (St sh.2.2) 2 lab lab' l1∧l=[.mk 5 sh.2.2 [] [] 0 0 l1 []]
def StG (V A:List ByteArray) (Sh:List Shd):Nat→Int→ByteArray→Int→Int→List Sm→Prop
 | 0,_,hs=>LeafG V (usableF A Sh hs)
 | d+1,il,hs=>fun lab lab' l=>LeafG V (usableF A Sh hs) lab lab' l ∨ IfG V (usableF A Sh hs) (StG V A Sh d il hs) lab lab' l ∨ LpG V (usableF A Sh hs) il (StG V A Sh d (il+1) hs) lab lab' l ∨ LkG Sh hs (StG V A Sh d il) lab lab' l
theorem StG.leaf {V A:List ByteArray} {Sh:List Shd} {d:Nat} {il:Int} {hs:ByteArray} {lab lab':Int} {l:List Sm} (h:LeafG V (usableF A Sh hs) lab lab' l):StG V A Sh d il hs lab lab' l:=by
 cases d with
 | zero=>exact h
 | succ d=>exact .inl h
theorem cz_1 (n i v m lb t e):Sm.cz (.mk 1 n i v m lb t e)=15+czTs i+czTs v+Sm.czs t+Sm.czs e:=by simp [Sm.cz]
theorem cz_2 (n i v m lb t e):Sm.cz (.mk 2 n i v m lb t e)=17+czTs i+czTs v+Sm.czs t+Sm.czs e:=by simp [Sm.cz]
theorem cz_3 (n i v m lb t e):Sm.cz (.mk 3 n i v m lb t e)=50+czTs i+czTs v+Sm.czs t+Sm.czs e:=by simp [Sm.cz]
theorem cz_4 (n i v m lb t e):Sm.cz (.mk 4 n i v m lb t e)=42+czTs i+czTs v+Sm.czs t+Sm.czs e:=by simp [Sm.cz]
theorem cz_5 (n i v m lb t e):Sm.cz (.mk 5 n i v m lb t e)=29+czTs i+czTs v+Sm.czs t+Sm.czs e:=by simp [Sm.cz]
def Mz (l:List Sm) (n:Int):Prop:=Sm.czs l≤120 * n∧(Sm.szs l:Int)≤3 * n
theorem leaf_cz {V U:List ByteArray} {a b:Int} {l:List Sm} (h:LeafG V U a b l):Mz l 1:=by
 obtain ⟨_,⟨s,e,_,he,rfl⟩ | ⟨s,e1,e2,_,he1,he2,rfl⟩⟩:=h
 ·have:=he.cz2
  refine ⟨?_,by simp [Sm.szs,Sm.sz]⟩
  simp only [Sm.czs,cz_1,czTs]
  omega
 ·have:=he1.cz1
  have:=he2.cz2
  refine ⟨?_,by simp [Sm.szs,Sm.sz]⟩
  simp only [Sm.czs,cz_2,czTs]
  omega
theorem Mz.app {l m:List Sm} {a b c:Int} (h:Mz l a) (k:Mz m b) (e:a+b=c):Mz (l ++ m) c:=by
 obtain ⟨h1,h2⟩:=h
 obtain ⟨k1,k2⟩:=k
 refine ⟨?_,?_⟩
 ·rw [Sm.czs_app]; omega
 ·rw [Sm.szs_app]; omega
theorem Mz.eq {l:List Sm} {a b:Int} (h:Mz l a) (e:a=b):Mz l b:=e ▸ h
theorem Mz.take {l:List Sm} {a:Int} (h:Mz l a) (n:Nat):Mz (l.take n) a:=by
 have h1:=Sm.czs_take l n
 have h2:=Sm.szs_take l n
 exact ⟨Int.le_trans h1 h.1,by have:=h.2; omega⟩
theorem Mz.le {l:List Sm} {a b:Int} (h:Mz l a) (e:a≤b):Mz l b:=⟨by have:=h.1; omega,by have:=h.2; omega⟩
theorem while_cz {V U:List ByteArray} {e:T} {mx lb a b:Int} {l:List Sm} (he:ExG V U 2 e) (h:Mz l (a - b)):Mz [.mk 4 ⟨#[]⟩ [] [e] mx lb l []] (a+1 - b):=by
 obtain ⟨h1,h2⟩:=h
 have:=he.cz2
 refine ⟨?_,by simp only [Sm.szs,Sm.sz]; omega⟩
 simp only [Sm.czs,cz_4,czTs]
 omega
theorem count_cz {V:List ByteArray} {v:ByteArray} {n op sp mx lb a b:Int} {top:T} {l:List Sm} (hn:0≤n∧n≤9) (hs:0≤1+sp∧1+sp≤9) (ht:(∃ t,(0≤t∧t≤5)∧top=.nu t) ∨ ∃ s ∈ V,top=.nm s) (h:Mz l (a - b)) :
 Mz [.mk 1 v [] [.nu n] 0 0 [] [],.mk 4 ⟨#[]⟩ [] [.bn (11+op) (.nm v) top] mx lb (l ++ [.mk 1 v [] [.bn 1 (.nm v) (.nu (1+sp))] 0 0 [] []]) []] (a+1 - b):=by
 obtain ⟨h1,h2⟩:=h
 have e1:czT (.nu n)=1:=if_pos hn
 have e2:czT (.nu (1+sp))=1:=if_pos hs
 have e3:czT top≤3:=by
  rcases ht with ⟨t,ht,rfl⟩ | ⟨s,_,rfl⟩
  ·rw [czT,if_pos (by omega)]; omega
  ·exact Int.le_refl _
 have e5:czT (.bn (11+op) (.nm v) top)=6+3+czT top:=rfl
 have e6:czT (.bn 1 (.nm v) (.nu (1+sp)))=6+3+czT (.nu (1+sp)):=rfl
 refine ⟨?_,by simp only [Sm.szs,Sm.sz,Sm.szs_app]; omega⟩
 simp only [Sm.czs,cz_1,cz_4,czTs,Sm.czs_app]
 omega
theorem if_cz {V U:List ByteArray} {e:T} {lb a b c:Int} {l m:List Sm} (he:ExG V U 2 e) (h1:Mz l (a - b)) (h2:Mz m (b - c)):Mz [.mk 3 ⟨#[]⟩ [] [e] 0 lb l m] (a+1 - c):=by
 obtain ⟨h3,h4⟩:=h1
 obtain ⟨h5,h6⟩:=h2
 have:=he.cz2
 refine ⟨?_,by simp only [Sm.szs,Sm.sz]; omega⟩
 simp only [Sm.czs,cz_3,czTs]
 omega
theorem lock_cz {s:ByteArray} {a b:Int} {l:List Sm} (h:Mz l (a - b)):Mz [.mk 5 s [] [] 0 0 l []] (a+1 - b):=by
 obtain ⟨h1,h2⟩:=h
 refine ⟨?_,by simp only [Sm.szs,Sm.sz]; omega⟩
 simp only [Sm.czs,cz_5,czTs]
 omega
theorem nil_cz {a:Int}:Mz [] (a - a):=⟨by simp only [Sm.czs]; omega,by simp only [Sm.szs]; omega⟩
attribute [local irreducible] Mz
structure Ms where
 lv:Value
 lab:Int
 st:Int
abbrev Ms.ok (m:Ms):Prop:=(0≤m.lab∧m.lab≤12)∧0≤m.st∧m.st≤14
structure Gv (L:List Int) (V A:List ByteArray) (Sh:List Shd):Prop where
 hL:InR L
 hLn:L.length≤400
 hV0:0 < V.length
 hV:V.length≤100
 hA:A.length≤100
 hSh:Sh.length≤100
def StmtP (L:List Int) (bm bd:Nat) (V A:List ByteArray) (Sh:List Shd) (d:Nat):Prop :=
 ∀ (m:Ms) (hs:ByteArray) (il:Int) (LS:List ByteArray) (x:Int),m.ok→0≤il→il≤2→LS.length≤il→x=d →
  Con Tryz.prog 181 [Ptr bm,In .i64 x] [Mk bm bd V m.lv A Sh hs m.lab m.st il,Dk bd L,.own m.lv 9 1 (LS.map Wrow)]
   (fun K=>∀ r:Ms × List Sm,(r.1.ok∧r.2.length≤2∧StG V A Sh d il hs m.lab r.1.lab r.2∧Mz r.2 (m.st+1 - r.1.st))→K (.cell (.list (r.2.map Sm.row))) [Mk bm bd V r.1.lv A Sh hs r.1.lab r.1.st il,Dk bd L,.own r.1.lv 9 1 (LS.map Wrow)])
def BlockP (L:List Int) (bm bd:Nat) (V A:List ByteArray) (Sh:List Shd) (d:Nat):Prop :=
 ∀ (m:Ms) (hs:ByteArray) (il:Int) (LS:List ByteArray) (x most:Int),m.ok→0≤il→il≤2→LS.length≤il→x=d→1≤most→most≤5 →
  ConN Tryz.prog 130 [Ptr bm,In .i64 x,In .i64 most] [Mk bm bd V m.lv A Sh hs m.lab m.st il,Dk bd L,.own m.lv 9 1 (LS.map Wrow)]
   (fun n K=>∀ r:Ms × Value × List Sm,(r.1.ok∧FreshN n r.2.1∧(r.2.2.length:Int)≤2 * most∧BlG (StG V A Sh d il hs) most m.lab r.1.lab r.2.2∧Mz r.2.2 (m.st - r.1.st)) →
    K (.cell (.val r.2.1)) [.own r.2.1 66 8 (r.2.2.map Sm.row),Mk bm bd V r.1.lv A Sh hs r.1.lab r.1.st il,Dk bd L,.own r.1.lv 9 1 (LS.map Wrow)])
section
variable {L:List Int} {bm bd:Nat} {V A:List ByteArray} {Sh:List Shd}
theorem block_step (gv:Gv L V A Sh) (d:Nat) (hstm:StmtP L bm bd V A Sh d):BlockP L bm bd V A Sh d:=by
 intro m hs0 il LS x most hm hil hil2 hLS hx hmo hmo5
 obtain ⟨lv0,lab0,st0⟩:=m
 refine con_introN Tryz.func130 O O b_ (fun c hc=>R_ (E_ O (T_ (R_ (E_ O (T_ (am_ (R_ (YF ?_)))))))))
 refine M_ O (o_ O (bt_ [1] O O (Nx_c _ gv.hL gv.hLn g_) (fun k0 hk0=>o_ O (bj_ O O g_ ?_))))
 refine E_ O (T_ (au_ (jc_ownNil 66 8 g_ ?_)))
 obtain ⟨n0,hn0⟩:∃ n:Nat,1+k0=(n:Int):=⟨(1+k0).toNat,by omega⟩
 rw [hn0]
 refine jc_loop (ι:=Nat × Ms × Value × List Sm) [0,1,2] (fun i=>((i.1:Int)≤most∧i.2.1.ok)∧c.Fresh i.2.2.1∧((i.2.2.2.length:Int)+2 * (i.1:Int)≤2 * most∧Mz i.2.2.2 (st0 - i.2.1.st)∧∃ n:Nat,(n:Int)+(i.1:Int)≤most∧PcG (StG V A Sh d il hs0) n lab0 i.2.1.lab i.2.2.2)) (fun i=>[(7,.cell (.val i.2.2.1)),(8,In .i64 (i.1:Int))])
  (fun i=>[.own i.2.2.1 66 8 (i.2.2.2.map Sm.row),Mk bm bd V i.2.1.lv A Sh hs0 i.2.1.lab i.2.1.st il,Dk bd L,.own i.2.1.lv 9 1 (LS.map Wrow)]) (fun i=>i.1) (n0,⟨lv0,lab0,st0⟩,.slice none 0 0,[]) [0,1,0,0] ⟨⟨by dsimp only; omega,hm⟩,fresh_nil,by dsimp only; simp only [List.length_nil]; omega,nil_cz,0,by dsimp only; omega,.nil _⟩ rfl ?_ ?_
 ·exact Ww
 ·rintro ⟨k,m,v,l⟩ ⟨⟨hk,hok⟩,hf,hl,hcz,np,hnp,hsh⟩
  obtain ⟨lv,lab,st⟩:=m
  obtain ⟨⟨hlab0,hlab1⟩,hst0,hst1⟩:=hok
  dsimp only at hk hlab0 hlab1 hst0 hst1 hf hl hcz hnp hsh ⊢
  have fin:∀ K:S→List Ch→Prop,(∀ r:Ms × Value × List Sm,(r.1.ok∧FreshN c.B.heap.size r.2.1∧(r.2.2.length:Int)≤2 * most∧BlG (StG V A Sh d il hs0) most lab0 r.1.lab r.2.2∧Mz r.2.2 (st0 - r.1.st)) →
   K (.cell (.val r.2.1)) [.own r.2.1 66 8 (r.2.2.map Sm.row),Mk bm bd V r.1.lv A Sh hs0 r.1.lab r.1.st il,Dk bd L,.own r.1.lv 9 1 (LS.map Wrow)]) →
   K (.cell (.val v)) [.own v 66 8 (l.map Sm.row),Mk bm bd V lv A Sh hs0 lab st il,Dk bd L,.own lv 9 1 (LS.map Wrow)] :=
   fun K h=>h (⟨lv,lab,st⟩,v,l) ⟨⟨⟨hlab0,hlab1⟩,hst0,hst1⟩,hf,by dsimp only; omega,⟨np,by omega,hsh⟩,hcz⟩
  by_cases hk0:(0:Int) < (k:Int)
  ·refine Wp ?_
   refine M_ O (Yq ?_)
   refine bh_ O (ah_ O u_ b_ (bf_ O O O b_ (ah_ O u_ b_ (bg_ 1 O O O O (ah_ O u_ b_ (bz_ O O (o_ O (bp_ O u_ O (T_ (jc_condd O (fun hst=>?_) (fun hst=>?_)))))))))))
   ·refine as_ (al_ (B_ (R_ (Wm ?_))))
    refine cg_ O O g_ (N_ O (F_ O (W_ 1 O (T_ (an_ (M_ O (M_ O ?_)))))))
    refine M_ O (o_ O (bt_ [0,1,1] O O (hstm ⟨lv,lab,st - 1⟩ hs0 il LS x ⟨⟨hlab0,hlab1⟩,by dsimp only; omega⟩ hil hil2 hLS hx) (fun r hr=>?_)))
    obtain ⟨⟨lv2,lab2,st2⟩,l2⟩:=r
    obtain ⟨hok2,hl2,hsh2,hcz2⟩:=hr
    dsimp only at hok2 hl2 hsh2 hcz2 ⊢
    skip
    refine o_ O (ow_appendMF 3 O O O O O O O (fun a=>by rw [Sm.row_eq]; rfl) (by show (_+_) * 136≤_; first | omega | (simp only [List.length_append]; omega)) (by first | omega | (simp only [List.length_append]; omega)) (fun v2 hv2 fv2=>E_ O (ak_ (ay_ (al_ (an_ (M_ O (o_ O (cg_ O O g_ (E_ O (ak_ ?_)))))))))))
    refine jq_again (i:=(k,⟨lv,lab,st⟩,v,l)) (k - 1,⟨lv2,lab2,st2⟩,v2,l ++ l2) [0,0,0,0] ⟨⟨by dsimp only; omega,hok2⟩,fv2 hf,by dsimp only; simp only [List.length_append]; omega,hcz.app hcz2 (by dsimp only; omega),np+1,by dsimp only; omega,.snoc _ _ _ _ _ _ hsh hsh2⟩ (by dsimp only; omega) O ?_
    rw [show (((k - 1:Nat):Int))=(k:Int) - 1 by omega]
    exact Ww
   ·refine Yp ?_
    exact ar_ (jq_ret1 O O [0,0,0,0] O fin)
  ·refine Wp ?_
   refine M_ O (Zg ?_)
   refine YA ?_
   refine T_ (jc_cond rfl (fun h=>by cases h) (fun _=>av_ (ax_ (ax_ ?_))))
   exact ba_ (al_ (R_ (M_ O (E_ O (T_ (ar_ (jq_ret1 O O [0,0,0,0] O fin)))))))
end
end Go.Proofs.YtalkkcfojplmdaaGreatDoor
end
section
namespace Go.Proofs.YtalkkcfojplmdaaGreatDoor
open Go.Vc
def hasB (l:List ByteArray) (s:ByteArray):Bool:=l.any fun x=>decide (x=s)
def hasI (l:List Int) (n:Int):Bool:=l.any fun x=>decide (x=n)
def dupB:List ByteArray→Bool
 | []=>false
 | x :: l=>hasB l x || dupB l
def dupI:List Int→Bool
 | []=>false
 | x :: l=>hasI l x || dupI l
theorem hasB_app (l m:List ByteArray) (s:ByteArray):hasB (l ++ m) s=(hasB l s || hasB m s):=by simp [hasB]
theorem hasI_app (l m:List Int) (s:Int):hasI (l ++ m) s=(hasI l s || hasI m s):=by simp [hasI]
theorem hasB_one (x s:ByteArray):hasB [x] s=decide (x=s):=by simp [hasB]
theorem hasI_one (x s:Int):hasI [x] s=decide (x=s):=by simp [hasI]
theorem hasB_iff {l:List ByteArray} {s:ByteArray}:hasB l s=true ↔ s ∈ l:=by
 unfold hasB
 rw [List.any_eq_true]
 exact ⟨fun ⟨x,h1,h2⟩=>by rw [← of_decide_eq_true h2]; exact h1,fun h=>⟨s,h,decide_eq_true rfl⟩⟩
theorem hasI_iff {l:List Int} {s:Int}:hasI l s=true ↔ s ∈ l:=by
 unfold hasI
 rw [List.any_eq_true]
 exact ⟨fun ⟨x,h1,h2⟩=>by rw [← of_decide_eq_true h2]; exact h1,fun h=>⟨s,h,decide_eq_true rfl⟩⟩
theorem dupB_snoc:∀ (l:List ByteArray) (x:ByteArray),dupB (l ++ [x])=(dupB l || hasB l x)
 | [],x=>rfl
 | y :: l,x=>by
  rw [List.cons_append,dupB,dupB,hasB_app,hasB_one,dupB_snoc l x]
  have e:hasB (y :: l) x=(decide (y=x) || hasB l x):=by simp [hasB]
  have e2:decide (x=y)=decide (y=x):=by rw [decide_eq_decide]; exact eq_comm
  rw [e,e2]
  cases hasB l y <;> cases decide (y=x) <;> cases dupB l <;> cases hasB l x <;> rfl
theorem dupI_snoc:∀ (l:List Int) (x:Int),dupI (l ++ [x])=(dupI l || hasI l x)
 | [],x=>rfl
 | y :: l,x=>by
  rw [List.cons_append,dupI,dupI,hasI_app,hasI_one,dupI_snoc l x]
  have e:hasI (y :: l) x=(decide (y=x) || hasI l x):=by simp [hasI]
  have e2:decide (x=y)=decide (y=x):=by rw [decide_eq_decide]; exact eq_comm
  rw [e,e2]
  cases hasI l y <;> cases decide (y=x) <;> cases dupI l <;> cases hasI l x <;> rfl
theorem dupB_nodup:∀ {l:List ByteArray},dupB l=false ↔ l.Nodup
 | []=>by simp [dupB]
 | x :: l=>by
  rw [dupB,Bool.or_eq_false_iff,dupB_nodup,List.nodup_cons,← Bool.not_eq_true,hasB_iff]
theorem dupI_nodup:∀ {l:List Int},dupI l=false ↔ l.Nodup
 | []=>by simp [dupI]
 | x :: l=>by
  rw [dupI,Bool.or_eq_false_iff,dupI_nodup,List.nodup_cons,← Bool.not_eq_true,hasI_iff]
theorem dupB_take {l:List ByteArray} {k:Nat} (h:dupB l=false):dupB (l.take k)=false:=dupB_nodup.2 ((dupB_nodup.1 h).sublist (List.take_sublist _ _))
theorem dupI_take {l:List Int} {k:Nat} (h:dupI l=false):dupI (l.take k)=false:=dupI_nodup.2 ((dupI_nodup.1 h).sublist (List.take_sublist _ _))
theorem dupB_yes {l:List ByteArray} {k:Nat} (h:k < l.length) (hh:hasB (l.take k) l[k]=true):dupB l=true:=by
 rw [← Bool.not_eq_false]
 intro hd
 have:=dupB_take (k:=k+1) hd
 rw [List.take_succ_eq_append_getElem h,dupB_snoc,hh] at this
 simp at this
theorem dupI_yes {l:List Int} {k:Nat} (h:k < l.length) (hh:hasI (l.take k) l[k]=true):dupI l=true:=by
 rw [← Bool.not_eq_false]
 intro hd
 have:=dupI_take (k:=k+1) hd
 rw [List.take_succ_eq_append_getElem h,dupI_snoc,hh] at this
 simp at this
def useB (vs ar:List ByteArray):T→Bool
 | .nu _=>true
 | .nm s=>hasB vs s
 | .ix s t=>hasB ar s && useB vs ar t
 | .bn _ a b=>useB vs ar a && useB vs ar b
def useOne (vs ar:List ByteArray) (t:T):Bool:=(!decide (t.kind=2) || hasB vs t.name) && (!decide (t.kind=3) || hasB ar t.name)
theorem useB_eq (vs ar:List ByteArray) (t:T):useB vs ar t=(useOne vs ar t && t.args.all (useB vs ar)):=by cases t <;> simp [useB,useOne,T.kind,T.name,T.args]
mutual
def Sm.nms (vs ar rs:List ByteArray):Sm→Bool
 | .mk k nm i v _ _ t e=>(if k=1 then hasB vs nm else if k=2 then hasB ar nm else if k=5 then hasB rs nm else true) && i.all (useB vs ar) && v.all (useB vs ar) && Sm.nmss vs ar rs t && Sm.nmss vs ar rs e
def Sm.nmss (vs ar rs:List ByteArray):List Sm→Bool
 | []=>true
 | s :: l=>s.nms vs ar rs && Sm.nmss vs ar rs l
end
theorem Sm.nmss_all (vs ar rs:List ByteArray):∀ l:List Sm,Sm.nmss vs ar rs l=l.all (Sm.nms vs ar rs)
 | []=>rfl
 | s :: l=>by rw [Sm.nmss,Sm.nmss_all vs ar rs l,List.all_cons]
def wdT:T→Bool
 | .nu n=>decide (-2147483648≤n) && decide (n < 2147483648)
 | .nm _=>true
 | .ix _ t=>wdT t
 | .bn _ a b=>wdT a && wdT b
theorem wdT_eq (t:T):wdT t=(decide (-2147483648≤t.num) && decide (t.num < 2147483648) && t.args.all wdT):=by cases t <;> simp [wdT,T.num,T.args] <;> rfl
mutual
def Sm.wds:Sm→Bool
 | .mk _ _ i v m _ t e=>decide (0≤m) && decide (m≤32) && i.all wdT && v.all wdT && Sm.wdss t && Sm.wdss e
def Sm.wdss:List Sm→Bool
 | []=>true
 | s :: l=>s.wds && Sm.wdss l
end
theorem Sm.wdss_all:∀ l:List Sm,Sm.wdss l=l.all Sm.wds
 | []=>rfl
 | s :: l=>by rw [Sm.wdss,Sm.wdss_all l,List.all_cons]
def sizeB (n:Int):Bool:=decide (n=1) || decide (n=2) || decide (n=4) || decide (n=8) || decide (n=16)
def limT (t:Tk):Bool:=decide (t.inputs.length≤4) && decide (t.inputs.length+t.vars.length≤12) && decide (t.arrays.length≤4) && decide (t.modes.length≤3) && decide (t.claims.length≤4) && decide (Sm.szs t.body≤60)
def limB (p:Pg):Bool:=decide (p.res.length≤4) && decide (p.shared.length≤4) && decide (1≤p.tasks.length) && decide (p.tasks.length≤6) && p.tasks.all limT
def scaL (t:Tk):List ByteArray:=t.inputs.map (·.1) ++ t.vars
def arrL (sh:List Shd) (t:Tk):List ByteArray:=t.arrays.map (·.1) ++ sh.map (·.1)
def namT (rs:List ByteArray) (sh:List Shd) (t:Tk):Bool :=
 t.modes.all (fun m=>hasB (t.inputs.map (·.1)) m.2.1) && !dupB (t.modes.map (·.1)) && !dupB (scaL t ++ arrL sh t) && Sm.nmss (scaL t) (arrL sh t) rs t.body
def namB (p:Pg):Bool:=!dupB p.res && !dupB (p.tasks.map (·.name)) && p.shared.all (fun s=>hasB p.res s.2.2) && p.tasks.all (namT p.res p.shared)
def ranM (ins:List Inp) (m:Md):Bool:=ins.all fun x=>!decide (x.1=m.2.1) || (decide (m.2.2.1≤m.2.2.2) && decide (x.2.1≤m.2.2.1) && decide (m.2.2.2≤x.2.2))
def ranT (t:Tk):Bool :=
 decide (1≤t.period) && decide (t.period≤1048576) && decide (1≤t.deadline) && decide (t.deadline≤t.period) && decide (1≤t.priority) && decide (t.priority≤15) && decide (0≤t.jitter) && decide (t.jitter≤t.period) && Sm.wdss t.body &&
  t.arrays.all (fun a=>sizeB a.2) && t.inputs.all (fun x=>decide (x.2.1≤x.2.2)) && t.modes.all (ranM t.inputs)
def ranB (p:Pg):Bool:=p.shared.all (fun s=>sizeB s.2.1) && p.tasks.all ranT
mutual
def Sm.lbs (w:Int→Bool):Sm→List Int
 | .mk k _ _ _ _ lb t e=>(if w k=true then [lb] else []) ++ Sm.lbss w t ++ Sm.lbss w e
def Sm.lbss (w:Int→Bool):List Sm→List Int
 | []=>[]
 | s :: l=>s.lbs w ++ Sm.lbss w l
end
def isIW (k:Int):Bool:=decide (k=3) || decide (k=4)
def isIf (k:Int):Bool:=decide (k=3)
def labT (t:Tk):Bool:=(Sm.lbss isIW t.body).all (fun n=>decide (1≤n) && decide (n≤12)) && !dupI (Sm.lbss isIW t.body) &&
 t.claims.all (fun c=>!decide (c.1=c.2) && hasI (Sm.lbss isIf t.body) c.1 && hasI (Sm.lbss isIf t.body) c.2)
def allowB (sh:List Shd) (h s:ByteArray):Bool:=sh.all fun x=>!decide (x.1=s) || decide (x.2.2=h)
def freeB (sh:List Shd) (h:ByteArray):T→Bool
 | .nu _=>true
 | .nm _=>true
 | .ix s t=>allowB sh h s && freeB sh h t
 | .bn _ a b=>freeB sh h a && freeB sh h b
theorem freeB_eq (sh:List Shd) (h:ByteArray) (t:T):freeB sh h t=((!decide (t.kind=3) || allowB sh h t.name) && t.args.all (freeB sh h)):=by cases t <;> simp [freeB,T.kind,T.name,T.args]
mutual
def Sm.lck (sh:List Shd) (h:ByteArray):Sm→Bool
 | .mk k nm i v _ _ t e=>i.all (freeB sh h) && v.all (freeB sh h) && (!decide (k=5) || decide (h=⟨#[]⟩)) && (!decide (k=2) || allowB sh h nm) && Sm.lcks sh (if k=5 then nm else h) t && Sm.lcks sh (if k=5 then nm else h) e
def Sm.lcks (sh:List Shd) (h:ByteArray):List Sm→Bool
 | []=>true
 | s :: l=>s.lck sh h && Sm.lcks sh h l
end
theorem Sm.lcks_all (sh:List Shd) (h:ByteArray):∀ l:List Sm,Sm.lcks sh h l=l.all (Sm.lck sh h)
 | []=>rfl
 | s :: l=>by rw [Sm.lcks,Sm.lcks_all sh h l,List.all_cons]
end Go.Proofs.YtalkkcfojplmdaaGreatDoor
end
section
namespace Go.Proofs.YtalkkcfojplmdaaGreatDoor
open Go.Vc
attribute [local irreducible] JL JC JQ OpWp Con ConN
set_option maxHeartbeats 4000000
theorem Rdepth_c:∀ (F:Nat) (t:T),F≤20→Con Tryz.prog 254 [.row t.row',In .i64 (21 - (F:Int))] [] (fun K=>K (In .i64 (rd F t:Int)) []):=by
 intro F
 induction F with
 | zero =>
  intro t _
  refine con_intro Tryz.func254 O O b_ (fun c hc=>ZD (fun bx=>?_))
  refine M_ O (o_ O (bz_ O O (T_ (jc_condd O (fun _=>R_ (E_ O (T_ (ar_ (aw_ ?_))))) (fun h=>by omega)))))
  refine jq_ret1 O O [] O (fun K h=>h)
 | succ F ih =>
  intro t hF
  have eA:(t.args.map T.row).length=t.args.length:=List.length_map _
  refine con_intro Tryz.func254 O O b_ (fun c hc=>ZD (fun bx=>?_))
  refine M_ O (o_ O (bz_ O O (T_ (jc_condd O (fun h=>by omega) (fun _=>as_ (al_ (R_ (M_ O (E_ O ?_)))))))))
  refine T_ (am_ (R_ (E_ O (T_ (au_ ?_)))))
  have e0:(21 - ((F+1:Nat):Int))=((max (20 - F) (mx (rd F) (t.args.take 0)):Nat):Int):=by rw [List.take_zero]; simp only [mx,List.foldl_nil]; omega
  refine jc_loopS (ι:=Nat) [] (fun k=>k≤t.args.length) (fun k=>[(1,In .i64 (21 - ((F+1:Nat):Int))),(2,.cell (.val (.pointer (some ⟨bx,0,none⟩)))),(5,In .i64 ((max (20 - F) (mx (rd F) (t.args.take k)):Nat):Int)),(6,In .i64 (k:Int))]) (fun _=>[.blk bx 69 t.row']) (fun k=>t.args.length - k) 0 (Nat.zero_le _) ?_ ?_ ?_
  ·exact Wy
  ·rw [← e0]
   exact Ww
  ·intro k hk
   refine jc_reset [(1,In .i64 (21 - ((F+1:Nat):Int))),(2,.cell (.val (.pointer (some ⟨bx,0,none⟩)))),(5,In .i64 ((max (20 - F) (mx (rd F) (t.args.take k)):Nat):Int)),(6,In .i64 (k:Int))] [.blk bx 69 t.row'] ?_ ⟨[0],[],rfl⟩ ?_
   ·exact Ww
   refine ZB ?_
   refine o_ O (br_ O (fun hlen=>o_ O (bw_ O O (T_ (jc_condd O (fun hlt=>?_) (fun hge=>?_))))))
   ·have hlt':k < t.args.length:=by omega
    have hI:Con Tryz.prog 254 [.row (t.args[k]).row',In .i64 (21 - ((F+1:Nat):Int)+1)] [] (fun K=>K (In .i64 (rd F t.args[k]:Int)) []):=by
     rw [show (21 - ((F+1:Nat):Int)+1)=21 - (F:Int) by omega]
     exact ih _ g_
    refine as_ (al_ (B_ (an_ (M_ O (F_ O (L_ 0 O (M_ O (Zy ?_))))))))
    refine M_ O (o_ O (bj_ O O g_ (o_ O (bm_ O (hI) (o_ O (ck_ O O (E_ O (ak_ ?_))))))))
    refine Zk ?_
    refine jq_againS (k+1) g_ g_ ?_ ?_
    ·exact Wy
    ·rw [List.take_succ_eq_append_getElem hlt',mx_snoc,show ((max (20 - F) (max (mx (rd F) (t.args.take k)) (rd F t.args[k])):Nat):Int)=max ((max (20 - F) (mx (rd F) (t.args.take k)):Nat):Int) (rd F t.args[k]:Int) by omega]
     exact Ww
   ·obtain rfl:k=t.args.length:=by omega
    rw [List.take_length]
    refine Yp ?_
    refine ar_ (jq_ret1 O O [] O (fun K h=>h))
theorem RDepth_c (t:T):Con Tryz.prog 239 [.row t.row'] [] (fun K=>K (In .i64 (rd 20 t:Int)) []):=by
 have h:=Rdepth_c 20 t (by omega)
 rw [show (21 - ((20:Nat):Int))=1 by omega] at h
 refine con_intro Tryz.func239 O O b_ (fun c hc=>R_ (o_ O (ci_ O (fun bx=>E_ O (T_ (R_ (A_ 0 O (o_ O (bm_ O (h) (E_ O (T_ (ar_ (jq_ret1 O O [] O (fun K h=>h))))))))))))))
def hasW (s:ByteArray):Bool:=words.any (fun w=>decide (w=s))
def idxW (L:List ByteArray) (s:ByteArray):Int:=match L.findIdx? (fun w=>decide (w=s)) with | some i=>(i:Int) | none=>-1
theorem Index_c (L:List ByteArray) (s:ByteArray):Con Tryz.prog 148 [.cell (.list (L.map Wrow)),Str s] [] (fun K=>K (In .i64 (idxW L s)) []):=by
 have eL:(L.map Wrow).length=L.length:=List.length_map _
 refine con_intro Tryz.func148 O O b_ (fun c hc=>ZV ?_)
 refine br_ O (fun hlen=>M_ O (T_ (au_ ?_)))
 refine jc_loopS [] (fun k:Nat=>k≤L.length∧∀ j (hj:j < L.length),j < k→decide (L[j]=s)=false) (fun k=>[(0,.cell (.list (L.map Wrow))),(1,Str s),(7,In .i64 ((L.map Wrow).length:Int)),(8,In .i64 (k:Int))]) (fun _=>[]) (fun k=>L.length - k) 0 ⟨Nat.zero_le _,fun j _ h=>by omega⟩ ?_ ?_ ?_
 ·exact sub_end
 ·exact Ww
 ·rintro k ⟨hk,hno⟩
  refine jc_reset [(0,.cell (.list (L.map Wrow))),(1,Str s),(7,In .i64 ((L.map Wrow).length:Int)),(8,In .i64 (k:Int))] [] ?_ ⟨[],[],rfl⟩ ?_
  ·exact Ww
  refine R_ (o_ O (bw_ O O (T_ (am_ (jc_condd O (fun hlt=>?_) (fun hge=>?_))))))
  ·have hlt':k < L.length:=by omega
   refine as_ (al_ (B_ (R_ (YR ?_))))
   refine ZI ?_
   refine cb_ O O (o_ O (cs_ O O (T_ (jc_condd O (fun hb=>?_) (fun hb=>?_)))))
   ·have e:idxW L s=(k:Int):=by
     unfold idxW
     rw [List.findIdx?_eq_some_iff_getElem.2 ⟨hlt',decide_eq_true hb.symm,fun j hj=>by rw [hno j (by omega) hj]; simp⟩]
    refine R_ (M_ O (E_ O (T_ (ar_ (az_ (aw_ (aw_ (az_ (aw_ (jq_ret1 O O [] O (fun K h=>by rw [e] at h; exact h)))))))))))
   ·refine as_ (Zx ?_)
    refine jq_againS (k+1) ⟨by omega,fun j hj hjk=>?_⟩ g_ ?_ ?_
    ·by_cases e:j < k
     ·exact hno j hj e
     ·obtain rfl:j=k:=by omega
      exact decide_eq_false (fun e=>hb e.symm)
    ·exact sub_end
    ·exact Ww
  ·have e:idxW L s=-1:=by
    unfold idxW
    rw [List.findIdx?_eq_none_iff.2 (fun x hx=>by
     obtain ⟨j,hj,rfl⟩:=List.mem_iff_getElem.1 hx
     exact hno j hj (by omega))]
   refine av_ (ax_ (ax_ (ba_ (al_ (R_ (E_ O (T_ (ar_ (jq_ret1 O O [] O (fun K h=>by rw [e] at h; exact h))))))))))
theorem idxW_any (L:List ByteArray) (s:ByteArray):decide (0≤idxW L s)=L.any (fun w=>decide (w=s)):=by
 unfold idxW
 cases h:L.findIdx? (fun w=>decide (w=s)) with
 | none =>
  have:=List.findIdx?_eq_none_iff.1 h
  rw [List.any_eq_false.2 (fun x hx=>by rw [this x hx]; decide)]
  rfl
 | some i =>
  obtain ⟨hi,hp,_⟩:=List.findIdx?_eq_some_iff_getElem.1 h
  rw [List.any_eq_true.2 ⟨L[i],List.getElem_mem hi,hp⟩]
  show decide (0≤(i:Int))=true
  exact decide_eq_true g_
theorem Contains_c (L:List ByteArray) (s:ByteArray):Con Tryz.prog 96 [.cell (.list (L.map Wrow)),Str s] [] (fun K=>K (Bl (L.any (fun w=>decide (w=s)))) []):=by
 refine con_intro Tryz.func96 O O b_ (fun c hc=>R_ (E_ O (T_ (R_ (M_ O (M_ O (o_ O (bm_ O (Index_c L s) (o_ O (cn_ O O (E_ O (T_ (ar_ (jq_ret1 O O [] O (fun K h=>by rw [← idxW_any] at h; exact h)))))))))))))))
theorem Keyword_c (s:ByteArray):Con Tryz.prog 183 [Str s] [] (fun K=>K (Bl (hasW s)) []):=by
 refine con_intro Tryz.func183 O O b_ (fun c hc=>R_ (E_ O (T_ (R_ (o_ O (dd_ gl_words O O O (M_ O (o_ O (bm_ O (Contains_c words s) (E_ O (T_ (ar_ (jq_ret1 O O [] O (fun K h=>h))))))))))))))
def signT (op:Int):ByteArray:=signL.getD (op.toNat - 1) ⟨#[]⟩
theorem op14 {op:Int} (h:1≤op∧op≤14):op=1 ∨ op=2 ∨ op=3 ∨ op=4 ∨ op=5 ∨ op=6 ∨ op=7 ∨ op=8 ∨ op=9 ∨ op=10 ∨ op=11 ∨ op=12 ∨ op=13 ∨ op=14:=by omega
theorem Sign_c (op:Int) (h:1≤op∧op≤14):Con Tryz.prog 227 [In .i64 op] [] (fun K=>K (Str (signT op)) []):=by
 refine con_intro Tryz.func227 O O b_ (fun c hc=>?_)
 have h0:¬ op < 1:=by omega
 refine ZV ?_
 refine YQ ?_
 refine bz_ O O (o_ O (bv_ O w_ O (T_ (jc_condd O (fun h2=>by omega) (fun _=>as_ (al_ (R_ ?_)))))))
 refine M_ O (o_ O (cg_ O O g_ (o_ O (de_ (n:=14) (e:=9) O O O g_ g_ (o_ O (dd_ (e:=.val (.string (signT op))) gl_signs rfl rfl (by rcases op14 h with rfl | rfl | rfl | rfl | rfl | rfl | rfl | rfl | rfl | rfl | rfl | rfl | rfl | rfl <;> rfl) (E_ O (T_ (ar_ (jq_ret1 rfl rfl [] rfl (fun K h=>h)))))))))))
theorem RSign_c (op:Int) (h:1≤op∧op≤14):Con Tryz.prog 240 [In .i64 op] [] (fun K=>K (Str (signT op)) []):=by
 refine con_intro Tryz.func240 O O b_ (fun c hc=>?_)
 have h0:¬ op < 1:=by omega
 refine R_ (E_ O (T_ (R_ (o_ O (ow_buildArr (n:=15) (e:=9) O O O O O (Yt (fun bl=>?_)))))))
 refine am_ (R_ (M_ O (o_ O (YQ ?_))))
 refine bz_ O O (o_ O (bv_ O w_ O ?_))
 refine T_ (jc_condd rfl (fun h2=>by omega) (fun _=>as_ (al_ (R_ (M_ O (o_ O (de_ (n:=15) (e:=9) O O O g_ g_ (o_ O (bg_ 0 (e:=.val (.string (signT op))) rfl rfl rfl (by rcases op14 h with rfl | rfl | rfl | rfl | rfl | rfl | rfl | rfl | rfl | rfl | rfl | rfl | rfl | rfl <;> rfl) (E_ O (T_ (ar_ (jq_ret1 rfl rfl [] rfl (fun K h=>h))))))))))))))
end Go.Proofs.YtalkkcfojplmdaaGreatDoor
end
section
namespace Go.Proofs.YtalkkcfojplmdaaGreatDoor
open Go.Vc
attribute [local irreducible] JL JC JQ OpWp Con ConN
set_option maxHeartbeats 4000000
def isL (n:Int):Bool:=decide (97≤n) && decide (n≤122)
def isD (n:Int):Bool:=decide (48≤n) && decide (n≤57)
def isLD (n:Int):Bool:=isL n || isD n
theorem letter_c (n:Int):Con Tryz.prog 242 [In .u8 n] [] (fun K=>K (Bl (isL n)) []):=by
 by_cases h:(97:Int)≤n
 ·refine con_intro Tryz.func242 O O b_ (fun c hc=>R_ (E_ O (T_ (R_ (M_ O (o_ O (cn_ O O (M_ O (ah_ O u_ b_ (bd_ O (ah_ O u_ b_ (cu_ O O (o_ O (bp_ O u_ O (E_ O (T_ (ar_ (jq_ret1 O O [] O (fun K h'=>by rw [show isL n=decide (n≤122) by simp [isL,h]] at h'; exact h')))))))))))))))))))
 ·refine con_intro Tryz.func242 O O b_ (fun c hc=>R_ (E_ O (T_ (R_ (M_ O (o_ O (cn_ O O (M_ O (ai_ O w_ b_ (ai_ O w_ b_ (o_ O (bv_ O w_ O (E_ O (T_ (ar_ (jq_ret1 O O [] O (fun K h'=>by rw [show isL n=false by simp [isL,h]] at h'; exact h')))))))))))))))))
theorem digit_c (n:Int):Con Tryz.prog 245 [In .u8 n] [] (fun K=>K (Bl (isD n)) []):=by
 by_cases h:(48:Int)≤n
 ·refine con_intro Tryz.func245 O O b_ (fun c hc=>R_ (E_ O (T_ (R_ (M_ O (o_ O (cn_ O O (M_ O (ah_ O u_ b_ (bd_ O (ah_ O u_ b_ (cu_ O O (o_ O (bp_ O u_ O (E_ O (T_ (ar_ (jq_ret1 O O [] O (fun K h'=>by rw [show isD n=decide (n≤57) by simp [isD,h]] at h'; exact h')))))))))))))))))))
 ·refine con_intro Tryz.func245 O O b_ (fun c hc=>R_ (E_ O (T_ (R_ (M_ O (o_ O (cn_ O O (M_ O (ai_ O w_ b_ (ai_ O w_ b_ (o_ O (bv_ O w_ O (E_ O (T_ (ar_ (jq_ret1 O O [] O (fun K h'=>by rw [show isD n=false by simp [isD,h]] at h'; exact h')))))))))))))))))
theorem both_c (n:Int):Con Tryz.prog 244 [In .u8 n] [] (fun K=>K (Bl (isLD n)) []):=by
 cases h:isL n with
 | true =>
  refine con_intro Tryz.func244 O O b_ (fun c hc=>R_ (E_ O (T_ (R_ (M_ O (o_ O (bm_ O (letter_c _) (M_ O (ai_ O h_ b_ (ai_ O h_ b_ (o_ O (bp_ O h_ O (E_ O (T_ (ar_ (jq_ret1 O O [] O (fun K h'=>by rw [show isLD n=true by simp [isLD,h]] at h'; exact h')))))))))))))))))
 | false =>
  refine con_intro Tryz.func244 O O b_ (fun c hc=>R_ (E_ O (T_ (R_ (M_ O (o_ O (bm_ O (letter_c _) (M_ O (ah_ O h_ b_ (bd_ O (ah_ O h_ b_ (bm_ O (digit_c _) (o_ O (bv_ O h_ O (E_ O (T_ (ar_ (jq_ret1 O O [] O (fun K h'=>by rw [show isLD n=isD n by simp [isLD,h]] at h'; exact h')))))))))))))))))))
theorem run_c (p:Int→Bool) (f:FuncId) [FI Tryz.prog f] (hp:∀ n,Con Tryz.prog f [In .u8 n] [] (fun K=>K (Bl (p n)) [])) (s:ByteArray) (hs:s.size≤1000000) :
 Con Tryz.prog 243 [Str s,.cell (.val (.func (.func f) #[] #[]))] [] (fun K=>K (In .i64 (runLen p s:Int)) []):=by
 refine con_intro Tryz.func243 O O b_ (fun c hc=>R_ (E_ O (T_ (R_ (E_ O (T_ (B_ (jc_loopS [] (fun k:Nat=>k≤s.size∧∀ j,j < k→p (byteAt s j)=true) (fun k=>[(0,Str s),(1,.cell (.val (.func (.func f) #[] #[]))),(5,In .i64 (k:Int))]) (fun _=>[]) (fun k=>s.size - k) 0 ⟨Nat.zero_le _,fun j h=>by omega⟩ ?_ ?_ ?_))))))))
 ·exact sub_end
 ·exact Ww
 ·rintro k ⟨hk,hall⟩
  by_cases hlt:(k:Int) < (s.size:Int)
  ·refine Yu ?_
   refine o_ O (co_ O O (o_ O (bw_ O O (M_ O (Yq ?_)))))
   refine bd_ O (Yq ?_)
   refine ow_indexStr O O O g_ g_ (ah_ O u_ b_ (ow_callv0 O O (hp _) (o_ O (bp_ O u_ O (T_ (jc_cond O (fun hb=>?_) (fun hb=>?_)))))))
   ·refine as_ (al_ (au_ (an_ (YN ?_))))
    refine ay_ (jq_againS (k+1) ⟨by omega,fun j hj=>?_⟩ g_ ?_ ?_)
    ·by_cases hjk:j < k
     ·exact hall j hjk
     ·obtain rfl:j=k:=by omega
      exact hb
    ·exact sub_end
    ·exact Ww
   ·refine Yp ?_
    refine ar_ ?_
    have e:runLen p s=k:=runLen_eq hall hk (fun _=>hb)
    refine jq_ret1 O O [] O (fun K h=>by rw [e] at h; exact h)
  ·refine Yu ?_
   refine o_ O (co_ O O (o_ O (bw_ O O (M_ O (Zg ?_)))))
   refine YA ?_
   refine T_ (jc_cond rfl (fun h=>by cases h) (fun _=>av_ ?_))
   refine ax_ (ax_ (ba_ (al_ (R_ (M_ O (E_ O (T_ (ar_ ?_))))))))
   have e:runLen p s=k:=runLen_eq hall hk (fun h=>by omega)
   refine jq_ret1 O O [] O (fun K h=>by rw [e] at h; exact h)
def nameLen (s:ByteArray):Nat:=if 0 < s.size∧isL (byteAt s 0)=true then runLen isLD s else 0
theorem name_c (s:ByteArray) (hs:s.size≤1000000):Con Tryz.prog 226 [Str s] [] (fun K=>K (In .i64 (nameLen s:Int)) []):=by
 refine con_intro Tryz.func226 O O b_ (fun c hc=>R_ (E_ O (T_ (am_ (am_ (jc_cut (ι:=Bool) [] (fun b=>b=!(decide (0 < s.size) && isL (byteAt s 0))) (fun b=>[(0,Str s),(10,Bl b)]) (fun _=>[]) ?_ ?_))))))
 ·by_cases h0:s=⟨#[]⟩
  ·refine an_ (M_ O (o_ O (cs_ O O (M_ O (Yg ?_)))))
   refine ai_ O u_ b_ (o_ O (bp_ O u_ O (ak_ (jq_cutS true ?_ ?_ ?_))))
   ·rw [h0]; rfl
   ·exact sub_end
   ·exact Ww
  ·have hpos:0 < s.size:=by
    rcases Nat.eq_zero_or_pos s.size with h | h
    ·exact absurd (by cases s; rename_i d; have:d=#[]:=Array.eq_empty_of_size_eq_zero h; rw [this]) h0
    ·exact h
   refine an_ (M_ O (o_ O (cs_ O O (M_ O (ah_ O w_ b_ (bd_ O (ah_ O w_ b_ (ow_indexStr O O O g_ g_ (ah_ O w_ b_ (bm_ O (letter_c _) (ah_ O w_ b_ (cd_ O (o_ O (bv_ O w_ O (ak_ (jq_cutS (!isL (byteAt s 0)) (by simp [hpos]) ?_ ?_))))))))))))))))
   ·exact sub_end
   ·exact Ww
 ·intro b hb
  refine jc_cond O (fun h=>?_) (fun h=>?_)
  ·refine R_ (E_ O (T_ (ar_ (aw_ ?_))))
   have e:nameLen s=0:=by
    unfold nameLen
    rw [if_neg]
    rintro ⟨h1,h2⟩
    rw [hb] at h
    simp [h1,h2] at h
   refine jq_ret1 O O [] O (fun K h=>by rw [e] at h; exact h)
  ·refine as_ (al_ (R_ (M_ O (o_ O (bm_ O (run_c isLD _ both_c s hs) (E_ O (T_ (ar_ ?_))))))))
   have e:nameLen s=runLen isLD s:=by
    unfold nameLen
    rw [if_pos]
    rw [hb] at h
    simpa using h
   refine jq_ret1 O O [] O (fun K h=>by rw [e] at h; exact h)
def isName (s:ByteArray):Bool:=decide (0 < s.size) && decide (s.size≤12) && decide (nameLen s=s.size)
theorem empty_iff (s:ByteArray):s=⟨#[]⟩ ↔ s.size=0:=by
 constructor
 ·rintro rfl; rfl
 ·intro h; cases s; rename_i d; have:d=#[]:=Array.eq_empty_of_size_eq_zero h; rw [this]
theorem Name_c (s:ByteArray):Con Tryz.prog 182 [Str s] [] (fun K=>K (Bl (isName s)) []):=by
 refine con_intro Tryz.func182 O O b_ (fun c hc=>?_)
 by_cases h0:s=⟨#[]⟩
 ·have e:isName s=false:=by simp [isName,(empty_iff s).1 h0]
  have h0n:¬ ¬ s=⟨#[]⟩:=fun h=>h h0
  refine R_ (YX ?_)
  refine ct_ O O (M_ O (ai_ O w_ b_ (ai_ O w_ b_ (YA ?_))))
  refine M_ O (Zd ?_)
  refine ai_ O O b_ (o_ O (bv_ O O O (E_ O (T_ (ar_ (jq_ret1 O O [] O (fun K h=>by rw [e] at h; exact h)))))))
 ·have hp:0 < s.size:=by have:=mt (empty_iff s).2 h0; omega
  by_cases h12:(s.size:Int)≤12
  ·have e:isName s=decide ((nameLen s:Int)=(s.size:Int)):=by
    unfold isName
    rw [decide_eq_true hp,decide_eq_true (show s.size≤12 by omega)]
    simp only [Bool.true_and,Int.ofNat_inj]
   refine R_ (YX ?_)
   refine ct_ O O (M_ O (Yq ?_))
   refine co_ O O (ah_ O u_ b_ (cu_ O O (o_ O (bp_ O u_ O (M_ O (Yq ?_))))))
   refine bm_ O (name_c s g_) (Yq ?_)
   refine co_ O O ?_
   refine ah_ O u_ b_ (bn_ O O (o_ O (bp_ O u_ O (E_ O (T_ (ar_ (jq_ret1 O O [] O (fun K h=>by rw [e] at h; exact h))))))))
  ·have e:isName s=false:=by
    unfold isName
    rw [decide_eq_false (show ¬ s.size≤12 by omega)]
    simp
   refine R_ (YX ?_)
   refine ct_ O O (M_ O (Yq ?_))
   refine co_ O O (ah_ O u_ b_ (cu_ O O (o_ O (bp_ O u_ O (M_ O (Zg ?_))))))
   refine YA ?_
   refine E_ O (T_ (ar_ (jq_ret1 O O [] O (fun K h=>by rw [e] at h; exact h))))
theorem rletter_c (n:Int):Con Tryz.prog 251 [In .u8 n] [] (fun K=>K (Bl (isL n)) []):=by
 by_cases h:(97:Int)≤n
 ·refine con_intro Tryz.func251 O O b_ (fun c hc=>R_ (E_ O (T_ (R_ (M_ O (o_ O (cn_ O O (M_ O (ah_ O u_ b_ (bd_ O (ah_ O u_ b_ (cu_ O O (o_ O (bp_ O u_ O (E_ O (T_ (ar_ (jq_ret1 O O [] O (fun K h'=>by rw [show isL n=decide (n≤122) by simp [isL,h]] at h'; exact h')))))))))))))))))))
 ·refine con_intro Tryz.func251 O O b_ (fun c hc=>R_ (E_ O (T_ (R_ (M_ O (o_ O (cn_ O O (M_ O (ai_ O w_ b_ (ai_ O w_ b_ (o_ O (bv_ O w_ O (E_ O (T_ (ar_ (jq_ret1 O O [] O (fun K h'=>by rw [show isL n=false by simp [isL,h]] at h'; exact h')))))))))))))))))
theorem rdigit_c (n:Int):Con Tryz.prog 252 [In .u8 n] [] (fun K=>K (Bl (isD n)) []):=by
 by_cases h:(48:Int)≤n
 ·refine con_intro Tryz.func252 O O b_ (fun c hc=>R_ (E_ O (T_ (R_ (M_ O (o_ O (cn_ O O (M_ O (ah_ O u_ b_ (bd_ O (ah_ O u_ b_ (cu_ O O (o_ O (bp_ O u_ O (E_ O (T_ (ar_ (jq_ret1 O O [] O (fun K h'=>by rw [show isD n=decide (n≤57) by simp [isD,h]] at h'; exact h')))))))))))))))))))
 ·refine con_intro Tryz.func252 O O b_ (fun c hc=>R_ (E_ O (T_ (R_ (M_ O (o_ O (cn_ O O (M_ O (ai_ O w_ b_ (ai_ O w_ b_ (o_ O (bv_ O w_ O (E_ O (T_ (ar_ (jq_ret1 O O [] O (fun K h'=>by rw [show isD n=false by simp [isD,h]] at h'; exact h')))))))))))))))))
attribute [local irreducible] byteAt runLen isL isD
theorem isName_eq {s:ByteArray} (h0:0 < s.size) (h12:s.size≤12) (hl:isL (byteAt s 0)=true):isName s=decide (runLen isLD s=s.size):=by
 unfold isName nameLen
 rw [decide_eq_true h0,decide_eq_true h12,if_pos ⟨h0,hl⟩]
 rfl
theorem rName_c (s:ByteArray):Con Tryz.prog 235 [Str s] [] (fun K=>K (Bl (isName s)) []):=by
 refine con_intro Tryz.func235 O O b_ (fun c hc=>?_)
 by_cases h1:(s.size:Int) < 1
 ·have e:isName s=false:=by unfold isName; rw [decide_eq_false (by omega)]; rfl
  refine ZV ?_
  refine co_ O O (o_ O (bw_ O O (M_ O (Yg ?_))))
  refine o_ O (bp_ O u_ O (M_ O (ai_ O O b_ (ai_ O O b_ ?_))))
  refine Z5 ?_
  refine T_ (jc_cond rfl (fun _=>R_ (E_ O (T_ (ar_ (aw_ (jq_ret1 rfl rfl [] rfl (fun K h=>by rw [e] at h; exact h))))))) (fun h=>by cases h))
 ·by_cases h2:(12:Int) < (s.size:Int)
  ·have e:isName s=false:=by unfold isName; rw [decide_eq_false (show ¬ s.size≤12 by omega),Bool.and_false]; rfl
   refine ZV ?_
   refine co_ O O (o_ O (YQ ?_))
   refine co_ O O (ah_ O w_ b_ (bz_ O O (o_ O (bv_ O w_ O (M_ O (ai_ O u_ b_ (ai_ O u_ b_ ?_)))))))
   refine ai_ O u_ b_ (ai_ O u_ b_ (o_ O (bp_ O u_ O (T_ (jc_cond rfl (fun _=>R_ (E_ O (T_ (ar_ (aw_ (jq_ret1 rfl rfl [] rfl (fun K h=>by rw [e] at h; exact h))))))) (fun h=>by cases h))))))
  ·refine ZV ?_
   refine co_ O O (o_ O (YQ ?_))
   refine co_ O O (ah_ O w_ b_ (bz_ O O (o_ O (bv_ O w_ O (M_ O (ah_ O w_ b_ (bd_ O (ah_ O w_ b_ (ow_indexStr O O O g_ g_ ?_)))))))))
   refine ah_ O w_ b_ (bm_ O (rletter_c _) (ah_ O w_ b_ (cd_ O (o_ O (bv_ O w_ O (T_ (jc_cond O (fun hb=>?_) (fun hb=>?_))))))))
   ·have hl:isL (byteAt s 0)=false:=by simpa using hb
    have e:isName s=false:=by
     unfold isName nameLen
     rw [if_neg (fun h=>by rw [hl] at h; cases h.2),decide_eq_false (show ¬ 0=s.size by omega),Bool.and_false]
    refine R_ (E_ O (T_ (ar_ (aw_ (jq_ret1 O O [] O (fun K h=>by rw [e] at h; exact h))))))
   ·have hl:isL (byteAt s 0)=true:=by simpa using hb
    have e:=isName_eq (s:=s) (by omega) (by omega) hl
    refine as_ (al_ (am_ (R_ (E_ O (T_ (au_ (jc_loopS [] (fun k:Nat=>k≤s.size∧∀ j,j < k→isLD (byteAt s j)=true) (fun k=>[(0,Str s),(3,In .i64 (k:Int))]) (fun _=>[]) (fun k=>s.size - k) 0 ⟨Nat.zero_le _,fun j h=>by omega⟩ ?_ ?_ ?_)))))))
    ·exact sub_end
    ·exact Ww
    ·rintro k ⟨hk,hall⟩
     refine Yu ?_
     refine o_ O (co_ O O (o_ O (bw_ O O (T_ (jc_condd O (fun hlt=>?_) (fun hge=>?_))))))
     ·have hlt':k < s.size:=by omega
      cases hl0:isL (byteAt s (k:Int).toNat) with
      | true =>
       have hn0:(!isL (byteAt s (k:Int).toNat))=false:=by rw [hl0]; rfl
       refine as_ (al_ (B_ (R_ (M_ O (M_ O (o_ O (ow_indexStr O O O g_ g_ (o_ O (bm_ O (rletter_c _) (o_ O (cd_ O (M_ O (ai_ O h_ b_ (ai_ O h_ b_ (ai_ O h_ b_ (ai_ O h_ b_ (ai_ O h_ b_ (o_ O (bv_ O h_ O ?_)))))))))))))))))))
       refine T_ (jc_cond rfl (fun h=>by cases h) (fun _=>as_ (Zk ?_)))
       refine jq_againS (k+1) ⟨by omega,fun i hi=>?_⟩ g_ ?_ ?_
       ·by_cases hik:i < k
        ·exact hall i hik
        ·obtain rfl:i=k:=by omega
         unfold isLD
         rw [show isL (byteAt s i)=true from hl0]; rfl
       ·exact sub_end
       ·exact Ww
      | false =>
       have hn0:(!isL (byteAt s (k:Int).toNat))=true:=by rw [hl0]; rfl
       refine as_ (al_ (B_ (R_ (M_ O (M_ O (o_ O (ow_indexStr O O O g_ g_ (o_ O (bm_ O (rletter_c _) (o_ O (cd_ O (M_ O (Z8 ?_)))))))))))))
       refine bd_ O (ah_ O h_ b_ (ow_indexStr O O O g_ g_ (ah_ O h_ b_ (bm_ O (rdigit_c _) (ah_ O h_ b_ (cd_ O (o_ O (bp_ O h_ O ?_))))))))
       refine T_ (jc_cond O (fun hd=>?_) (fun hd=>?_))
       ·have hd':isD (byteAt s k)=false:=by simpa using hd
        have hf:isLD (byteAt s k)=false:=by unfold isLD; rw [show isL (byteAt s k)=false from hl0,hd']; rfl
        have hr:runLen isLD s=k:=runLen_eq hall hk (fun _=>hf)
        have e2:isName s=false:=by rw [e,hr]; exact decide_eq_false (by omega)
        refine Zr ?_
        refine aw_ (jq_ret1 O O [] O (fun K h=>by rw [e2] at h; exact h))
       ·have hd':isD (byteAt s k)=true:=by simpa using hd
        refine as_ (Zk ?_)
        refine jq_againS (k+1) ⟨by omega,fun i hi=>?_⟩ g_ ?_ ?_
        ·by_cases hik:i < k
         ·exact hall i hik
         ·obtain rfl:i=k:=by omega
          unfold isLD
          rw [hd',Bool.or_true]
        ·exact sub_end
        ·exact Ww
     ·have hr:runLen isLD s=s.size:=runLen_eq (fun j hj=>hall j (by omega)) (Nat.le_refl _) (fun h=>by omega)
      have e2:isName s=true:=by rw [e,hr]; exact decide_eq_true rfl
      refine av_ (ax_ (ax_ (ba_ (al_ (R_ (E_ O (T_ (ar_ (jq_ret1 O O [] O (fun K h=>by rw [e2] at h; exact h))))))))))
end Go.Proofs.YtalkkcfojplmdaaGreatDoor
end
section
namespace Go.Proofs.YtalkkcfojplmdaaGreatDoor
open Go.Vc
attribute [local irreducible] JL JC JQ OpWp Con ConN
set_option maxHeartbeats 4000000
attribute [local irreducible] byteAt runLen isL isD
def decS (u:Nat):ByteArray:=⟨(Lib.decDigits u).toArray⟩
theorem nDigits_le:∀ (k u:Nat),1≤k→u < 10 ^ k→Lib.nDigits u≤k
 | 0,_,h,_=>by omega
 | k+1,u,_,h=>by
  by_cases hu:u < 10
  ·rw [Lib.nDigits_small hu]; omega
  ·rw [Lib.nDigits_big hu]
   have hk:1≤k:=by
    rcases Nat.eq_zero_or_pos k with rfl | h'
    ·omega
    ·exact h'
   have:=nDigits_le k (u / 10) hk (by rw [Nat.pow_succ] at h; omega)
   omega
theorem decS_size (u:Nat):(decS u).size=Lib.nDigits u:=by
 rw [← Lib.decDigits_length]
 simp [decS,ByteArray.size]
theorem decS_le (u:Nat) (h:u≤2147483647):(decS u).size≤10:=by
 rw [decS_size]
 exact nDigits_le 10 u g_ g_
theorem decS_small (u:Nat) (h:u < 10):decS u=bytesOf [48+(u:Int)]:=by
 unfold decS
 rw [Lib.decDigits,dif_pos h]
 show _=ByteArray.empty.push (UInt8.ofNat (48+(u:Int)).toNat)
 rw [show (48+(u:Int)).toNat=48+u by omega]
 rfl
theorem decS_big (u:Nat) (h:¬ u < 10):decS u=decS (u / 10) ++ bytesOf [48+(u:Int) % 10]:=by
 unfold decS
 rw [Lib.decDigits,dif_neg h]
 show _=_ ++ ByteArray.empty.push (UInt8.ofNat (48+(u:Int) % 10).toNat)
 rw [show (48+(u:Int) % 10).toNat=48+u % 10 by omega]
 apply ByteArray.ext
 simp
attribute [local irreducible] decS
theorem Decimal_c (u:Nat) (hu:u≤2147483647):Con Tryz.prog 201 [In .i64 (u:Int)] [] (fun K=>K (Str (decS u)) []):=by
 induction u using Nat.strongRecOn with
 | _ u ih =>
  refine con_intro Tryz.func201 O O b_ (fun c hc=>ZV ?_)
  refine bw_ O O (T_ (jc_condd O (fun hlt=>?_) (fun hge=>?_)))
  ·have e:=decS_small u (by omega)
   refine R_ (M_ O (o_ O (bj_ O O g_ (o_ O (ow_convU8 O O O g_ (o_ O (bq_ O O b_ O O b_ (o_ O (ow_bytesToString (l:=[_]) O O O (E_ O (T_ (ar_ (aw_ (jq_ret1 O O [] O (fun K h=>by rw [e] at h; exact h)))))))))))))))
  ·have e:=decS_big u (by omega)
   have h0:=ih (u / 10) (by omega) (by omega)
   rw [show ((u / 10:Nat):Int)=(u:Int) / 10 by omega] at h0
   have h1:=decS_le (u / 10) (by omega)
   have h2:(bytesOf [48+(u:Int) % 10]).size=1:=rfl
   refine as_ (al_ (am_ (ao_ O O k_ k_ (yM_ O (aa_ (fun c=>ow_quo64 O O g_ g_ p_) (aa_ (fun c=>bm_ O (h0) p_) (yM_ O (aa_ (fun c=>ow_rem64 O O g_ g_ p_) (aa_ (fun c=>bj_ O O g_ p_) (aa_ (fun c=>ow_convU8 O O O g_ p_) (aa_ (fun c=>bq_ O O b_ O O b_ p_) (aa_ (fun c=>ow_bytesToString (l:=[_]) O O O p_) (aa_ (fun c=>ow_strcat O O g_ p_) (yE_ O (ae_ ?_)))))))))))))))
   refine al_ (ar_ (jq_ret1 O O [] O (fun K h=>by rw [e] at h; exact h)))
end Go.Proofs.YtalkkcfojplmdaaGreatDoor
end
section
namespace Go.Proofs.YtalkkcfojplmdaaGreatDoor
open Go.Vc
attribute [local irreducible] JL JC JQ OpWp Con ConN
attribute [local irreducible] hasW
set_option maxHeartbeats 4000000
theorem RKeyword_c (s:ByteArray):Con Tryz.prog 236 [Str s] [] (fun K=>K (Bl (hasW s)) []):=by
 refine con_intro Tryz.func236 O O b_ (fun c hc=>R_ (E_ O (T_ (R_ (o_ O (bq_ O O b_ O O b_ (E_ O (T_ (am_ (R_ (E_ O (T_ (au_ (jc_reset [(0,Str s),(3,.cell (.list (words.map Wrow))),(4,In .i64 0)] [] ?_ ⟨[],[],rfl⟩ ?_))))))))))))))
 ·exact Ww
 have hk:hasW s=words.any (fun w=>decide (w=s)):=by unfold hasW; rfl
 rw [hk]
 clear hk
 generalize words=L
 have eL:(L.map Wrow).length=L.length:=List.length_map _
 refine jc_loopS [] (fun k:Nat=>k≤L.length∧(L.take k).any (fun w=>decide (w=s))=false) (fun k=>[(0,Str s),(3,.cell (.list (L.map Wrow))),(4,In .i64 (k:Int))]) (fun _=>[]) (fun k=>L.length - k) 0 ⟨Nat.zero_le _,by rw [List.take_zero]; rfl⟩ ?_ ?_ ?_
 ·exact sub_end
 ·exact Ww
 ·rintro k ⟨hk,hno⟩
  refine jc_reset [(0,Str s),(3,.cell (.list (L.map Wrow))),(4,In .i64 (k:Int))] [] ?_ ⟨[],[],rfl⟩ ?_
  ·exact Ww
  refine Yr (fun hlen=>?_)
  refine T_ (jc_condd O (fun hlt=>?_) (fun hge=>?_))
  ·have hlt':k < L.length:=by omega
   refine as_ (al_ (B_ (R_ (M_ O (M_ O (ZI ?_))))))
   refine cb_ O O (M_ O (o_ O (cs_ O O (T_ (jc_condd O (fun hb=>?_) (fun hb=>?_))))))
   ·have e:L.any (fun w=>decide (w=s))=true:=List.any_eq_true.2 ⟨L[k],List.getElem_mem hlt',decide_eq_true hb⟩
    refine Zr ?_
    refine aw_ (jq_ret1 O O [] O (fun K h=>by rw [e] at h; exact h))
   ·refine as_ (Zk ?_)
    refine jq_againS (k+1) ⟨by omega,?_⟩ g_ ?_ ?_
    ·rw [List.take_succ_eq_append_getElem hlt',List.any_append,hno]
     simp only [List.any_cons,List.any_nil,Bool.or_false,Bool.false_or]
     exact decide_eq_false hb
    ·exact sub_end
    ·exact Ww
  ·obtain rfl:k=L.length:=by omega
   rw [List.take_length] at hno
   refine av_ (ax_ (ax_ (ba_ (al_ (R_ (E_ O (T_ (ar_ (jq_ret1 O O [] O (fun K h=>by rw [hno] at h; exact h))))))))))
end Go.Proofs.YtalkkcfojplmdaaGreatDoor
end