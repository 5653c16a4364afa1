/-
 Small ships; search.states and search.QI over a list that can be evaluate The examples of chapter 28. Blocks that are the call's own to write and whose places are Guards that are known to hold;
-/
import Derived.Test.YtbgfgnddogfpcaaGreatRefP
import Derived.Test.YtbgfgnddogfpcaaGreatXW
import Derived.Test.YtbgfgnddogfpcaaGreatIterJ
import Derived.Laws.CopyRow
import Derived.Test.YtbgfgnddogfpcaaGreatDraw2
set_option maxRecDepth 100000
namespace Go.Proofs.YtbgfgnddogfpcaaGreat
open Go.RowKit
open Go.RowKit Go.Sort

def rY (F:Nat) (s:Gf) (GU:AH) (ids:AE):List AG:=vR aG (((jG F s ids).map canon).filter fun l=>(Zz s GU l).getD false)
variable {s:Gf} {GU:AH} {ids:AE} {F:Nat}
theorem J61 (hr:Z8 s=some true) (hc:s.Columns.length<=1000) (ht:∀ c∈s.Columns,c.AC<=1000000) (hw:Whole GU ids) (hl:ids.length<=1000) (hF:ids.length < F) (hn:(jG F s ids).length<=1000000) :
  R4 F s GU ids=some (rY F s GU ids):=by
 have h5:ids.Nodup:=hw.sorted.imp fun h=>by omega
 refine Zs ?_;unfold R4;have h7:mH (s.Columns.length:Int)=some s.Columns.length:=by unfold mH; rw [P8 (by omega)]; simp
 refine H2 h7 (Yt (P8 ⟨by omega,Nat.le_trans hc (by decide),by omega⟩) ?_);refine H2 (x:=()) rfl ?_;refine H2 (Gdd s F ids (List.replicate s.Columns.length 0) (by simp) hc (fun h hh=>by rw [List.mem_replicate] at hh; omega) hF hl) ?_;show Wp (each _ _ (jG F s ids) 0 []) _
 have h8:(jG F s ids).Pairwise (fun a b=>¬ a.Perm b):=HG (by unfold aR; simp) (fun h hh=>by rw [List.mem_replicate] at hh; omega) h5;refine Q6 (fun pre s18=>s18=(pre.map canon).filter fun l=>(Zz s GU l).getD false) rfl (fun pre y post s18 nx e hI h6=>?_) (fun s18 hI=>?_)
 .have hy:y∈jG F s ids:=by rw [e]; simp
  obtain⟨w1,w2,w3⟩:=pP hy;have h9:y.length=ids.length:=by have:=w1.length_eq; simpa using this
  refine H2 (ZE (w1.nodup_iff.2 h5) (by omega)) ?_;have a8:(canon y).length=ids.length:=by rw [(eL y).length_eq,h9]
  obtain⟨b,hb,_⟩:=GT (GU:=GU) (l:=canon y) hr ht (by omega);refine H2 hb ?_;have a6:pre.length < (jG F s ids).length:=by rw [e]; simp
  have a9:s18.length<=pre.length:=by rw [hI]; exact Nat.le_trans (P3 ..) (by simp)
  refine Ja (fun a0=>?_) (fun a1=>?_)
  .refine Yt (P8 ⟨?_,?_⟩) (h6 _ ?_)
   .rw [Po]; omega
   .rw [Po]; exact Nat.le_trans (by omega:s18.length+1<=1000001) (by decide)
   .rw [hI,List.map_append,List.filter_append];simp [hb,a0]
  .refine h6 _ ?_;rw [hI,List.map_append,List.filter_append];simp [hb,a1]
 .have a2:s18.Pairwise (fun a b=>aG a b≠0):=by
   rw [hI];refine List.Pairwise.filter _ (List.pairwise_map.2 (h8.imp_of_mem fun {a b} ha hb hp hz=>hp ?_));have e1:=pN (pP ha).1 hw.sorted;have e2:=pN (pP hb).1 hw.sorted;have a3:canon a=canon b:=Gfa (by rw [e1,e2]) (RM hz);exact(eL a).symm.trans (by rw [a3]; exact eL b)
  have a7:s18.length<=1000000:=by rw [hI]; exact Nat.le_trans (P3 ..) (by simpa using hn)
  have h0:∀ a∈s18,∀ b∈s18,aG a b=0->a=b:=fun a ha b hb h=>by
   obtain⟨i,hi,rfl⟩:=List.mem_iff_getElem.1 ha;obtain⟨j,hj,rfl⟩:=List.mem_iff_getElem.1 hb;have hp:=List.pairwise_iff_getElem.1 a2;rcases Nat.lt_trichotomy i j with a4 | rfl | a5
   .exact(hp i j hi hj a4 h).elim
   .rfl
   .have:=fE.anti s18[i] s18[j];exact(hp j i hj hi a5 (by omega)).elim
  have h3:∀ r',r'.Perm s18->dV aG r'->r'=vR aG s18:=fun r' hp hs=>by
   refine List.Perm.eq_of_pairwise (le:=G0a aG) (fun a b ha hb h1 h2=>?_) (hs.imp fun h=>P7 h) (cT fE.ordc s18) (hp.trans (bU _ _).symm);have:=fE.anti a b;exact h0 a (hp.mem_iff.1 ha) b ((bU _ _).mem_iff.1 hb) (by omega)
  have h4:vI (fun z0 z1=>Zp z0 z1) s18=some (vR aG s18):=Gc7 aG xY (Gf9 fE.ordc) (by omega) (bU _ _) ((cT fE.ordc s18).imp fun h=>P9 h) h3;refine H2 h4 (Gt ?_);unfold rY;rw [hI]

def yK (st:Gf->AH->AE->Option (List AG)) (F:Nat) (s:Gf) (GU:AH) (AA:Int):Option (oT×Int×Int):=
 bnd (fK s GU AA) fun r4=>
 bif (!r4) then
 (some ((oT.mk [] []),0,5))
 else
 (need (decide (AA<=9223372036854775807)) <|
  upto (fun i53 (s53:(List (List AG))) nx53=>
   bnd (Zr GU (i53:Int)) fun r59=>
   bnd (st s GU r59) fun r60=>
   need (decide ((s53.length+[r60].length)*24<=140737488355328/\s53.length+[r60].length<=maxLen)) <|
   Jw (s53++[r60]) (i53:Int) fun y63=>
   bif decide ((y63.length:Int)=0) then
   (some ((oT.mk [] []),0,4))
   else
   (nx53 (s53++[r60])))
  (fun(s53:(List (List AG)))=>
   Jw s53 0 fun y73=>
   each (fun y99 i99 (s99:Int×(Hk H6 Gn)) nx99=>
    jp (fun kj102=>
     bnd (Rj F 0 (i99:Int) s99.2 AA s53 (fun z0 z1=>Qh F z0 z1 s GU)) fun r105=>
     bnd (Rj F 0 s99.1 r105.2 AA s53 (fun z0 z1=>Qh F z0 z1 s GU)) fun r106=>
     bif decide (r105.1.AR < r106.1.AR) then
     (kj102 ((i99:Int),r106.2))
     else
     (kj102 (s99.1,r106.2))) fun(j102:Int×(Hk H6 Gn))=>
    nx99 (j102.1,j102.2))
   (fun(s99:Int×(Hk H6 Gn))=>
    bnd (Rj F 0 s99.1 s99.2 AA s53 (fun z0 z1=>Qh F z0 z1 s GU)) fun r108=>
    need (decide (AA<=9223372036854775807)) <|
    upto (fun i152 (s152:Int×(List AG)×(List AE)×(Hk H6 Gn)) nx152=>
     Jw s53 (i152:Int) fun y158=>
     Jw y158 s152.1 fun y160=>
     need (decide ((s152.2.1.length+[y160].length)*24<=140737488355328/\s152.2.1.length+[y160].length<=maxLen)) <|
     bnd (Rj F (i152:Int) s152.1 s152.2.2.2 AA s53 (fun z0 z1=>Qh F z0 z1 s GU)) fun r163=>
     nx152 (r163.1.next,(s152.2.1++[y160]),s152.2.2.1,r163.2))
    (fun(s152:Int×(List AG)×(List AE)×(Hk H6 Gn))=>
     some ((oT.mk s152.2.1 s152.2.2.1),r108.1.AR,0)) AA.toNat 0 (s99.1,[],[],r108.2)) y73 0 (0,(Hk.empty:Hk H6 Gn))) AA.toNat 0 [])
theorem Q29 (F:Nat) (s:Gf) (GU:AH) (AA:Int):Rk F s GU AA=yK (R4 F) F s GU AA:=rfl
theorem J7f {W U:Type} {m:Option W} {k k':W->Option U} (h:∀ x,m=some x->k x=k' x):bnd m k=bnd m k':=by
 cases m with
 | none=>rfl
 | some x=>exact h x rfl
theorem H80 {st st':Gf->AH->AE->Option (List AG)} {AA:Int} (h:∀ (i:Int) r,Zr GU i=some r->st s GU r=st' s GU r):yK st F s GU AA=yK st' F s GU AA:=by
 unfold yK;have e:∀ {U:Type} (i:Int) (k:AE->List AG->Option U),bnd (Zr GU i) (fun r=>bnd (st s GU r) (k r))=bnd (Zr GU i) (fun r=>bnd (st' s GU r) (k r)):=fun i k=>J7f fun r hr=>by rw [h i r hr]
 congr 1;funext r4;congr 1;congr 1;congr 1;funext i53 s53 nx53;exact e _ _

theorem G60 {W:Type} (p:W->Bool) (l:List W) (x:W):(l++[x]).filter p=l.filter p++(bif p x then [x] else []):=by
 rw [List.filter_append];cases h:p x <;> simp [h]
theorem H73 (GU:AH) (k:Int) (hl:GU.length<=100000):Zr GU k=some (sK GU k):=by
 refine Zs ?_;unfold Zr sK;refine Q6 (fun pre s=>s=(pre.filter (abB k)).map (·.ID)) rfl (fun pre y post s nx e hs h0=>?_) (fun s hs=>Gt hs);subst hs;have hp:pre.length+1<=GU.length:=by rw [e]; simp
 have hf:=P3 (abB k) pre;refine oM (fun j=>j=((pre++[y]).filter (abB k)).map (·.ID)) (fun K hK=>Ja (fun h=>Yt (oQ (by simp only [Pr,Po]; omega) (by omega)) (hK _ ?_)) (fun h=>hK _ ?_)) (fun j hj=>h0 _ hj)
 .have h':abB k y=true:=h;rw [G60,h']; simp
 .have h':abB k y=false:=h;rw [G60,h']; simp
structure H9e (GU:AH):Prop where
 sorted:GU.Pairwise (fun a b=>a.ID < b.ID)
 size:∀ b∈GU,b.Size=40
theorem Q2b (h:GU.Pairwise (fun a b=>a.ID < b.ID)) {b:Box} (hb:b∈GU):bC GU b.ID=some b:=by
 unfold bC
 induction GU with
 | nil=>cases hb
 | cons x r ih=>
  rw [List.pairwise_cons] at h;rcases Pv.1 hb with rfl | hb
  .simp
  .have:=h.1 b hb;rw [List.find?_cons_of_neg (by simp; omega)];exact ih h.2 hb
theorem H9e.whole (h:H9e GU) (k:Int):Whole GU (sK GU k):=by
 refine⟨?_,fun id hid=>?_⟩
 .unfold sK;exact List.pairwise_map.2 ((h.sorted.filter _).imp fun h=>h)
 .unfold sK at hid;obtain⟨b,hb,rfl⟩:=Pt.1 hid;have h0:=(Pw.1 hb).1;exact⟨b,Q2b h.sorted h0,h.size b h0⟩
structure J16 (s:Gf):Prop where
 right:Z8 s=some true
 cols:s.Columns.length<=3
 tiers:∀ c∈s.Columns,0<=c.AC/\c.AC<=3
theorem Jf8 (hc:s.Columns.length<=3) (hl:ids.length<=4):(jG F s ids).length<=1000000:=by
 have h1:(aR s).length<=3:=by unfold aR; simpa using hc
 rcases Nat.eq_zero_or_pos (aR s).length with h0 | h0
 .unfold jG;cases F with
  | zero=>simp [gT]
  | succ F=>
   rw [qJ,h0];cases ids.isEmpty <;> simp
 .have:=G1f (ts:=aR s) (m:=4) (by omega) (F:=F) (ids:=ids) (hs:=List.replicate s.Columns.length 0) hl;refine Nat.le_trans this (Nat.le_trans (Nat.pow_le_pow_left (show (aR s).length*4<=12 by omega) _) (Nat.le_trans (Nat.pow_le_pow_right (by omega) hl) (by decide)))
theorem Gc5 (hs:J16 s) (hw:Whole GU ids) (hl:ids.length<=4) (hF:ids.length < F):R4 F s GU ids=some (rY F s GU ids):=
 J61 hs.right (by have:=hs.cols; omega) (fun c hc=>by have:=hs.tiers c hc; omega) hw (by omega) hF (Jf8 hs.cols hl)
theorem G59 {AA:Int} (hs:J16 s) (hb:H9e GU) (hl:GU.length<=4) (hF:GU.length < F):Rk F s GU AA=yK (fun s GU ids=>some (rY F s GU ids)) F s GU AA:=by
 rw [Q29];refine H80 fun i r hr=>?_;rw [H73 GU i (by omega)] at hr;cases hr;have:=G6c GU i;exact Gc5 hs (hb.whole i) (by omega) (by omega)

def tw (n:Nat):Gf:=Gf.mk ((List.range n).map fun(i:Nat)=>G5.mk 0 (i:Int) false 2 0 0 0 0 [] 0 0 0) [] (Light.mk 0 0 0 0) [] [] [] (Gk.mk 0 0 0 0)
def bxA:AH:=[(Box.mk 1 ByteArray.empty 40 false 0 0 2 0 false),(Box.mk 2 ByteArray.empty 40 false 0 1 3 0 false)]
def bxB:AH:=[(Box.mk 1 ByteArray.empty 40 false 0 0 1 0 false),(Box.mk 2 ByteArray.empty 40 false 0 0 1 0 false),(Box.mk 3 ByteArray.empty 40 false 0 0 1 0 false)]
theorem HU {n:Nat} (h:1<=n/\n<=3):J16 (tw n):=by
 have h:n=1\/n=2\/n=3:=by omega
 rcases h with rfl | rfl | rfl <;> exact⟨by kernel_rfl,by decide,by decide⟩
theorem Ge2:H9e bxA:=⟨by unfold bxA; simp,by unfold bxA; simp⟩
theorem J7e:H9e bxB:=⟨by unfold bxB; simp,by unfold bxB; simp⟩
theorem Jf7:Whole bxA [1,2]:=⟨by simp,fun id hid=>by
 simp at hid;rcases hid with rfl | rfl
 .exact⟨_,rfl,rfl⟩
 .exact⟨_,rfl,rfl⟩⟩
theorem J44:Yj 60=some true:=by
 have t1:Jx 1=some (tw 1):=by kernel_rfl
 have t2:Jx 2=some (tw 2):=by kernel_rfl
 have t3:Jx 3=some (tw 3):=by kernel_rfl
 have t4:Jx 4=some (tw 4):=by kernel_rfl
 have l1:Rk 60 (tw 1) bxA 4=yK (fun s GU ids=>some (rY 60 s GU ids)) 60 (tw 1) bxA 4:=G59 (HU (by decide)) Ge2 (by decide) (by decide);have l2:Rk 60 (tw 2) bxA 4=yK (fun s GU ids=>some (rY 60 s GU ids)) 60 (tw 2) bxA 4:=G59 (HU (by decide)) Ge2 (by decide) (by decide);have l3:Rk 60 (tw 1) bxB 2=yK (fun s GU ids=>some (rY 60 s GU ids)) 60 (tw 1) bxB 2:=G59 (HU (by decide)) J7e (by decide) (by decide);have s1:R4 60 (tw 2) bxA [1,2]=some (rY 60 (tw 2) bxA [1,2]):=Gc5 (HU (by decide)) Jf7 (by decide) (by decide);unfold Yj;rw [t1,jJ];show bnd (Rk 60 (tw 1) bxA 4) _=_
 rw [l1,t2];simp only [jJ];show bnd _ (fun r5=>bnd (Rk 60 (tw 2) bxA 4) _)=_
 rw [l2];unfold R5;show bnd _ (fun r5=>bnd _ fun r8=>bnd (bnd _ fun r4=>bif _ then _ else each _ (fun _=>bnd _ fun r43=>bif _ then _ else bnd (R4 60 (tw 2) bxA [1,2]) _) _ _ _) fun r11=>bnd (Rk 60 (tw 1) bxB 2) _)=_
 rw [s1,l3];kernel_rfl
set_option linter.unusedVariables false

abbrev PT (b off:Nat):AV:=.sc (.pointer (some ⟨b,off,none⟩))
abbrev SL (b off n cap:Nat):AV:=.sc (.slice (some ⟨b,off,none⟩) n cap)

section moves
variable {w:World} {U:Gx} {L:Loc} {i t b:Nat} {cs cs':AD}
theorem vL (h0:Sat w U L) (hi:lk L i=some (.pin t b cs)):U i=some b/\∃ vs:Array Value,w.heap[b]? = some (.cells vs t (0,0))/\vs.size=cs.length/\∀ (j:Nat) u v,cs[j]? = some u->vs[j]? = some v->D w (Hs w U L) u v:=h0.obj i _ hi

theorem JM {w':World} (h0:Sat w U L) (hi:lk L i=some (.pin t b cs)) (a2:w'.os=w.os) (a3:w'.tape=w.tape) (a0:w'.output=w.output/\w.drawn<=w'.drawn) (h8:w.heap.size<=w'.heap.size)
  (h6:∀ b',b' < w.heap.size->b'≠b->w'.heap[b']? = w.heap[b']?) (vs:Array Value) (a1:w'.heap[b]? = some (.cells vs t (0,0))) (hl:vs.size=cs'.length) (h:∀ (j:Nat) u v,cs'[j]? = some u->vs[j]? = some v->D w (Hs w U L) u v) :
  Step w U L w' U ((i,.pin t b cs')::L)/\Sat w' U ((i,.pin t b cs')::L):=by
 obtain⟨hb,old,a5,a6,a7⟩:=vL h0 hi;have h9:∀ id b',(lk L id).isSome=true->U id=some b'->i≠id->w'.heap[b']? = w.heap[b']? := fun id b' h1 h2 h5=>
  h6 b' (h0.bnd id b' h1 h2) (fun e=>h5 (by subst e; exact h0.inj i id b' (by rw [hi]; rfl) h1 hb h2))
 have st:Step w U L w' U ((i,.pin t b cs')::L):=by
  refine⟨a2,a3,a0,h8,fun _ _ _=>Iff.rfl,fun b' j hs=>?_,fun b' a4 hf=>?_,fun id t' cs'' hid=>?_,fun id t' es hid=>?_,fun id t' n es hid=>?_,fun id t' k ver xs hid=>?_,fun id t' k ver hw hid=>?_⟩
  .have h5:b'≠b:=fun e=>by subst e; exact hs.kept i _ hi hb
   refine⟨⟨P0 hs.lt h8,hs.seen,fun id o hid h7=>?_⟩,Jc (w:=w) (h6 b' hs.lt h5)⟩;rw [Ge] at hid;by_cases e:i=id
   .subst e; rw [hb] at h7; exact absurd (Pc h7) (Ne.symm h5)
   .rw [if_neg e] at hid; exact hs.kept id o hid h7
  .have h5:b'≠b:=fun e=>by subst e; exact hf i (by rw [hi]; rfl) hb
   refine⟨h6 b' a4 h5,fun id hid=>?_⟩;rw [Ge] at hid;by_cases e:i=id
   .subst e; rw [hb]; exact fun e=>h5 (Pc e).symm
   .rw [if_neg e] at hid; exact hf id hid
  .exact⟨rfl,cs'',by rw [Ge,if_neg (fun e=>by subst e; rw [hi] at hid; cases hid)]; exact hid⟩
  .exact⟨rfl,es,by rw [Ge,if_neg (fun e=>by subst e; rw [hi] at hid; cases hid)]; exact hid⟩
  .exact⟨rfl,n,es,by rw [Ge,if_neg (fun e=>by subst e; rw [hi] at hid; cases hid)]; exact hid⟩
  .have e:i≠id:=fun e=>by subst e; rw [hi] at hid; cases hid
   exact⟨ver,xs,by rw [Ge,if_neg e]; exact hid,Pf,fun _=>⟨rfl,rfl,fun b' h3=>bK (h9 id b' (by rw [hid]; rfl) h3 e)⟩⟩
  .have e:i≠id:=fun e=>by subst e; rw [hi] at hid; cases hid
   exact⟨ver,hw,by rw [Ge,if_neg e]; exact hid,Pf,fun _=>⟨rfl,rfl,fun b' h3=>h9 id b' (by rw [hid]; rfl) h3 e⟩⟩
 have h4:∀ id,(lk ((i,Jb.pin t b cs')::L) id).isSome=true->(lk L id).isSome=true:=fun id h=>by
  rw [Ge] at h;by_cases e:i=id
  .subst e; rw [hi]; rfl
  .rwa [if_neg e] at h
 refine⟨st,fun b i h=>P0 (h0.hid b i h) h8,fun id b' hid h3=>P0 (h0.bnd id b' (h4 id hid) h3) h8,fun id b' j hid h3=>h0.apart id b' j (h4 id hid) h3,fun id id' b' h1 h2=>h0.inj id id' b' (h4 id h1) (h4 id' h2),fun id ob hid=>?_⟩;rw [Ge] at hid;by_cases e:i=id
 .subst e;simp at hid; subst hid;exact⟨hb,vs,a1,hl,fun j u v hu hv=>(h j u v hu hv).mono st.AX⟩
 .rw [if_neg e] at hid;exact(h0.obj id ob hid).step st (fun b' h3=>h9 id b' (by rw [hid]; rfl) h3 e)
theorem J33 {w':World} (h5:Sat w U L) (hi:lk L i=none) (a3:w'.os=w.os) (a4:w'.tape=w.tape) (a2:w'.output=w.output/\w.drawn<=w'.drawn) (vs:Array Value) (hh:w'.heap=w.heap.push (.cells vs t (0,0))) (hl:vs.size=cs.length)
  (h:∀ (j:Nat) u v,cs[j]? = some u->vs[j]? = some v->D w (Hs w U L) u v) :
  Step w U L w' (upP U i (some w.heap.size)) ((i,.pin t w.heap.size cs)::L)/\Sat w' (upP U i (some w.heap.size)) ((i,.pin t w.heap.size cs)::L):=by
 have ne:∀ {id},(lk L id).isSome=true->i≠id:=fun {id} h e=>by subst e; rw [hi] at h; cases h
 have h9:∀ b',b' < w.heap.size->w'.heap[b']? = w.heap[b']? := fun b' h0=>by rw [hh,Array.getElem?_push,if_neg (by omega)]
 have a0:w.heap.size<=w'.heap.size:=by rw [hh,Array.size_push]; omega
 have h6:∀ {id},i≠id->(upP U i (some w.heap.size)).at_ id=U.at_ id:=fun e=>by simp [upP,Ne.symm e]
 have h7:(upP U i (some w.heap.size)).at_ i=some w.heap.size:=by simp [upP]
 have st:Step w U L w' (upP U i (some w.heap.size)) ((i,.pin t w.heap.size cs)::L):=by
  refine⟨a3,a4,a2,a0,fun _ _ _=>Iff.rfl,fun b' j hs=>⟨⟨P0 hs.lt a0,hs.seen,fun id o hid h8=>?_⟩,Jc (w:=w) (h9 b' hs.lt)⟩,fun b' h0 hf=>⟨h9 b' h0,fun id hid e=>?_⟩,fun id t' cs'' hid=>?_,fun id t' es hid=>?_,fun id t' n es hid=>?_,fun id t' k ver xs hid=>?_,fun id t' k ver hw hid=>?_⟩
  .rw [Ge] at hid;by_cases e:i=id
   .subst e; rw [show (upP U i (some w.heap.size)) i=some w.heap.size from h7] at h8; have:=hs.lt; cases h8; omega
   .rw [if_neg e] at hid; rw [show (upP U i (some w.heap.size)) id=U id from h6 e] at h8; exact hs.kept id o hid h8
  .rw [Ge] at hid;by_cases e':i=id
   .subst e'; rw [show (upP U i (some w.heap.size)) i=some w.heap.size from h7] at e; cases e; omega
   .rw [if_neg e'] at hid; rw [show (upP U i (some w.heap.size)) id=U id from h6 e'] at e; exact hf id hid e
  .have e:=ne (id:=id) (by rw [hid]; rfl); exact⟨h6 e,cs'',by rw [Ge,if_neg e]; exact hid⟩
  .have e:=ne (id:=id) (by rw [hid]; rfl); exact⟨h6 e,es,by rw [Ge,if_neg e]; exact hid⟩
  .have e:=ne (id:=id) (by rw [hid]; rfl); exact⟨h6 e,n,es,by rw [Ge,if_neg e]; exact hid⟩
  .have e:=ne (id:=id) (by rw [hid]; rfl);exact⟨ver,xs,by rw [Ge,if_neg e]; exact hid,Pf,fun _=>⟨rfl,h6 e,fun b' h0=>bK (h9 b' (h5.bnd id b' (by rw [hid]; rfl) h0))⟩⟩
  .have e:=ne (id:=id) (by rw [hid]; rfl);exact⟨ver,hw,by rw [Ge,if_neg e]; exact hid,Pf,fun _=>⟨rfl,h6 e,fun b' h0=>h9 b' (h5.bnd id b' (by rw [hid]; rfl) h0)⟩⟩
 refine⟨st,fun b i h=>P0 (h5.hid b i h) a0,fun id b' hid h0=>?_,fun id b' j hid h0 a1=>?_,fun id id' b' h1 h2 h3 h4=>?_,fun id o hid=>?_⟩
 .rw [Ge] at hid;by_cases e:i=id
  .subst e; rw [show (upP U i (some w.heap.size)) i=some w.heap.size from h7] at h0; cases h0; rw [hh,Array.size_push]; omega
  .rw [if_neg e] at hid; rw [show (upP U i (some w.heap.size)) id=U id from h6 e] at h0; exact P0 (h5.bnd id b' hid h0) a0
 .rw [Ge] at hid;by_cases e:i=id
  .subst e; rw [show (upP U i (some w.heap.size)) i=some w.heap.size from h7] at h0; cases h0; have:=h5.hid _ _ a1; omega
  .rw [if_neg e] at hid; rw [show (upP U i (some w.heap.size)) id=U id from h6 e] at h0; exact h5.apart id b' j hid h0 a1
 .rw [Ge] at h1 h2;by_cases e:i=id
  .by_cases e':i=id'
   .rw [<- e,e']
   .subst e;rw [if_neg e'] at h2;rw [show (upP U i (some w.heap.size)) i=some w.heap.size from h7] at h3; cases h3;rw [show (upP U i (some w.heap.size)) id'=U id' from h6 e'] at h4;have:=h5.bnd id' _ h2 h4; omega
  .rw [if_neg e] at h1;rw [show (upP U i (some w.heap.size)) id=U id from h6 e] at h3;by_cases e':i=id'
   .subst e';rw [show (upP U i (some w.heap.size)) i=some w.heap.size from h7] at h4; cases h4;have:=h5.bnd id _ h1 h3; omega
   .rw [if_neg e'] at h2;rw [show (upP U i (some w.heap.size)) id'=U id' from h6 e'] at h4;exact h5.inj id id' b' h1 h2 h3 h4
 .rw [Ge] at hid;by_cases e:i=id
  .subst e;simp at hid; subst hid;refine⟨h7,vs,by rw [hh]; simp,hl,fun j u v hu hv=>(h j u v hu hv).mono st.AX⟩
  .rw [if_neg e] at hid;rw [show (upP U i (some w.heap.size)) id=U id from h6 e];exact(h5.obj id o hid).step st (fun b' h0=>h9 b' (h5.bnd id b' (by rw [hid]; rfl) h0))
end moves

section ops
variable {P:Program} {N:Cfg} {o:Oper} {l:Fr} {L:Loc} {u:AV}
variable {E T cap n:Nat} {x:Operand}
theorem sW {k':Nat} {a:Option Addr} (ho:o.op=.call { callee:=.builtin .len,args:=#[x],argTypes:=#[T] }) (hT:sliceB P T E k'=true) (hx:ev l x=.sc (.slice a n cap)):Gy P o l L (Is (.sc (.int .i64 n)) L):=
 Hj fun a w U _ hf=>by
  have h:=hf.ev x;rw [hx] at h;exact⟨.int .i64 n,by simp [execOp,ho,resolve,invoke,builtin,Builtin.len_,underlying,(sliceB.out hT).1,h.inv_sc,goInt],.sc⟩
variable {b k off:Nat}
theorem Qa8 {ix:Operand} {kd:IntKind} {z:Int} {m:Nat} (ho:o.op=.indexAddr T x ix) (hx:ev l x=SL b off n cap) (hi:ev l ix=.sc (.int kd z)) (hT:sliceB P T E k=true) (hz:z=(m:Int)) (hm:m < n):Gy P o l L (Is (PT b (off+m*k)) L):=
 Hj fun a w U _ hf=>by
  subst hz;have h1:=hf.ev x;rw [hx] at h1;have h2:=hf.ev ix;rw [hi] at h2;have hr:=Q8 (sliceB.out hT).2 w;refine⟨_,?_,.sc⟩;simp [execOp,ho,Instr.indexAt,h2.inv_sc,h1.inv_sc,asIntOf,underlying,(sliceB.out hT).1,hm,hr,Addr.add_lit]
variable {cs:AD} {i:Nat}
theorem J23 {t:Nat} {ds:AD} (ho:o.op=.load T x) (hx:ev l x=PT b off) (hT:gQ P T k=true) (hi:lk L i=some (.pin t b cs)) (h2:takeN k (cs.drop off)=some ds):Gy P o l L (Is (.agg ds) L):=
 Hj fun a w U h0 hf=>by
  have h1:=hf.ev x;rw [hx] at h1;obtain⟨hb,vs,g1,g2,g3⟩:=vL h0 hi;obtain⟨rfl,hk⟩:=xK h2;rw [List.length_drop] at hk;rcases Nat.eq_zero_or_pos k with rfl | h3
  .have hr:=fA (P:=P) (b:=b) (o':=off) (vs:=[]) hT rfl (w:=w) (fun j v h=>by simp at h);refine⟨.agg #[],by simp [execOp,ho,h1.inv_sc,hr],?_⟩;exact .agg (by simp) (fun j u v hu hv=>by simp at hu)
  .have hl:((vs.toList.drop off).take k).length=k:=by rw [List.length_take,List.length_drop,Array.length_toList]; omega
   have hr:=fA (P:=P) (b:=b) (o':=off) (vs:=(vs.toList.drop off).take k) hT hl (w:=w) (fun j v h=>by
    have hj:j < k:=by have:=(Pa h).1; omega
    rw [Pk,if_pos hj,Pm] at h;have h4:off+j < vs.size:=by omega
    simp only [Array.getElem?_toList] at h;simpa [World.cell?,g1] using h)
   refine⟨.agg ((vs.toList.drop off).take k).toArray,by simp [execOp,ho,h1.inv_sc,hr],?_⟩;refine .agg (by simp only [List.size_toArray,hl,List.length_take,List.length_drop]; omega) (fun j u v hu hv=>?_);have hj:j < k:=by
    have:=(Pa hu).1;rw [List.length_take] at this; omega
   rw [Pk,if_pos hj,Pm] at hu;simp only [List.getElem?_toArray,Pk,if_pos hj,Pm,Array.getElem?_toList] at hv;exact .data (g3 (off+j) u v hu hv)
theorem Jdf {y:Operand} {t:TypeId} (ho:o.op=.store T x y) (hx:ev l x=PT b off) (hT:R3 P T k=true) (hu:ev l y=u) (hi:lk L i=some (.pin t b cs)) (hc:u.BI=true) (hd:Qr (fun _=>false) u.cells=true) (hk:u.cells.length=k) (h9:off+k<=cs.length) :
  Gy P o l L (Is .AL ((i,.pin t b (cs.take off++u.cells++cs.drop (off+k)))::L)):=by
 subst hu;intro a w U K Q h3 hf hK;have h1:=hf.ev x;rw [hx] at h1;obtain⟨hb,old,h4,a0,h5⟩:=vL h3 hi;obtain⟨c1,c2,c3⟩:=(hf.ev y).cells hc;have hr:=nP (P:=P) (off:=off) hT (c1.trans hk) c3 h4 (by omega);unfold Oper.wp;have h6:(execOp a.eval o).run P w=.ok .skip (w.setRow b (old.toList.take off++(a.eval y).cells.toList++old.toList.drop (off+k)).toArray):=by
  simp [execOp,ho,h1.inv_sc,hr]
 rw [h6];obtain⟨st,sat⟩:=JM (cs':=cs.take off++(ev l y).cells++cs.drop (off+k)) (w':=w.setRow b (old.toList.take off++(a.eval y).cells.toList++old.toList.drop (off+k)).toArray) h3 hi rfl rfl ⟨rfl,Pf⟩ (by simp) (fun b' _ h7=>setRow_other w b b' _ h7) _ (setRow_heap w b old _ t (0,0) h4)
  (by simp [c1]; omega) (fun j u v hu hv=>by
   have h0:(old.toList.take off++(a.eval y).cells.toList++old.toList.drop (off+k))[j]? = some v:=by simpa using hv
   have a1:off<=old.toList.length:=by rw [Array.length_toList]; omega
   rcases P4 j off with h | h
   .rw [List.append_assoc,Ph (by simp; omega),Pk,if_pos h] at hu h0;exact h5 j u v hu (by simpa using h0)
   .rcases P4 j (off+k) with h2 | h2
    .rw [Ph (by simp; omega),Pg (by simp; omega)] at hu h0;simp only [List.length_take] at hu h0;rw [Nat.min_eq_left (by omega)] at hu h0;exact(c2 _ u v hu (by simpa using h0)).toD (Yz hd u (Pd hu))
    .have h8:((a.eval y).cells.toList).length=k:=by rw [Array.length_toList]; omega
     rw [Pg (by simp; omega)] at hu h0;simp only [Pn,List.length_take,Pm,h8,hk] at hu h0;rw [Nat.min_eq_left (by omega)] at hu h0;rw [show off+k+(j - (off+k))=j by omega] at hu h0;exact h5 j u v hu (by simpa using h0))
 exact hK _ _ _ _ U ⟨rfl,rfl⟩ sat st .AL
theorem G4a (w:World) (t ty e:TypeId) (i:TypeInfo) (ht:P.underlying t=some (.slice e)) (hi:P.info? e=some i)
  (b off sLen sCap:Nat) (old:Array Value) (hold:w.heap[b]? = some (.cells old e (0,0))) (a:Addr) (m c:Nat) (news:AK) (hl:news.length=m*i.size) (h0:∀ j u,news[j]? = some u->w.cell? (a.add j)=some u) (h1:∀ u∈news,u.oneCell'=true)
  (h2:sLen+m<=sCap) (h4:off+sLen*i.size+news.length<=old.size) :
  (Builtin.append_ #[t,t] ty #[.slice (some ⟨b,off,none⟩) sLen sCap,.slice (some a) m c]).run P w=.ok (.slice (some ⟨b,off,none⟩) (sLen+m) sCap) (w.setRow b (old.toList.take (off+sLen*i.size)++news++old.toList.drop (off+sLen*i.size+news.length)).toArray):=by
 have h5:=run_firstCells_some (P:=P) w i.size m a m c news hl h0;have h3:=run_storeCells_at P b (off+sLen*i.size) e news 0 old w hold (by simpa using h4) h1;simp only [Nat.add_zero] at h3;simp [Builtin.append_,run_underlying ht,sizeOf,typeInfo,hi,Builtin.lenOf,h2,h5,Addr.add_lit,h3]
theorem H74 {w:World} {U:Gx} {L:Loc} {us:AD} {old ws:AK} (h3:old.length=cs.length) (h4:ws.length=us.length) (h0:off+us.length<=cs.length)
  (h:∀ (j:Nat) u v,cs[j]? = some u->old[j]? = some v->D w (Hs w U L) u v) (h':∀ (j:Nat) u v,us[j]? = some u->ws[j]? = some v->D w (Hs w U L) u v) :
  ∀ (j:Nat) u v,(cs.take off++us++cs.drop (off+us.length))[j]? = some u->(old.take off++ws++old.drop (off+us.length))[j]? = some v->D w (Hs w U L) u v:=by
 intro j u v hu hv;rcases P4 j off with h1 | h1
 .rw [List.append_assoc,Ph (by simp; omega),Pk,if_pos h1] at hu hv;exact h j u v hu hv
 .rcases P4 j (off+us.length) with h2 | h2
  .rw [Ph (by simp; omega),Pg (by simp; omega)] at hu hv;simp only [List.length_take] at hu hv;rw [Nat.min_eq_left (by omega)] at hu hv;exact h' _ u v hu hv
  .rw [Pg (by simp; omega)] at hu hv;simp only [Pn,List.length_take,Pm] at hu hv;rw [Nat.min_eq_left (by omega)] at hu hv;rw [show off+us.length+(j - (off+us.length))=j by omega] at hu;rw [show off+us.length+(j - (off+ws.length))=j by omega] at hv;exact h j u v hu hv
theorem Qaa {s:Operand} {by_ kx:Nat} {ys:AD} (ho:o.op=.call { callee:=.builtin .append,args:=#[s,x],argTypes:=#[T,T] }) (hs:ev l s=SL b off n cap) (hi:lk L i=some (.pin E b cs)) (hx:Jv (ev l x)=some (kx,ys))
  (hT:sliceB P T E k=true) (hE:Qa P E k by_=true) (h7:∀ y∈ys,y.BI=true) (hk:kx=k) (b1:0 < ys.length) (h3:n+ys.length<=cap) (b2:off+cap*k<=cs.length) :
  Gy P o l L (Is (SL b off (n+ys.length) cap) ((i,.pin E b (cs.take (off+n*k)++flat ys++cs.drop (off+n*k+(flat ys).length)))::L)):=by
 subst hk;intro a w U K Q h4 hf hK;have h1:=hf.ev s;rw [hs] at h1;obtain⟨hb,old,h8,a5,a6⟩:=vL h4 hi;have hd:=(hf.ev x).Jv hx;obtain⟨ao,c,h9,_,_⟩:=hd.len;rw [h9] at hd;obtain⟨_,a7,a8,vals,h0,a9,a0⟩:=hd.vals;obtain⟨inf,zv,e1,e2,e3,e4,e5,e6⟩:=Qa.out hE;cases ao with
 | none=>have:=a8 rfl; omega
 | some ad=>
  have h5:(flat ys).length=ys.length*kx:=J2 a7;have a2:(n+ys.length)*kx<=cap*kx:=Nat.mul_le_mul_right _ h3;rw [Nat.add_mul] at a2;have a3:∀ u∈vals,u.oneCell'=true:=fun u hu=>by
   obtain⟨j,hj⟩:=List.getElem?_of_mem hu;have a1:j < (flat ys).length:=by have:=(Pa hj).1; omega
   obtain⟨x',h2,h6⟩:=a0 j _ (Pb a1);rw [hj] at h2; cases h2;exact(V.data (U:=U) (L:=L) h6).cell (kS h7 (List.getElem_mem a1))
  have hr:=G4a (P:=P) w T o.type E inf (sliceB.out hT).1 e1 b off n cap old h8 ad ys.length c vals (by rw [h0,h5,e2]) (fun j u hu=>a9 ad j u rfl hu) a3 h3 (by rw [e2,h0,h5]; omega);have a4:(execOp a.eval o).run P w=.ok (.value (.slice (some ⟨b,off,none⟩) (n+ys.length) cap)) (w.setRow b (old.toList.take (off+n*inf.size)++vals++old.toList.drop (off+n*inf.size+vals.length)).toArray):=by
   simp [execOp,ho,resolve,invoke,builtin,h1.inv_sc,h9,hr]
  unfold Oper.wp;rw [a4];rw [e2,h0];obtain⟨st,sat⟩:=JM (cs':=cs.take (off+n*kx)++flat ys++cs.drop (off+n*kx+(flat ys).length)) (w':=w.setRow b (old.toList.take (off+n*kx)++vals++old.toList.drop (off+n*kx+(flat ys).length)).toArray) h4 hi rfl rfl ⟨rfl,Pf⟩ (by simp) (fun b' _ b0=>setRow_other w b b' _ b0) _ (setRow_heap w b old _ E (0,0) h8)
   (by simp [h0]; omega) (fun j u v hu hv=>H74 (old:=old.toList) (ws:=vals) (by rw [Array.length_toList]; exact a5) h0 (by rw [h5]; omega) (fun j u v hu hv=>a6 j u v hu (by simpa using hv)) (fun j u v hu hv=>by
    obtain⟨x',h2,h6⟩:=a0 j u hu;rw [hv] at h2; cases h2;exact h6) j u v hu (by simpa using hv))
  exact hK _ _ _ _ U ⟨rfl,rfl⟩ sat st .sc
end ops

/-! ### A guard that is known to hold -/
section guards
variable {P:Program} {N:Cfg} {ops:Array Oper} {o:Oper} {rest:AM} {Q:Post} {l:Fr} {L L':Loc} {u:AV}
theorem aI {j dj d:Nat} {want:Bool} {gv:AV} (hg:o.guard=some (j,want)) (hj:(ops[j]?).bind (·.dst)=some dj) (h2:look l dj=gv) (h3:rA gv want true) (h:Gy P o l L (Is u L')) (hk:JL P N ops rest Q ((d,u)::l) L')
  (hd:o.dst=some d) (hn:Nat.blt d N.n=true) (h4:Nat.blt dj N.n=true) (h5:bL o=true:=by rfl):JL P N ops (o::rest) Q l L:=by
 subst h2;intro n w0 U0 L0 a w U hs;have hw:=h3.wanted (ops:=ops) hs.frame (P0 (by simpa [Nat.blt_eq] using h4) hs.size) hg hj;have h6:d < a.tmps.size:=P0 (by simpa [Nat.blt_eq] using hn) hs.size;refine wpListIn_step fun K hK=>?_;rw [hw,if_pos rfl];refine kI h5 (h a w U K _ hs.sat hs.frame ?_);intro u' L'' v w' U' hr h1 h0 hv;obtain⟨rfl,rfl⟩:=hr;rw [hd];exact hK _ _ (hk n w0 U0 L0 _ w' U' ⟨h1,hs.step.trans h0,(hs.frame.step h0).put h6 hv,by rw [Act.put_size]; exact hs.size,hs.base,by rw [Act.put_defers']; exact hs.defers.step h0⟩)
theorem jM {j dj:Nat} {want:Bool} {gv:AV} (hg:o.guard=some (j,want)) (hj:(ops[j]?).bind (·.dst)=some dj) (h1:look l dj=gv) (h2:rA gv want true) (h:Gy P o l L (Is u L')) (h3:Nat.blt dj N.n=true:=by rfl):cV P N ops o l L u L':=by
 subst h1;intro a w U K Q h0 hf hn hK;have hw:=h2.wanted (ops:=ops) hf (P0 (by simpa [Nat.blt_eq] using h3) hn) hg hj;rw [hw,if_pos rfl];exact h a w U K Q h0 hf (fun u' L'' v w' U' hr=>by obtain⟨rfl,rfl⟩:=hr; exact hK v w' U')
theorem mA {c x y:Operand} (b:Bool) (ho:o.op=.pick c x y) (hc:ev l c=.sc (.bool b)) (hu:(bif b then ev l x else ev l y)=u):Gy P o l L (Is u L):=by
 subst hu;exact Qa9 ho hc
end guards
end Go.Proofs.YtbgfgnddogfpcaaGreat
