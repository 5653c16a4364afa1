/-
 Small ships; search.states and search.jN over a list that can be evaluate The examples of chapter 28. The memo of search.jN: SearchAll. SearchAll. jN: The search's sum is the least of all paths.
-/
import Derived.Test.YtibhpogonkdiaaaGreatSeaE
import Derived.Test.YtibhpogonkdiaaaGreatXW
set_option maxRecDepth 100000
namespace Go.Proofs.YtibhpogonkdiaaaGreat
open Go.RowKit

def limit (c:G7):G7:=G7.mk c.Bay c.Row c.Deck (min c.Tiers 3) c.Height c.BN c.BM c.Lash c.BO c.X c.Y c.Z
structure jA (s:Gc):Prop where
 built:pI s
 few:s.AB.length<=3
 low:∀ c∈s.AB,2<=c.Tiers∧c.Tiers<=3
theorem QR (l:List Hc) (BB:Int) (hp:∀ p∈l,vF p):Wp (Y5 l BB) jA:=by
 unfold Y5;refine H6 (aY (m:=min l.length 3) (by omega) (by omega) ?_);refine H6 (wp_mono (ZX (l.take (min l.length 3)) BB fun p h=>hp p (List.mem_of_mem_take h)) fun s0 h0=>?_);obtain⟨h0,h3⟩:=h0;rw [List.length_take] at h3;refine Ja (fun pre s28=>s28=pre.map limit++s0.AB.drop pre.length) (by simp) (fun pre y post s28 nx e hI h2=>?_) (fun s28 hI=>Gx ?_)
 ·have hd:s0.AB.drop pre.length=y::post:=by rw [e]; simp
  have hy:s28[pre.length]? = some y:=by rw [hI,hd]; simp
  refine Jk (m:=pre.length) rfl hy (Jk (m:=pre.length) rfl hy (h2 _ ?_));have h4:s0.AB.drop (pre++[y]).length=post:=by rw [e]; simp
  rw [Int.toNat_natCast,hI,hd,h4];rw [List.set_append_right _ _ (by simp)];simp [limit]
 ·rw [hI,List.drop_length,List.append_nil];have hc:=h0.BU;refine⟨⟨by simpa using h0.some,⟨by simpa using hc.len,fun c hm=>?_,?_⟩,h0.covs⟩,by simp; omega,fun c hm=>?_⟩
  ·obtain⟨c,h1,rfl⟩:=Su.1 hm;obtain⟨a1,a2,a3,a4,a5,a6,a7,a8,a9,a10,a11⟩:=hc.each c h1;exact⟨a1,a2,by show 2<=min c.Tiers 3∧min c.Tiers 3<=5; omega,a4,a5,a6,a7,a8,a9,a10,a11⟩
  ·rw [List.map_map];exact hc.nodup
  ·obtain⟨c,h1,rfl⟩:=Su.1 hm;have:=(hc.each c h1).BS;show 2<=min c.Tiers 3∧min c.Tiers 3<=3
   omega
variable {s:Gc}
theorem jA.right (h:jA s):Jh s=some true:=ZY h.built
theorem Jf5 (h:∀ c∈s.AB,0<=c.Tiers∧c.Tiers<=3):Wp (Zz s) (fun t=>t<=3):=by
 unfold Zz;refine Ja (fun pre t=>t<=3) (by omega) (fun pre y post t nx e hI h0=>?_) (fun t hI=>Gx hI);have:=h y (by rw [e]; simp);exact Rz (fun t=>t<=3) (fun K hK=>Hr (fun _=>hK _ this.2) (fun _=>hK _ hI)) (fun t ht=>h0 _ ht)
theorem little (h1:s.AB.length<=3) (h2:∀ c∈s.AB,0<=c.Tiers∧c.Tiers<=3):Qt s=some true:=by
 refine eF ?_;unfold Qt;have hd:decide ((s.AB.length:Int)<=3)=true:=S8 (by omega);rw [hd];exact H6 (wp_mono (Jf5 h2) fun t ht=>Gx (by rw [S8 ht]; rfl))
open Go.RowKit Go.Sort

def bW (F:Nat) (s:Gc) (AA:AH) (ids:AD):List AE:=tD aG (((fR F s ids).map canon).filter fun l=>(Qq s AA l).getD false)
variable {AA:AH} {ids:AD} {F:Nat}
theorem J64 (hr:Jh s=some true) (hc:s.AB.length<=1000) (ht:∀ c∈s.AB,c.Tiers<=1000000) (hw:Whole AA ids) (hl:ids.length<=1000) (hF:ids.length < F) (hn:(fR F s ids).length<=1000000) :
  Qs F s AA ids=some (bW F s AA ids):=by
 have h5:ids.Nodup:=hw.sorted.imp fun h=>by omega
 refine eF ?_;unfold Qs;have h7:lM (s.AB.length:Int)=some s.AB.length:=by unfold lM; rw [S8 (by omega)]; simp
 refine Gv h7 (Ji (S8 ⟨by omega,Nat.le_trans hc (by decide),by omega⟩) ?_);refine Gv (x:=()) rfl ?_;refine Gv (Gdc s F ids (List.replicate s.AB.length 0) (by simp) hc (fun h hh=>by rw [List.mem_replicate] at hh; omega) hF hl) ?_;show Wp (each _ _ (fR F s ids) 0 []) _
 have h8:(fR F s ids).Pairwise (fun a b=>¬ a.Perm b):=GW (by unfold aF; simp) (fun h hh=>by rw [List.mem_replicate] at hh; omega) h5;refine Ja (fun pre s18=>s18=(pre.map canon).filter fun l=>(Qq s AA l).getD false) rfl (fun pre y post s18 nx e hI h6=>?_) (fun s18 hI=>?_)
 ·have hy:y∈fR F s ids:=by rw [e]; simp
  obtain⟨w1,w2,w3⟩:=pQ hy;have h9:y.length=ids.length:=by have:=w1.length_eq; simpa using this
  refine Gv (ZA (w1.nodup_iff.2 h5) (by omega)) ?_;have a8:(canon y).length=ids.length:=by rw [(dY y).length_eq,h9]
  obtain⟨b,hb,_⟩:=fK (AA:=AA) (l:=canon y) hr ht (by omega);refine Gv hb ?_;have a6:pre.length < (fR F s ids).length:=by rw [e]; simp
  have a9:s18.length<=pre.length:=by rw [hI]; exact Nat.le_trans (S3 ..) (by simp)
  refine Hr (fun a0=>?_) (fun a1=>?_)
  ·refine Ji (S8 ⟨?_,?_⟩) (h6 _ ?_)
   ·rw [Sp]; omega
   ·rw [Sp]; exact Nat.le_trans (by omega:s18.length+1<=1000001) (by decide)
   ·rw [hI,List.map_append,List.filter_append];simp [hb,a0]
  ·refine h6 _ ?_;rw [hI,List.map_append,List.filter_append];simp [hb,a1]
 ·have a2:s18.Pairwise (fun a b=>aG a b≠0):=by
   rw [hI];refine List.Pairwise.filter _ (List.pairwise_map.2 (h8.imp_of_mem fun {a b} ha hb hp hz=>hp ?_));have e1:=pO (pQ ha).1 hw.sorted;have e2:=pO (pQ hb).1 hw.sorted;have a3:canon a=canon b:=H00 (by rw [e1,e2]) (RC hz);exact(dY a).symm.trans (by rw [a3]; exact dY b)
  have a7:s18.length<=1000000:=by rw [hI]; exact Nat.le_trans (S3 ..) (by simpa using hn)
  have h0:∀ a∈s18,∀ b∈s18,aG a b=0->a=b:=fun a ha b hb h=>by
   obtain⟨i,hi,rfl⟩:=List.mem_iff_getElem.1 ha;obtain⟨j,hj,rfl⟩:=List.mem_iff_getElem.1 hb;have hp:=List.pairwise_iff_getElem.1 a2;rcases Nat.lt_trichotomy i j with a4 | rfl | a5
   ·exact(hp i j hi hj a4 h).elim
   ·rfl
   ·have:=dL.anti s18[i] s18[j];exact(hp j i hj hi a5 (by omega)).elim
  have h3:∀ r',r'.Perm s18->iR aG r'->r'=tD aG s18:=fun r' hp hs=>by
   refine List.Perm.eq_of_pairwise (le:=G08 aG) (fun a b ha hb h1 h2=>?_) (hs.imp fun h=>S7 h) (cG dL.ordc s18) (hp.trans (bJ _ _).symm);have:=dL.anti a b;exact h0 a (hp.mem_iff.1 ha) b ((bJ _ _).mem_iff.1 hb) (by omega)
  have h4:wJ (fun z0 z1=>Zd z0 z1) s18=some (tD aG s18):=Gc4 aG wX (Gfe dL.ordc) (by omega) (bJ _ _) ((cG dL.ordc s18).imp fun h=>S9 h) h3;refine Gv h4 (Gx ?_);unfold bW;rw [hI]

def xQ (st:Gc->AH->AD->Option (List AE)) (F:Nat) (s:Gc) (AA:AH) (AJ:Int):Option (cA×Int×Int):=
 bnd (Q0 s AA AJ) fun r4=>
 bif (!r4) then
 (some ((cA.mk [] []),0,5))
 else
 (need (decide (AJ<=9223372036854775807)) <|
  upto (fun i53 (s53:(List (List AE))) nx53=>
   bnd (Yf AA (i53:Int)) fun r59=>
   bnd (st s AA r59) fun r60=>
   need (decide ((s53.length+[r60].length)*24<=140737488355328∧s53.length+[r60].length<=maxLen)) <|
   Jy (s53++[r60]) (i53:Int) fun y63=>
   bif decide ((y63.length:Int)=0) then
   (some ((cA.mk [] []),0,4))
   else
   (nx53 (s53++[r60])))
  (fun(s53:(List (List AE)))=>
   Jy s53 0 fun y73=>
   each (fun y99 i99 (s99:Int×(Gw H3 Gn)) nx99=>
    jp (fun kj102=>
     bnd (Rc F 0 (i99:Int) s99.2 AJ s53 (fun z0 z1=>Jf F z0 z1 s AA)) fun r105=>
     bnd (Rc F 0 s99.1 r105.2 AJ s53 (fun z0 z1=>Jf F z0 z1 s AA)) fun r106=>
     bif decide (r105.1.AU < r106.1.AU) then
     (kj102 ((i99:Int),r106.2))
     else
     (kj102 (s99.1,r106.2))) fun(j102:Int×(Gw H3 Gn))=>
    nx99 (j102.1,j102.2))
   (fun(s99:Int×(Gw H3 Gn))=>
    bnd (Rc F 0 s99.1 s99.2 AJ s53 (fun z0 z1=>Jf F z0 z1 s AA)) fun r108=>
    need (decide (AJ<=9223372036854775807)) <|
    upto (fun i152 (s152:Int×(List AE)×(List AD)×(Gw H3 Gn)) nx152=>
     Jy s53 (i152:Int) fun y158=>
     Jy y158 s152.1 fun y160=>
     need (decide ((s152.2.1.length+[y160].length)*24<=140737488355328∧s152.2.1.length+[y160].length<=maxLen)) <|
     bnd (Rc F (i152:Int) s152.1 s152.2.2.2 AJ s53 (fun z0 z1=>Jf F z0 z1 s AA)) fun r163=>
     nx152 (r163.1.next,(s152.2.1++[y160]),s152.2.2.1,r163.2))
    (fun(s152:Int×(List AE)×(List AD)×(Gw H3 Gn))=>
     some ((cA.mk s152.2.1 s152.2.2.1),r108.1.AU,0)) AJ.toNat 0 (s99.1,[],[],r108.2)) y73 0 (0,(Gw.empty:Gw H3 Gn))) AJ.toNat 0 [])
theorem Q03 (F:Nat) (s:Gc) (AA:AH) (AJ:Int):Hx F s AA AJ=xQ (Qs F) F s AA AJ:=rfl
variable {α:Type}
theorem J92 {β:Type} {m:Option α} {k k':α->Option β} (h:∀ x,m=some x->k x=k' x):bnd m k=bnd m k':=by
 cases m with
 | none=>rfl
 | some x=>exact h x rfl
theorem H7c {st st':Gc->AH->AD->Option (List AE)} {AJ:Int} (h:∀ (i:Int) r,Yf AA i=some r->st s AA r=st' s AA r):xQ st F s AA AJ=xQ st' F s AA AJ:=by
 unfold xQ;have e:∀ {β:Type} (i:Int) (k:AD->List AE->Option β),bnd (Yf AA i) (fun r=>bnd (st s AA r) (k r))=bnd (Yf AA i) (fun r=>bnd (st' s AA r) (k r)):=fun i k=>J92 fun r hr=>by rw [h i r hr]
 congr 1;funext r4;congr 1;congr 1;congr 1;funext i53 s53 nx53;exact e _ _

def abB (k:Int) (b:Box):Bool:=decide (b.Load<=k)&&decide (k < b.AF)
def Zh (AA:AH) (k:Int):AD:=(AA.filter (abB k)).map (·.ID)
theorem GT (p:α->Bool) (l:List α) (x:α):(l++[x]).filter p=l.filter p++(bif p x then [x] else []):=by
 grind
theorem kT (AA:AH) (k:Int) (hl:AA.length<=100000):Yf AA k=some (Zh AA k):=by
 refine eF ?_;unfold Yf Zh;refine Ja (fun pre s=>s=(pre.filter (abB k)).map (·.ID)) rfl (fun pre y post s nx e hs h0=>?_) (fun s hs=>Gx hs);subst hs;have hp:pre.length+1<=AA.length:=by rw [e]; simp
 have hf:=S3 (abB k) pre;refine Rz (fun j=>j=((pre++[y]).filter (abB k)).map (·.ID)) (fun K hK=>Hr (fun h=>Ji (Qp (by simp only [Ss,Sp]; omega) (by omega)) (hK _ ?_)) (fun h=>hK _ ?_)) (fun j hj=>h0 _ hj)
 ·have h':abB k y=true:=h;grind
 ·have h':abB k y=false:=h;grind
structure G92 (AA:AH):Prop where
 sorted:AA.Pairwise (fun a b=>a.ID < b.ID)
 size:∀ b∈AA,b.Size=40
theorem G1c (h:AA.Pairwise (fun a b=>a.ID < b.ID)) {b:Box} (hb:b∈AA):jU AA b.ID=some b:=by
 unfold jU
 induction AA with
 | nil=>cases hb
 | cons x r ih=>
  rw [List.pairwise_cons] at h;grind
theorem G92.whole (h:G92 AA) (k:Int):Whole AA (Zh AA k):=by
 refine⟨?_,fun id hid=>?_⟩
 ·unfold Zh;exact List.pairwise_map.2 ((h.sorted.filter _).imp fun h=>h)
 ·unfold Zh at hid;obtain⟨b,hb,rfl⟩:=Su.1 hid;have h0:=(Sx.1 hb).1;exact⟨b,G1c h.sorted h0,h.size b h0⟩
theorem kH (AA:AH) (k:Int):(Zh AA k).length<=AA.length:=by
 unfold Zh;grind
structure nA (s:Gc):Prop where
 right:Jh s=some true
 BU:s.AB.length<=3
 BS:∀ c∈s.AB,0<=c.Tiers∧c.Tiers<=3
theorem G14 (hc:s.AB.length<=3) (hl:ids.length<=4):(fR F s ids).length<=1000000:=by
 have h1:(aF s).length<=3:=by unfold aF; simpa using hc
 rcases Nat.eq_zero_or_pos (aF s).length with h0 | h0
 ·unfold fR;cases F with
  | zero=>simp [fT]
  | succ F=>
   rw [mX,h0];grind
 ·have:=H14 (ts:=aF s) (m:=4) (by omega) (F:=F) (ids:=ids) (hs:=List.replicate s.AB.length 0) hl;refine Nat.le_trans this (Nat.le_trans (Nat.pow_le_pow_left (show (aF s).length*4<=12 by omega) _) (Nat.le_trans (Nat.pow_le_pow_right (by omega) hl) (by decide)))
theorem pK (hs:nA s) (hw:Whole AA ids) (hl:ids.length<=4) (hF:ids.length < F):Qs F s AA ids=some (bW F s AA ids):=
 J64 hs.right (by have:=hs.BU; omega) (fun c hc=>by have:=hs.BS c hc; omega) hw (by omega) hF (G14 hs.BU hl)
theorem JJ {AJ:Int} (hs:nA s) (hb:G92 AA) (hl:AA.length<=4) (hF:AA.length < F):Hx F s AA AJ=xQ (fun s AA ids=>some (bW F s AA ids)) F s AA AJ:=by
 rw [Q03];refine H7c fun i r hr=>?_;rw [kT AA i (by omega)] at hr;cases hr;have:=kH AA i;exact pK hs (hb.whole i) (by omega) (by omega)

def tw (n:Nat):Gc:=Gc.mk ((List.range n).map fun(i:Nat)=>G7.mk 0 (i:Int) false 2 0 0 0 0 [] 0 0 0) [] (Light.mk 0 0 0 0) [] [] [] (Gk.mk 0 0 0 0)
def bxA:AH:=[(Box.mk 1 ByteArray.empty 40 false 0 0 2 0 false),(Box.mk 2 ByteArray.empty 40 false 0 1 3 0 false)]
def bxB:AH:=[(Box.mk 1 ByteArray.empty 40 false 0 0 1 0 false),(Box.mk 2 ByteArray.empty 40 false 0 0 1 0 false),(Box.mk 3 ByteArray.empty 40 false 0 0 1 0 false)]
theorem HN {n:Nat} (h:1<=n∧n<=3):nA (tw n):=by
 have h:n=1∨n=2∨n=3:=by omega
 rcases h with rfl | rfl | rfl <;> exact⟨by kernel_rfl,by decide,by decide⟩
theorem Ge4:G92 bxA:=⟨by unfold bxA; simp,by unfold bxA; simp⟩
theorem J91:G92 bxB:=⟨by unfold bxB; simp,by unfold bxB; simp⟩
theorem Jef:Whole bxA [1,2]:=⟨by simp,fun id hid=>by
 simp at hid;rcases hid with rfl | rfl
 ·exact⟨_,rfl,rfl⟩
 ·exact⟨_,rfl,rfl⟩⟩
theorem G1e:Rf 60=some true:=by
 have t1:Jw 1=some (tw 1):=by kernel_rfl
 have t2:Jw 2=some (tw 2):=by kernel_rfl
 have t3:Jw 3=some (tw 3):=by kernel_rfl
 have t4:Jw 4=some (tw 4):=by kernel_rfl
 have l1:Hx 60 (tw 1) bxA 4=xQ (fun s AA ids=>some (bW 60 s AA ids)) 60 (tw 1) bxA 4:=JJ (HN (by decide)) Ge4 (by decide) (by decide);have l2:Hx 60 (tw 2) bxA 4=xQ (fun s AA ids=>some (bW 60 s AA ids)) 60 (tw 2) bxA 4:=JJ (HN (by decide)) Ge4 (by decide) (by decide);have l3:Hx 60 (tw 1) bxB 2=xQ (fun s AA ids=>some (bW 60 s AA ids)) 60 (tw 1) bxB 2:=JJ (HN (by decide)) J91 (by decide) (by decide);have s1:Qs 60 (tw 2) bxA [1,2]=some (bW 60 (tw 2) bxA [1,2]):=pK (HN (by decide)) Jef (by decide) (by decide);unfold Rf;rw [t1,cT];show bnd (Hx 60 (tw 1) bxA 4) _=_
 rw [l1,t2];simp only [cT];show bnd _ (fun r5=>bnd (Hx 60 (tw 2) bxA 4) _)=_
 rw [l2];unfold Jx;show bnd _ (fun r5=>bnd _ fun r8=>bnd (bnd _ fun r4=>bif _ then _ else each _ (fun _=>bnd _ fun r43=>bif _ then _ else bnd (Qs 60 (tw 2) bxA [1,2]) _) _ _ _) fun r11=>bnd (Hx 60 (tw 1) bxB 2) _)=_
 rw [s1,l3];kernel_rfl

section map
variable {κ ν:Type} [DecidableEq κ]
theorem H93 (m:Gw κ ν) (a b:κ) (v:ν):Gw.has (Gw.put m a v) b=(decide (a=b)||Gw.has m b):=by
 unfold Gw.has Gw.put;rw [<- kU,<- kU,mV];grind
theorem H94 (m:Gw κ ν) (a b:κ) (v z:ν):Gw.get (Gw.put m a v) b z=if a=b then v else Gw.get m b z:=by
 unfold Gw.get Gw.put;rw [mV];grind
end map
def pick (rs:Int) (best:Int×Int) (j:Nat):Int×Int:=bif decide (best.2 < 0)||decide (rs < best.1) then (rs,(j:Int)) else best
def lL:AD->Nat->Int×Int->Int×Int
 | [],_,b=>b
 | r::l,i,b=>lL l (i+1) (pick r b i)
def aI (R:AE->AE->Int) (all:List (List AE)):Nat->Nat->AE->Int×Int
 | 0,_,_=>(0,-1)
 | d+1,k,a=>lL ((all.getD (k+1) []).map fun b=>R a b+(aI R all d (k+1) b).1) 0 (0,-1)
theorem ZF {B:Int} (hB:0<=B):∀ {l:AD} {i:Nat} {b:Int×Int},(∀ r∈l,0<=r∧r<=B)->0<=b.1∧b.1<=B->0<=(lL l i b).1∧(lL l i b).1<=B
 | [],_,_,_,h=>h
 | r::l,i,b,hl,h=>by
  have hp:0<=(pick r b i).1∧(pick r b i).1<=B:=by
   unfold pick;cases decide (b.2 < 0)||decide (r < b.1) with
   | true=>exact hl r (List.mem_cons_self ..)
   | false=>exact h
  exact ZF (l:=l) (i:=i+1) (b:=pick r b i) hB (fun x hx=>hl x (List.mem_cons_of_mem _ hx)) hp
theorem G54 (x:Int):∀ (l:AD) (i:Nat) (b:Int×Int),lL (l++[x]) i b=pick x (lL l i b) (i+l.length)
 | [],i,b=>rfl
 | r::l,i,b=>by
  rw [List.cons_append,lL,G54 x l,lL,Si,show i+1+l.length=i+(l.length+1) by omega]
theorem xD {R:AE->AE->Int} {all:List (List AE)} (hR:∀ a b,0<=R a b∧R a b<=1000):∀ (d k:Nat) (a:AE),0<=(aI R all d k a).1∧(aI R all d k a).1<=1000*(d:Int)
 | 0,_,_=>⟨Int.le_refl _,Int.le_refl _⟩
 | d+1,k,a=>by
  refine ZF (B:=1000*((d+1:Nat):Int)) (by omega) (fun r hr=>?_) ⟨Int.le_refl _,by omega⟩;obtain⟨b,_,rfl⟩:=Su.1 hr;have h1:=hR a b;have h2:=xD (all:=all) hR d (k+1) b;omega
def J33 (b:Int×Int):Gn:=Gn.mk b.1 b.2
def Good (R:AE->AE->Int) (all:List (List AE)) (AJ:Nat) (m:Gw H3 Gn):Prop:=
 ∀ k i:Int,Gw.has m ⟨k,i⟩=true->∃ (kn jn d:Nat) (L:List AE) (a:AE),k=(kn:Int)∧i=(jn:Int)∧kn+d+1=AJ∧all[kn]? = some L∧L[jn]? = some a∧Gw.get m ⟨k,i⟩ (Gn.mk 0 0)=J33 (aI R all d kn a)
variable {all:List (List AE)} {R:AE->AE->Int}
theorem J15 {AJ:Nat}:Good R all AJ Gw.empty:=fun k i h=>by simp [Gw.has,Gw.empty,gX] at h
theorem J7a {Rm:AE->AE->Option Int} {AJ:Nat} (hc:AJ<=1000) (hR:∀ a b,0<=R a b∧R a b<=1000) (hm:∀ (k:Nat) L L' a b,all[k]? = some L->all[k+1]? = some L'->a∈L->b∈L'->Rm a b=some (R a b)) (a3:all.length=AJ) :
  ∀ (d k j F:Nat) (L:List AE) (a:AE) (m:Gw H3 Gn),k+d+1=AJ->all[k]? = some L->L[j]? = some a->Good R all AJ m->d < F ->
   Wp (Rc F (k:Int) (j:Int) m (AJ:Int) all Rm) (fun r=>r.1=J33 (aI R all d k a)∧Good R all AJ r.2):=by
 intro d
 induction d with
 | zero=>
  intro k j F L a m hk hL ha hg hF;obtain⟨F,rfl⟩:∃ n,F=n+1:=⟨F - 1,by omega⟩;show Wp (aP _ _ _ _ _ _ _) _
  unfold aP Zc;refine H6 (H6 (Gx (Hr (fun h=>?_) (fun h=>?_))))
  ·obtain⟨kn,jn,d',L',a',h1,h2,h3,h4,h5,h6⟩:=hg _ _ h;have e1:kn=k:=by omega
   have e2:jn=j:=by omega
   subst e1;subst e2;rw [hL] at h4; cases h4;rw [ha] at h5; cases h5;have e3:d'=0:=by omega
   subst e3;exact Gx (Gx ⟨h6,hg⟩)
  ·unfold cW;refine H6 (Hy ⟨by omega,by omega⟩ (Hr (fun _=>Gx (Gx (Gx ⟨rfl,?_⟩))) (fun h=>by have:=S7 h; omega)));intro k' i' hh;rw [H93] at hh;rw [H94];by_cases e:(⟨(k:Int),(j:Int)⟩:H3)=⟨k',i'⟩
   ·rw [if_pos e];injection e with e1 e2;subst e1;subst e2;exact⟨k,j,0,L,a,rfl,rfl,hk,hL,ha,rfl⟩
   ·rw [if_neg e];rw [S9 e,Bool.false_or] at hh;exact hg k' i' hh
 | succ d ih=>
  intro k j F L a m hk hL ha hg hF;obtain⟨F,rfl⟩:∃ n,F=n+1:=⟨F - 1,by omega⟩;show Wp (aP _ _ _ _ _ _ _) _
  unfold aP Zc;refine H6 (H6 (Gx (Hr (fun h=>?_) (fun h=>?_))))
  ·obtain⟨kn,jn,d',L',a',h1,h2,h3,h4,h5,h6⟩:=hg _ _ h;have e1:kn=k:=by omega
   have e2:jn=j:=by omega
   subst e1;subst e2;rw [hL] at h4; cases h4;rw [ha] at h5; cases h5;have e3:d'=d+1:=by omega
   subst e3;exact Gx (Gx ⟨h6,hg⟩)
  ·have h9:k+1 < all.length:=by omega
   obtain⟨L',h0⟩:∃ L',all[k+1]? = some L':=⟨_,Sb h9⟩;have h8:all.getD (k+1) []=L':=by simp [List.getD,h0]
   unfold cW;refine H6 (Hy ⟨by omega,by omega⟩ (Hr (fun h=>by have:=S6 h; omega) (fun _=>?_)));refine Hy ⟨by omega,by omega⟩ (Jk (m:=k+1) (by omega) h0 ?_);refine Ja (fun pre st=>(st.1,st.2.1)=lL (pre.map fun b=>R a b+(aI R all d (k+1) b).1) 0 (0,-1)∧Good R all AJ st.2.2) ⟨rfl,hg⟩ (fun pre y post st nx e hI a0=>?_) (fun st hI=>Gx (Gx (Gx ⟨?_,?_⟩)))
   ·obtain⟨i1,i2⟩:=hI;have hy:L'[pre.length]? = some y:=by rw [e]; simp
    have a1:y∈L':=Sd hy;have a2:a∈L:=Sd ha;refine Rz (fun q=>(q.2.1,q.2.2)=lL ((pre++[y]).map fun b=>R a b+(aI R all d (k+1) b).1) 0 (0,-1)∧Good R all AJ q.1) (fun K hK=>?_) (fun q hq=>a0 _ hq);refine Jk (m:=k) rfl hL (Jk (m:=j) rfl ha (Hy ⟨by omega,by omega⟩ (Jk (m:=k+1) (by omega) h0 (Jk (m:=pre.length) rfl hy ?_))));refine Gv (hm k L L' a y hL h0 a2 a1) (Hy ⟨by omega,by omega⟩ ?_);have e1:(k:Int)+1=((k+1:Nat):Int):=by omega
    rw [e1];refine H6 (wp_mono (ih (k+1) pre.length F L' y st.2.2 (by omega) h0 hy i2 (by omega)) fun r hr=>?_);obtain⟨r1,r2⟩:=hr;have b1:=hR a y;have b2:=xD (all:=all) hR d (k+1) y;have er:r.1.AU=(aI R all d (k+1) y).1:=by rw [r1]; rfl
    refine Hy ⟨by omega,by omega⟩ ?_;have h7:lL ((pre++[y]).map fun b=>R a b+(aI R all d (k+1) b).1) 0 (0,-1)=pick (R a y+r.1.AU) (st.1,st.2.1) pre.length:=by
     rw [List.map_append,List.map_singleton,G54,<- i1,er,Ss,Nat.zero_add]
    refine Hr (fun h=>hK _ ⟨?_,r2⟩) (fun h=>hK _ ⟨?_,r2⟩)
    ·rw [h7]; unfold pick; rw [h]; rfl
    ·rw [h7]; unfold pick; rw [h]; rfl
   ·show Gn.mk st.1 st.2.1=J33 (lL ((all.getD (k+1) []).map fun b=>R a b+(aI R all d (k+1) b).1) 0 (0,-1))
    rw [h8,<- hI.1]; rfl
   ·intro k' i' hh;rw [H93] at hh;rw [H94];by_cases e:(⟨(k:Int),(j:Int)⟩:H3)=⟨k',i'⟩
    ·rw [if_pos e];injection e with e1 e2;subst e1;subst e2;refine⟨k,j,d+1,L,a,rfl,rfl,hk,hL,ha,?_⟩;show Gn.mk st.1 st.2.1=J33 (lL ((all.getD (k+1) []).map fun b=>R a b+(aI R all d (k+1) b).1) 0 (0,-1))
     rw [h8,<- hI.1]; rfl
    ·rw [if_neg e];rw [S9 e,Bool.false_or] at hh;exact hI.2 k' i' hh


variable {k:Nat}
theorem QW {l:List α} {x:α} (h:l[k]? = some x):l.take (k+1)=l.take k++[x]:=by
 obtain⟨hk,rfl⟩:=Sa h;rw [List.take_succ_eq_append_getElem hk]

theorem GM:∀ (l:AD) (i:Nat) (b:Int×Int),0<=b.2∨l≠[] ->
  (lL l i b=b∧0<=b.2∧∀ x∈l,b.1<=x)∨∃ j x,l[j]? = some x∧lL l i b=(x,((i+j:Nat):Int))∧(∀ y∈l,x<=y)∧(∀ j' y,j' < j->l[j']? = some y->x < y)∧(0<=b.2->x < b.1)
 | [],i,b,h=>.inl ⟨rfl,h.elim id (fun h=>(h rfl).elim),fun x hx=>(Se hx).elim⟩
 | r::l,i,b,h=>by
  have h7:lL (r::l) i b=lL l (i+1) (pick r b i):=rfl;rw [h7];cases hc:(decide (b.2 < 0)||decide (r < b.1)) with
  | true=>
   have hp:pick r b i=(r,(i:Int)):=by unfold pick; rw [hc]; rfl
   rw [hp];have h6:0<=b.2->r < b.1:=fun h0=>by
    rcases (Bool.or_eq_true_iff).1 hc with h | h
    ·have:=S6 h; omega
    ·exact S6 h
   rcases GM l (i+1) (r,(i:Int)) (.inl (by show (0:Int)<=(i:Int); omega)) with ⟨h1,_,h3⟩ | ⟨j,x,h1,h2,h3,h4,h5⟩
   ·refine .inr ⟨0,r,rfl,by rw [h1]; simp,fun y hy=>?_,fun j' y h8 _=>by omega,h6⟩;rcases Sw.1 hy with rfl | hy
    ·exact Int.le_refl _
    ·exact h3 y hy
   ·have hx:x < r:=h5 (by show (0:Int)<=(i:Int); omega);refine .inr ⟨j+1,x,h1,by rw [h2]; congr 2; omega,fun y hy=>?_,fun j' y h8 hy=>?_,fun h0=>by have:=h6 h0; omega⟩
    ·rcases Sw.1 hy with rfl | hy
     ·omega
     ·exact h3 y hy
    ·cases j' with
     | zero=>cases hy; exact hx
     | succ j'=>exact h4 j' y (by omega) hy
  | false=>
   have hp:pick r b i=b:=by unfold pick; rw [hc]; rfl
   rw [hp];obtain⟨h9,a0⟩:=(Sz).1 hc;have a1:=S7 h9;have h6:=S7 a0;rcases GM l (i+1) b (.inl (by omega)) with ⟨h1,h2,h3⟩ | ⟨j,x,h1,h2,h3,h4,h5⟩
   ·refine .inl ⟨h1,h2,fun y hy=>?_⟩;rcases Sw.1 hy with rfl | hy
    ·omega
    ·exact h3 y hy
   ·have hx:x < b.1:=h5 (by omega);refine .inr ⟨j+1,x,h1,by rw [h2]; congr 2; omega,fun y hy=>?_,fun j' y h8 hy=>?_,fun _=>hx⟩
    ·rcases Sw.1 hy with rfl | hy
     ·omega
     ·exact h3 y hy
    ·cases j' with
     | zero=>cases hy; omega
     | succ j'=>exact h4 j' y (by omega) hy
theorem HA {d:Nat} {a:AE} {L:List AE} (hL:all[k+1]? = some L) (h0:L≠[]) :
  ∃ (j:Nat) (b:AE),L[j]? = some b∧aI R all (d+1) k a=(R a b+(aI R all d (k+1) b).1,(j:Int))∧∀ c∈L,R a b+(aI R all d (k+1) b).1<=R a c+(aI R all d (k+1) c).1:=by
 have h4:all.getD (k+1) []=L:=by simp [List.getD,hL]
 have he:aI R all (d+1) k a=lL (L.map fun b=>R a b+(aI R all d (k+1) b).1) 0 (0,-1):=by
  show lL ((all.getD (k+1) []).map fun b=>R a b+(aI R all d (k+1) b).1) 0 (0,-1)=_
  rw [h4]
 rw [he];rcases GM (L.map fun b=>R a b+(aI R all d (k+1) b).1) 0 (0,-1) (.inr (by simpa using h0)) with ⟨_,h2,_⟩ | ⟨j,x,h1,h2,h3,_,_⟩
 ·grind
 ·rw [Sj] at h1;obtain⟨b,hb,rfl⟩:=Option.map_eq_some_iff.1 h1;refine⟨j,b,hb,by rw [h2,Nat.zero_add],fun c hc=>h3 _ (Su.2 ⟨c,hc,rfl⟩)⟩
def gK (R:AE->AE->Int) (all:List (List AE)):Nat->Nat->AE->List AE
 | 0,_,a=>[a]
 | d+1,k,a=>a::gK R all d (k+1) ((all.getD (k+1) []).getD (aI R all (d+1) k a).2.toNat [])
theorem HR {l:List α} {x:α} (h:l[k]? = some x):l.take (k+1)=l.take k++[x]:=QW h
theorem G5f {n:Nat} (hS:Q0 s AA (n:Int)=some true) (hn:1<=n∧n<=1000) (hF:n < F) (h8:all.length=n)
  (a7:∀ (i:Nat) L,all[i]? = some L->∃ ids,Yf AA (i:Int)=some ids∧Qs F s AA ids=some L) (h9:∀ L∈all,L≠[]) (b3:∀ L∈all,L.length<=1000000)
  (hR:∀ a b,0<=R a b∧R a b<=1000) (hm:∀ (k:Nat) L L' a b,all[k]? = some L->all[k+1]? = some L'->a∈L->b∈L'->Jf F a b s AA=some (R a b)) :
  Wp (Hx F s AA (n:Int)) (fun r=>∃ L0 a0,all[0]? = some L0∧a0∈L0∧(∀ b∈L0,(aI R all (n - 1) 0 a0).1<=(aI R all (n - 1) 0 b).1)∧r=(cA.mk (gK R all (n - 1) 0 a0) [],(aI R all (n - 1) 0 a0).1,0)):=by
 obtain⟨n0,n1⟩:=hn;have h0:=fun(d k j:Nat) (L:List AE) (a:AE) (m:Gw H3 Gn) h1 h2 h3 h4=>J7a (Rm:=fun z0 z1=>Jf F z0 z1 s AA) n1 hR hm h8 d k j F L a m h1 h2 h3 h4;unfold Hx;refine Gv hS ?_;simp only [Bool.not_true,cond_false];refine Ji (S8 (by omega)) ?_;rw [Int.toNat_natCast];refine iK (fun i st=>st=all.take i) rfl (fun i st nx hi hI h6=>?_) (fun st hI=>?_)
 ·subst hI;obtain⟨L,hL⟩:∃ L,all[i]? = some L:=⟨_,Sb (by omega)⟩;obtain⟨ids,h1,h2⟩:=a7 i L hL;have a8:=Sd hL;have a9:(all.take i).length=i:=by rw [List.length_take]; omega
  refine Gv h1 (Gv h2 (Ji ?_ ?_))
  ·exact Qp (by rw [a9,Sp]; omega) (by omega)
  ·refine Jk (m:=i) rfl (x:=L) (by rw [<- HR hL]; rw [Sk]; simp [hL]) ?_;refine Hr (fun h=>?_) (fun _=>h6 _ (HR hL).symm);have:=S6 h;exact(h9 L a8 (S1 (by omega))).elim
 ·have hI:st=all:=by rw [hI,<- h8,List.take_length]
  subst hI;obtain⟨L0,h5⟩:∃ L,st[0]? = some L:=⟨_,Sb (by omega)⟩;have a1:=Sd h5;refine Jk (m:=0) rfl h5 ?_;have a2:=h9 L0 a1;obtain⟨d,hd⟩:∃ d,n=d+1:=⟨n - 1,by omega⟩;have b0:n - 1=d:=by omega
  rw [b0];refine Ja (fun pre (s99:Int×Gw H3 Gn)=>(∃ (j:Nat) (a:AE),s99.1=(j:Int)∧L0[j]? = some a∧∀ b∈pre,(aI R st d 0 a).1<=(aI R st d 0 b).1)∧Good R st n s99.2) ?_ (fun pre y post s99 nx e hI h6=>?_) (fun s99 hI=>?_)
  ·obtain⟨x,hx⟩:∃ x,L0[0]? = some x:=⟨_,Sb (List.length_pos_iff.2 a2)⟩;exact⟨⟨0,x,rfl,hx,fun b hb=>(Se hb).elim⟩,J15⟩
  ·obtain⟨⟨j,a,h1,h2,h3⟩,hg⟩:=hI;have hy:L0[pre.length]? = some y:=by rw [e]; simp
   refine Rz (fun q=>(∃ (j:Nat) (a:AE),q.1=(j:Int)∧L0[j]? = some a∧∀ b∈pre++[y],(aI R st d 0 a).1<=(aI R st d 0 b).1)∧Good R st n q.2) (fun K hK=>?_) (fun q hq=>h6 _ hq);refine H6 (wp_mono (h0 d 0 pre.length L0 y s99.2 (by omega) h5 hy hg (by omega)) fun r105 a3=>?_);obtain⟨p1,p2⟩:=a3;rw [h1];refine H6 (wp_mono (h0 d 0 j L0 a r105.2 (by omega) h5 h2 p2 (by omega)) fun r106 a4=>?_);obtain⟨q1,q2⟩:=a4;rw [p1,q1];refine Hr (fun h=>hK _ ⟨⟨pre.length,y,rfl,hy,fun b hb=>?_⟩,q2⟩) (fun h=>hK _ ⟨⟨j,a,rfl,h2,fun b hb=>?_⟩,q2⟩)
   ·have h:(aI R st d 0 y).1 < (aI R st d 0 a).1:=S6 h;rcases St.1 hb with hb | hb
    ·have:=h3 b hb; omega
    ·rw [Sv.1 hb]; exact Int.le_refl _
   ·have h:¬ (aI R st d 0 y).1 < (aI R st d 0 a).1:=S7 h;rcases St.1 hb with hb | hb
    ·exact h3 b hb
    ·rw [Sv.1 hb]; omega
  ·obtain⟨⟨j,a,h1,h2,h3⟩,hg⟩:=hI;rw [h1];refine H6 (wp_mono (h0 d 0 j L0 a s99.2 (by omega) h5 h2 hg (by omega)) fun r108 a5=>?_);obtain⟨p1,p2⟩:=a5;refine Ji (S8 (by omega)) ?_;rw [p1];refine iK (fun i (s152:Int×List AE×List AD×Gw H3 Gn)=>s152.2.2.1=[]∧Good R st n s152.2.2.2∧s152.2.1.length=i∧((i=n∧s152.2.1=gK R st d 0 a)∨∃ (d' j:Nat) (L:List AE) (b:AE),i+d'+1=n∧s152.1=(j:Int)∧st[i]? = some L∧L[j]? = some b∧s152.2.1++gK R st d' i b=gK R st d 0 a)) ⟨rfl,p2,rfl,.inr ⟨d,j,L0,a,by omega,rfl,h5,h2,rfl⟩⟩ (fun i s152 nx hi hI h6=>?_) (fun s152 hI=>?_)
   ·obtain⟨w1,w2,w3,w4⟩:=hI;rcases w4 with ⟨w4,_⟩ | ⟨d',j',L,b,v1,v2,v3,v4,v5⟩
    ·omega
    rw [v2];refine Jk (m:=i) rfl v3 (Jk (m:=j') rfl v4 (Ji ?_ ?_))
    ·exact Qp (by rw [w3,Sp]; omega) (by omega)
    ·refine H6 (wp_mono (h0 d' i j' L b s152.2.2.2 (by omega) v3 v4 w2 (by omega)) fun r163 a6=>?_);obtain⟨u1,u2⟩:=a6;refine h6 _ ⟨w1,u2,by show (s152.2.1++[b]).length=i+1; simp [w3],?_⟩;cases d' with
     | zero=>exact .inl ⟨by omega,v5⟩
     | succ d'=>
      obtain⟨L',h7⟩:∃ L',st[i+1]? = some L':=⟨_,Sb (by omega)⟩;obtain⟨j2,b2,x1,x2,x3⟩:=HA (R:=R) (d:=d') (a:=b) h7 (h9 L' (Sd h7));refine .inr ⟨d',j2,L',b2,by omega,by show r163.1.next=_; rw [u1,x2]; rfl,h7,x1,?_⟩;show (s152.2.1++[b])++gK R st d' (i+1) b2=_
      rw [<- v5,List.append_assoc];have:gK R st (d'+1) i b=b::gK R st d' (i+1) b2:=by
       rw [gK,x2];have b1:st.getD (i+1) []=L':=by simp [List.getD,h7]
       rw [b1];simp [List.getD,x1]
      rw [this]; rfl
   ·obtain⟨w1,w2,w3,w4⟩:=hI;rcases w4 with ⟨_,w4⟩ | ⟨d',j',L,b,v1,_⟩
    ·refine Gx ⟨L0,a,h5,Sd h2,h3,?_⟩;rw [w1,w4]; rfl
    ·omega

def wE (R:AE->AE->Int):List AE->Int
 | a::b::l=>R a b+wE R (b::l)
 | _=>0
def Ge9 (all:List (List AE)):Nat->List AE->Prop
 | _,[]=>True
 | k,a::l=>(∃ L,all[k]? = some L∧a∈L)∧Ge9 all (k+1) l
theorem J4b {R:AE->AE->Int} {all:List (List AE)}:∀ (d k:Nat) (a:AE) (l:List AE),l.length=d->Ge9 all (k+1) l->(aI R all d k a).1<=wE R (a::l)
 | 0,k,a,l,hl,_=>by
  cases l with
  | nil=>exact Int.le_refl _
  | cons b l=>cases hl
 | d+1,k,a,l,hl,hp=>by
  cases l with
  | nil=>cases hl
  | cons b l=>
   obtain⟨⟨L,hL,hb⟩,h0⟩:=hp;obtain⟨j,c,h1,h2,h3⟩:=HA (R:=R) (d:=d) (a:=a) hL (List.ne_nil_of_mem hb);have h4:=h3 b hb;have h5:=J4b (R:=R) d (k+1) b l (by simpa using hl) h0;rw [h2];show R a c+(aI R all d (k+1) c).1<=R a b+wE R (b::l)
   omega
theorem G74 {R:AE->AE->Int} {all:List (List AE)} (h3:∀ L∈all,L≠[]):∀ (d k:Nat) (a:AE) (L:List AE),k+d < all.length->all[k]? = some L->a∈L ->
  Ge9 all k (gK R all d k a)∧(gK R all d k a).length=d+1∧wE R (gK R all d k a)=(aI R all d k a).1∧(gK R all d k a).head? = some a
 | 0,k,a,L,_,hL,ha=>⟨⟨⟨L,hL,ha⟩,trivial⟩,rfl,rfl,rfl⟩
 | d+1,k,a,L,hk,hL,ha=>by
  obtain⟨L',h0⟩:∃ L',all[k+1]? = some L':=⟨_,Sb (by omega)⟩;obtain⟨j,b,h1,h2,_⟩:=HA (R:=R) (d:=d) (a:=a) h0 (h3 L' (Sd h0));have hc:gK R all (d+1) k a=a::gK R all d (k+1) b:=by
   rw [gK,h2];have h4:all.getD (k+1) []=L':=by simp [List.getD,h0]
   rw [h4];simp [List.getD,h1]
  obtain⟨g1,g2,g3,g4⟩:=G74 (R:=R) h3 d (k+1) b L' (by omega) h0 (Sd h1);rw [hc,h2];refine⟨⟨⟨L,hL,ha⟩,g1⟩,by rw [Si,g2],?_,rfl⟩;revert g3 g4;cases gK R all d (k+1) b with
  | nil=>intro _ g4; cases g4
  | cons c l=>
   intro g3 g4;cases g4;show R a b+wE R (b::l)=R a b+(aI R all d (k+1) b).1
   rw [g3]
end Go.Proofs.YtibhpogonkdiaaaGreat
