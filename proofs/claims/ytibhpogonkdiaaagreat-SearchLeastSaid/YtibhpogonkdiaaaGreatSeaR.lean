/-
 SearchWrong: SearchWrong. What is lf between two states (LiftT behind the search's tex The AU between two states: Restows between right states. Restows as a total function;
-/
import Derived.Test.YtibhpogonkdiaaaGreatSeaO
import Derived.Test.YtibhpogonkdiaaaGreatXX
set_option maxRecDepth 100000
namespace Go.Proofs.YtibhpogonkdiaaaGreat
open Go.RowKit

def two:AH:=[(Box.mk 2 ByteArray.empty 40 false 0 0 1 0 false),(Box.mk 4 ByteArray.empty 20 false 0 0 1 0 false)]

variable {F:Nat}
theorem wp_loop {β σ:Type} {Q:β->Prop} (I:σ->Prop) (μ:σ->Nat) {b:(σ->Option β)->σ->Option β} {s:σ} (h0:I s) (hF:μ s < F)
  (hb:∀ s nx,I s->(∀ s',I s'->μ s' < μ s->Wp (nx s') Q)->Wp (b nx s) Q):Wp (loop b F s) Q:=by
 induction F generalizing s with
 | zero=>omega
 | succ F ih=>
  rw [loop];grind
def one:AH:=[(Box.mk 2 ByteArray.empty 40 false 0 0 1 0 false)]
variable {s:Gc}
theorem jA.small (h:jA s):nA s:=⟨h.right,h.few,fun c hc=>by have:=h.low c hc; omega⟩
theorem jA.flat (h:jA s):∀ c∈s.AB,c.Height<=0:=fun c hc=>by have:=(h.built.BU.each c hc).height; omega

section maps
variable {κ ν:Type} [DecidableEq κ]
theorem G77 (a:κ):Gw.has (Gw.empty:Gw κ ν) a=false:=rfl
theorem H1f (m:Gw κ ν) (a b:κ) (v:ν):Gw.has (Gw.put m a v) b=(decide (a=b)||Gw.has m b):=by
 unfold Gw.has Gw.put;have h:=kU (l:=iW m.l a v) (a:=b);have h2:=kU (l:=m.l) (a:=b);rw [<- h,mV];grind
end maps
variable {α:Type}
theorem ZU {l:List α} {wanted:α->Option Bool} {p:α->Bool} (hw:∀ x∈l,wanted x=some (p x)) (hl:l.length<=1000000) :
  each (fun y i (s:AD) nx=>jp (fun kj=>bnd (wanted y) fun r=>bif r then (need (decide ((s.length+[(i:Int)].length)*8<=140737488355328∧s.length+[(i:Int)].length<=maxLen)) <| kj (s++[(i:Int)])) else (kj s)) fun(j:AD)=>nx j)
   (fun s=>some s) l 0 []=some (mW p l):=by
 refine eF ?_;refine Ja (fun pre s=>s=mW p pre) rfl (fun pre x post s nx e hs h0=>?_) (fun s hs=>Gx hs);subst hs;have h1:pre.length+1<=l.length:=by rw [e]; simp
 refine Rz (fun j=>j=mW p (pre++[x])) (fun K hK=>?_) (fun j hj=>h0 _ hj);refine Gv (hw x (by rw [e]; simp)) (Hr (fun h=>Ji ?_ (hK _ ?_)) (fun h=>hK _ ?_))
 ·have:=ZR p pre;exact Qp (by rw [Sp]; omega) (by omega)
 ·rw [yI,h]; rfl
 ·rw [yI,h]; simp
theorem J82 (p:α->Bool) (x:α) (l:List α):mW p (x::l)=(if p x then [0] else [])++(mW p l).map (·+1):=by
 unfold mW;rw [List.zipIdx_cons',List.filter_cons];have h:(((l.zipIdx.map (Prod.map id (fun n:Nat=>n+1))).filter (fun y:α×Nat=>p y.1)).map (fun y:α×Nat=>(y.2:Int)))=((l.zipIdx.filter (fun y:α×Nat=>p y.1)).map (fun y:α×Nat=>(y.2:Int))).map (·+1):=by
  rw [List.filter_map,List.map_map,List.map_map];rfl
 grind
theorem J81 (p:α->Bool) (l:List α):(mW p l).head? = match l.findIdx? p with
  | some j=>some (j:Int)
  | none=>none:=by
 induction l with
 | nil=>rfl
 | cons x l ih=>
  rw [J82,List.findIdx?_cons];by_cases hx:p x
  ·grind
  ·simp only [hx,if_false,Bool.false_eq_true,List.nil_append,List.head?_map,ih];grind
theorem Jc5 (p:α->Bool) (l:List α):decide (0 < ((mW p l).length:Int))=l.any p:=by
 by_cases h:∀ x∈l,p x=false
 ·rw [JK.2 h];grind
 ·have h1:mW p l≠[]:=fun e=>h (JK.1 e);have h2:=List.length_pos_iff.2 h1;grind
def H8a (x:Gy) (c:G7):Bool:=decide (x.Bay=c.Bay)&&x.Rows.any (fun r=>decide (r=c.Row))
theorem H6d (x:Gy) (c:G7) (hl:x.Rows.length<=1000000):jJ x c=some (H8a x c):=by
 unfold jJ H8a;by_cases h:x.Bay=c.Bay
 ·have hc:dP x.Rows (fun z0=>fV z0 c)=some (mW (fun r=>decide (r=c.Row)) x.Rows):=by
   unfold dP;exact ZU (fun x _=>rfl) hl
  rw [S8 h];simp only [cond_true,Bool.true_and];rw [hc,cT,Jc5]
 ·rw [S9 h];rfl
def nM (s:Gc) (c:G7):Int:=uS (fun x=>H8a x c) s.AR
theorem uK {m:Nat} {c:G7} (hc:s.AB[m]? = some c) (hr:∀ x∈s.AR,x.Rows.length<=1000000) (hl:s.AR.length<=1000000):cV s (m:Int)=some (nM s c):=by
 have hm:=(Sa hc).1;refine eF ?_;unfold cV;refine Hr (fun h=>?_) (fun _=>?_)
 ·simp only [Sy,Sr] at h;omega
 have h1:Zy s.AR (fun z0=>cL z0 s (m:Int))=some (mW (fun x=>H8a x c) s.AR):=by
  unfold Zy;refine ZU (fun x hx=>eF ?_) hl;unfold cL;exact Jk rfl hc (Gv (H6d x c (hr x hx)) Gx)
 refine Gv h1 ?_;have hh:=J81 (fun x=>H8a x c) s.AR;unfold nM uS;cases hf:s.AR.findIdx? (fun x=>H8a x c) with
 | none=>
  rw [hf] at hh;have h0:mW (fun x=>H8a x c) s.AR=[]:=List.head?_eq_none_iff.1 hh;rw [h0];exact Gx
 | some j=>
  rw [hf] at hh;cases hi:mW (fun x=>H8a x c) s.AR with
  | nil=>rw [hi] at hh; cases hh
  | cons z r=>
   rw [hi] at hh;simp only [List.head?_cons,Option.some.injEq] at hh;subst hh;refine Hr (fun h=>?_) (fun _=>Jk (m:=0) rfl rfl Gx);have:=S6 h;simp only [Si] at this;omega
def Je (l:AE) (id:Int):Slot×Bool:=match H13 l id with
 | some x=>(x.Slot,true)
 | none=>(⟨0,0,0⟩,false)
theorem kS (l:AE) (id:Int):dQ l id=some (Je l id):=by
 unfold dQ;have h:Rb l (fun z0=>jL z0 id)=some (uS (fun x:G1=>decide (x.Box=id)) l):=jF (fun x _=>rfl);rw [h];simp only [cT];unfold Je H13;rcases qN (fun x:G1=>decide (x.Box=id)) l with ⟨h1,_,h3⟩ | ⟨m,x,h1,h2,_,h4⟩
 ·grind
 ·rw [h1,h4,S9 (by omega),cond_false];unfold Jy;rw [S8 (by omega),cond_true,show (m:Int).toNat=m by omega,h2];rfl
variable {id:Int}
theorem bN {l:AE} :(Je l id).2=true ↔ id∈l.map (·.Box):=by
 unfold Je;cases h:H13 l id with
 | none=>
  refine⟨fun e=>(by cases e),fun e=>?_⟩;obtain⟨x,hx,he⟩:=Su.1 e;have:=List.find?_eq_none.1 h x hx;grind
 | some x=>
  refine⟨fun _=>?_,fun _=>rfl⟩;have h1:=List.mem_of_find?_eq_some h;have h2:=S6 (List.find?_some (p:=fun x:G1=>decide (x.Box=id)) h);grind
theorem Ys {l:AE} (h:(Je l id).2=true):∃ x∈l,x.Box=id∧(Je l id).1=x.Slot:=by
 unfold Je at h ⊢;cases hf:H13 l id with
 | none=>rw [hf] at h; cases h
 | some x=>exact⟨x,List.mem_of_find?_eq_some hf,S6 (List.find?_some (p:=fun x:G1=>decide (x.Box=id)) hf),rfl⟩
structure Small (s:Gc):Prop where
 right:Jh s=some true
 BU:1<=s.AB.length∧s.AB.length<=40
 BS:∀ c∈s.AB,c.Tiers<=100
 covs:s.AR.length<=1000
 rows:∀ x∈s.AR,x.Rows.length<=1000
def Q38 (s:Gc) (x:Slot):Prop:=∃ (m:Nat) (c:G7),x.G7=(m:Int)∧s.AB[m]? = some c
structure kK (U:AD) (m:Gw Int Unit) (l:AD):Prop where
 nodup:l.Nodup
 sub:∀ a∈l,a∈U
 has:∀ a,Gw.has m a=decide (a∈l)
variable {U l:AD}
theorem kK.le {m:Gw Int Unit} (h:kK U m l):l.length<=U.length:=h.nodup.length_le_of_subset (fun a ha=>h.sub a ha)
theorem kK.start:kK U (Gw.empty:Gw Int Unit) []:=⟨List.nodup_nil,fun a ha=>(Se ha).elim,fun a=>by simp [G77]⟩
theorem kK.snoc {m:Gw Int Unit} (h:kK U m l) (h1:id ∉ l) (h2:id∈U):kK U (Gw.put m id ()) (l++[id]):=by
 refine⟨?_,fun a ha=>?_,fun a=>?_⟩
 ·rw [List.nodup_append];refine⟨h.nodup,by simp,fun a ha b hb=>?_⟩;grind
 ·rcases St.1 ha with ha | ha
  ·exact h.sub a ha
  grind
 ·rw [H1f,h.has,Bool.eq_iff_iff];grind
theorem J36 (m:Gw Int Unit) (k:Int):cX m k=some (if Gw.has m k then (false,m) else (true,Gw.put m k ())):=by
 unfold cX;grind
structure xI (s:Gc) (U:AD) (states:List AE):Prop where
 small:Small s
 each:∀ st∈states,∀ x∈st,x.Box∈U∧Q38 s x.Slot
 len:U.length<=1000
structure Q84 (AJ:Int) (b:Box):Prop where
 id:5<=b.ID∧b.ID<=999999
 size:b.Size=40∨(b.Size=20∧b.High=false)
 load:0<=b.Load
 stay:b.Load < b.AF
 out:b.AF < AJ
structure Qg (AJ:Int) (AA:AH):Prop where
 num:1<=AJ∧AJ<=20
 len:AA.length<=8
 each:∀ b∈AA,Q84 AJ b
 sorted:AA.Pairwise (fun a b=>a.ID < b.ID)
theorem dH (h:l.Pairwise (· < ·)):l.Nodup:=h.imp (fun h=>by omega)
structure Z1 (s:Gc) (AA:AH) (k:Int) (l:AE):Prop where
 right:Zj s AA l
 ids:l.map (·.Box)=Zh AA k
variable {k:Int} {AA:AH}
theorem Z1.len {l:AE} (h:Z1 s AA k l):l.length<=AA.length:=by
 have:=congrArg List.length h.ids;rw [Ss] at this;rw [this];exact kH AA k
theorem Small.tier (h:Small s):∀ c∈s.AB,c.Tiers<=1000000:=fun c hc=>by have:=h.BS c hc; omega
theorem G4d {x:Slot} {size:Int} (h:oM s x size):Q38 s x:=by
 obtain⟨m,c,h1,h2,_⟩:=h.col;exact⟨m,c,h1,h2⟩
variable {af bf:AE}
theorem QY (hs:Small s) (h1:Zj s AA bf) (h2:Zj s AA af) (l1:bf.length<=100) (l2:af.length<=100) :
  xI s (bf.map (·.Box)++af.map (·.Box)) [bf,af]:=by
 refine⟨hs,fun st h0 x hx=>?_,by simp only [Sn,Ss]; omega⟩;simp only [Sw,Se,or_false] at h0;rcases h0 with rfl | rfl
 ·obtain⟨b,_,hb,_⟩:=h1.each x hx;exact⟨St.2 (.inl (Su.2 ⟨x,hx,rfl⟩)),G4d hb⟩
 ·obtain⟨b,_,hb,_⟩:=h2.each x hx;exact⟨St.2 (.inr (Su.2 ⟨x,hx,rfl⟩)),G4d hb⟩
theorem uM:Zj s AA []:=⟨fun x hx=>(Se hx).elim,List.Pairwise.nil,List.Pairwise.nil,fun m c _=>by
 unfold H9b yJ;simp only [List.foldl_nil];omega⟩
theorem uY {a b:AD} (ha:a.Pairwise (· < ·)) (hb:b.Pairwise (· < ·)) (h:∀ x,x∈a ↔ x∈b):a=b:=
 List.Perm.eq_of_pairwise (le:=fun x y:Int=>x < y) (fun x y _ _ h1 h2=>by omega) ha hb ((List.perm_ext_iff_of_nodup (dH ha) (dH hb)).2 h)
structure xH (s:Gc) (AA:AH) (k:Int) (l:AE):Prop where
 right:Zj s AA l
 mem:∀ x∈l,∃ b∈AA,b.ID=x.Box∧abB k b=true
theorem xH.nil:xH s AA k []:=⟨uM,fun x hx=>(Se hx).elim⟩
theorem xH.len {l:AE} (h:xH s AA k l):l.length<=AA.length:=by
 have h1:(l.map (·.Box)).Pairwise (· < ·):=List.pairwise_map.2 h.right.sorted;have:=(dH h1).length_le_of_subset (l₂:=AA.map (·.ID)) (fun a ha=>by
  obtain⟨x,hx,rfl⟩:=Su.1 ha;obtain⟨b,hb,e,_⟩:=h.mem x hx;exact Su.2 ⟨b,hb,e⟩)
 grind
def upon (s:Gc) (x y:Slot):Prop:=∃ (m:Nat) (c:G7) (m1:Nat) (c1:G7),x.G7=(m:Int)∧s.AB[m]? = some c∧y.G7=(m1:Int)∧s.AB[m1]? = some c1∧c.Deck=false∧c1.Deck=true∧0<=nM s c∧nM s c1=nM s c
def H25 (s:Gc) (states:List AE) (st:AE) (a b:Int):Prop:=
 (Je st a).2=true∧((∃ y∈st,y.Box=b∧G80 y.Slot (Je st a).1)∨∃ st2∈states,∃ y∈st2,y.Box=b∧upon s (Je st a).1 y.Slot)
def jG (s:Gc) (states:List AE) (a b:Int):Prop:=∃ st∈states,H25 s states st a b
structure Grown (s:Gc) (U:AD) (states:List AE) (l:AD) (id:Int) (m:Gw Int Unit) (l':AD):Prop where
 inv:kK U m l'
 sub:∀ a∈l,a∈l'
 has:id∈l'
 closed:∀ a∈l',a ∉ l->∀ b,jG s states a b->b∈l'
 least:∀ C:Int->Prop,(∀ a b,C a->jG s states a b->C b)->(∀ a∈l,C a)->C id->∀ a∈l',C a
structure Rch (s:Gc) (U:AD) (states:List AE) (l:AD) (id:Int) (m:Gw Int Unit) (l':AD):Prop where
 inv:kK U m l'
 sub:∀ a∈l++[id],a∈l'
 closed:∀ a∈l',a ∉ l->a≠id->∀ b,jG s states a b->b∈l'
 least:∀ C:Int->Prop,(∀ a b,C a->jG s states a b->C b)->(∀ a∈l,C a)->C id->∀ a∈l',C a
section
variable {s:Gc} {U:AD} {states:List AE} {l l' l2:AD} {id y:Int} {m m2:Gw Int Unit}
theorem Rch.start (h:kK U m (l++[id])):Rch s U states l id m (l++[id]):=
 ⟨h,fun a ha=>ha,fun a ha h1 h2=>by
  rcases St.1 ha with ha | ha
  ·grind
  ·exact(h2 (Sv.1 ha)).elim,fun C _ hl hid a ha=>by
  rcases St.1 ha with ha | ha
  ·grind
  ·exact Sv.1 ha ▸ hid⟩
theorem Rch.step (h:Rch s U states l id m l') (hp:jG s states id y) (g:Grown s U states l' y m2 l2):Rch s U states l id m2 l2∧(∀ a∈l',a∈l2)∧y∈l2:=
 ⟨⟨g.inv,fun a ha=>g.sub a (h.sub a ha),fun a ha h1 h2 b hb=>by
  by_cases h0:a∈l'
  ·exact g.sub b (h.closed a h0 h1 h2 b hb)
  ·exact g.closed a ha h0 b hb,fun C hc hl hid=>g.least C hc (h.least C hc hl hid) (hc id y hid hp)⟩,g.sub,g.has⟩
end
theorem tC {P:α->Prop} {l:List α} {x:α} (h1:∀ y∈l,P y) (h2:P x):∀ y∈l++[x],P y:=fun y hy=>by
 grind
theorem Jd0 {states:List AE} (hs:xI s U states):∀ (F:Nat) (id:Int) (m:Gw Int Unit) (l:AD),kK U m l->id∈U->U.length+1<=F+l.length ->
  Wp (Ye F id m l states s) (fun r=>Grown s U states l id r.1 r.2):=by
 intro F
 induction F with
 | zero=>intro id m l hi _ hF; have:=hi.le; omega
 | succ F ih=>
  intro id m l hi hid hF;show Wp (bO (Ye F) F id m l states s) _
  unfold bO;refine Gv (J36 m id) ?_;rw [hi.has];by_cases h7:id∈l
  ·rw [if_pos (S8 h7)];exact Hr (fun _=>Gx ⟨hi,fun a ha=>ha,h7,fun a ha hn=>(hn ha).elim,fun C _ hl _ a ha=>hl a ha⟩) (fun h=>by cases h)
  rw [if_neg (by rw [S9 h7]; exact Bool.false_ne_true)];refine Hr (fun h=>by cases h) (fun _=>?_);have b3:=hi.le;have b1:=hs.len;have h1:=hi.snoc h7 hid;have b2:=h1.le;have b4:(l++[id]).length=l.length+1:=by simp
  refine Ji (Qp (by rw [Sp]; omega) (by omega)) ?_;have again:∀ (y:G1) (st:AE) (m':Gw Int Unit) (l':AD),st∈states->y∈st->Rch s U states l id m' l'->jG s states id y.Box ->
    Wp (Ye F y.Box m' l' states s) (fun r=>Rch s U states l id r.1 r.2∧(∀ a∈l',a∈r.2)∧y.Box∈r.2):=
   fun y st m' l' h2 h3 h4 h5=>wp_mono (ih y.Box m' l' h4.inv (hs.each st h2 y h3).1 (by
    have:=h1.nodup.length_le_of_subset (fun a ha=>h4.sub a ha);omega)) (fun r hr=>h4.step h5 hr)
  have a5:∀ {k:Nat} {c:G7},s.AB[k]? = some c->cV s (k:Int)=some (nM s c):=fun hc=>uK hc (fun x hx=>by have:=hs.small.rows x hx; omega) (by have:=hs.small.covs; omega);refine Ja (fun pre s7=>Rch s U states l id s7.1 s7.2∧∀ st∈pre,∀ b,H25 s states st id b->b∈s7.2) ⟨.start h1,fun st h=>(Se h).elim⟩ (fun pre st post s7 nx e hI h8=>?_) (fun s7 hI=>Gx ?_)
  ·have h6:st∈states:=by rw [e]; simp
   obtain⟨hR,hD⟩:=hI;refine Rz (fun j=>Rch s U states l id j.1 j.2∧(∀ a∈s7.2,a∈j.2)∧∀ b,H25 s states st id b->b∈j.2) (fun K hK=>?_) (fun j hj=>h8 _ ⟨hj.1,tC (fun st' h' b hb=>hj.2.1 _ (hD st' h' b hb)) hj.2.2⟩);refine Gv (kS st id) (Hr (fun hf=>hK _ ⟨hR,fun a ha=>ha,fun b hb=>?_⟩) (fun hf=>?_))
   ·rw [hb.1] at hf; cases hf
   have a6:(Je st id).2=true:=by simpa using hf
   obtain⟨x,hx,_,h9⟩:=Ys a6;obtain⟨m0,c0,a7,a1⟩:=(hs.each st h6 x hx).2;rw [h9];refine Rz (fun j17=>j17=if c0.Deck=true then -1 else nM s c0) (fun K' h0=>Jk a7 a1 (Hr (fun hd=>?_) (fun hd=>h0 _ (by
    rw [if_pos (by simpa using hd)])))) (fun j17 a2=>?_)
   ·rw [a7];exact Gv (a5 a1) (h0 _ (by rw [if_neg (by simpa using hd)]))
   refine Ja (fun pre s56=>Rch s U states l id s56.1 s56.2∧(∀ a∈s7.2,a∈s56.2)∧∀ y∈pre,G80 y.Slot x.Slot->y.Box∈s56.2) ⟨hR,fun a ha=>ha,fun y h=>(Se h).elim⟩ (fun pre y post s56 nx e hI h8=>?_) (fun s56 hI=>?_)
   ·have hy:y∈st:=by rw [e]; simp
    obtain⟨i1,i2,i3⟩:=hI;refine Rz (fun j=>Rch s U states l id j.1 j.2∧(∀ a∈s56.2,a∈j.2)∧(G80 y.Slot x.Slot->y.Box∈j.2)) (fun K' h0=>?_) (fun j hj=>h8 _ ⟨hj.1,fun a ha=>hj.2.1 a (i2 a ha),tC (fun y' h' ho=>hj.2.1 _ (i3 y' h' ho)) hj.2.2⟩);refine H6 (wp_mono (Gc5 y.Slot x.Slot) (fun r62 a9=>Hr (fun hr=>?_) (fun hr=>h0 _ ⟨i1,fun a ha=>ha,fun ho=>?_⟩)))
    ·exact H6 (wp_mono (again y st _ _ h6 hy i1 ⟨st,h6,a6,.inl ⟨y,hy,rfl,by rw [h9]; exact a9.1 hr⟩⟩) (fun r hr=>h0 _ ⟨hr.1,hr.2.1,fun _=>hr.2.2⟩))
    ·rw [a9.2 ho] at hr; cases hr
   ·obtain⟨i1,i2,i3⟩:=hI;refine Ja (fun pre s65=>Rch s U states l id s65.1 s65.2∧(∀ a∈s56.2,a∈s65.2)∧∀ st2∈pre,∀ y∈st2,upon s x.Slot y.Slot->y.Box∈s65.2) ⟨i1,fun a ha=>ha,fun st2 h=>(Se h).elim⟩ (fun pre st2 post s65 nx e hI h8=>?_) (fun s65 hI=>hK _ ⟨hI.1,fun a ha=>hI.2.1 a (i2 a ha),fun b hb=>?_⟩)
    ·obtain⟨j1,j2,j3⟩:=hI;have a0:st2∈states:=by rw [e]; simp
     refine Ja (fun pre s107=>Rch s U states l id s107.1 s107.2∧(∀ a∈s65.2,a∈s107.2)∧∀ y∈pre,upon s x.Slot y.Slot->y.Box∈s107.2) ⟨j1,fun a ha=>ha,fun y h=>(Se h).elim⟩ (fun pre y post s107 nx2 e hI b0=>?_) (fun s107 hI=>h8 _ ⟨hI.1,fun a ha=>hI.2.1 a (j2 a ha),tC (fun st' h' y hy hu=>hI.2.1 _ (j3 st' h' y hy hu)) hI.2.2⟩);obtain⟨k1,k2,k3⟩:=hI;have hy:y∈st2:=by rw [e]; simp
     obtain⟨m1,c1,a8,a3⟩:=(hs.each st2 a0 y hy).2;have a4:upon s x.Slot y.Slot ↔ (0<=j17∧c1.Deck=true∧nM s c1=j17):=by
      constructor
      ·rintro⟨n0,d0,n1,d1,e1,e2,e3,e4,q1,q2,q3,q4⟩;have e5:n0=m0:=by omega
       have e6:n1=m1:=by omega
       subst e5 e6;rw [a1] at e2; cases e2;rw [a3] at e4; cases e4;rw [if_neg (by rw [q1]; exact Bool.false_ne_true)] at a2;rw [a2];exact⟨q3,q2,q4⟩
      ·rintro⟨q1,q2,q3⟩;by_cases hd:c0.Deck=true
       ·rw [if_pos hd] at a2; omega
       ·rw [if_neg hd] at a2;exact⟨m0,c0,m1,c1,a7,a1,a8,a3,by simpa using hd,q2,by omega,by omega⟩
     refine Rz (fun j=>Rch s U states l id j.1 j.2∧(∀ a∈s107.2,a∈j.2)∧(upon s x.Slot y.Slot->y.Box∈j.2)) (fun K' h0=>?_) (fun j hj=>b0 _ ⟨hj.1,fun a ha=>hj.2.1 a (k2 a ha),tC (fun y' h' ho=>hj.2.1 _ (k3 y' h' ho)) hj.2.2⟩);by_cases hj:0<=j17
     ·rw [S8 hj];simp only [cond_true,Bool.true_and];refine H6 (Jk a8 a3 (Gx ?_));cases hd:c1.Deck with
      | true=>
       simp only [cond_true,Bool.true_and];rw [a8];refine Gv (a5 a3) (Hr (fun hc=>?_) (fun hc=>h0 _ ⟨k1,fun a ha=>ha,fun hu=>?_⟩))
       ·exact H6 (wp_mono (again y st2 _ _ a0 hy k1 ⟨st,h6,a6,.inr ⟨st2,a0,y,hy,rfl,by rw [h9]; exact a4.2 ⟨hj,hd,S6 hc⟩⟩⟩) (fun r hr=>h0 _ ⟨hr.1,hr.2.1,fun _=>hr.2.2⟩))
       ·exact(S7 hc (a4.1 hu).2.2).elim
      | false=>
       simp only [cond_false,Bool.false_and];exact H6 (Gx (h0 _ ⟨k1,fun a ha=>ha,fun hu=>by have:=(a4.1 hu).2.1; rw [hd] at this; cases this⟩))
     ·rw [S9 hj];simp only [cond_false,Bool.false_and];exact H6 (Gx (H6 (Gx (h0 _ ⟨k1,fun a ha=>ha,fun hu=>(hj (a4.1 hu).1).elim⟩))))
    ·rcases hb.2 with ⟨y,hy,rfl,ho⟩ | ⟨st2,h2,y,hy,rfl,hu⟩
     ·exact hI.2.1 _ (i3 y hy (by rw [<- h9]; exact ho))
     ·exact hI.2.2 st2 h2 y hy (by rw [<- h9]; exact hu)
  ·obtain⟨hR,hD⟩:=hI;refine⟨hR.inv,fun a ha=>hR.sub a (St.2 (.inl ha)),hR.sub id (by simp),fun a ha hn b hb=>?_,hR.least⟩;by_cases e:a=id
   ·subst e;obtain⟨st,h6,hp⟩:=hb;exact hD st h6 b hp
   ·exact hR.closed a ha hn e b hb
structure jN (s:Gc) (bf af:AE) (l:AD):Prop where
 seeds:∀ st∈[bf,af],∀ y∈st,Je bf y.Box≠Je af y.Box->y.Box∈l
 closed:∀ a∈l,∀ b,jG s [bf,af] a b->b∈l
 least:∀ C:Int->Prop,(∀ a b,C a->jG s [bf,af] a b->C b)->(∀ st∈[bf,af],∀ y∈st,Je bf y.Box≠Je af y.Box->C y.Box)->∀ a∈l,C a
theorem jN.perm {l':AD} (h:jN s bf af l) (hp:∀ a,a∈l' ↔ a∈l):jN s bf af l':=
 ⟨fun st h0 y hy h1=>(hp _).2 (h.seeds st h0 y hy h1),fun a ha b hb=>(hp b).2 (h.closed a ((hp a).1 ha) b hb),fun C hc hl a ha=>h.least C hc hl a ((hp a).1 ha)⟩
theorem differ {p q:Slot×Bool}:((!(p.2==q.2))||(!decide (p.1=q.1)))=true ↔ p≠q:=by
 grind
theorem ZJ (hs:xI s U [bf,af]) (hF:U.length+1<=F) :
  Wp (Zo F s bf af) (fun r=>r.Pairwise (· < ·)∧(∀ a∈r,a∈U)∧jN s bf af r):=by
 unfold Zo;have go:∀ {m:Gw Int Unit} {l:AD} {y:G1} {st:AE} {m2:Gw Int Unit} {l2:AD},st∈[bf,af]->y∈st->Je bf y.Box≠Je af y.Box ->
   (kK U m l∧(∀ a∈l,∀ b,jG s [bf,af] a b->b∈l)∧∀ C:Int->Prop,(∀ a b,C a->jG s [bf,af] a b->C b)->(∀ st∈[bf,af],∀ y∈st,Je bf y.Box≠Je af y.Box->C y.Box)->∀ a∈l,C a) ->
   Grown s U [bf,af] l y.Box m2 l2 ->
   (kK U m2 l2∧(∀ a∈l2,∀ b,jG s [bf,af] a b->b∈l2)∧∀ C:Int->Prop,(∀ a b,C a->jG s [bf,af] a b->C b)->(∀ st∈[bf,af],∀ y∈st,Je bf y.Box≠Je af y.Box->C y.Box)->∀ a∈l2,C a):=
  fun {m l y st m2 l2} h3 hy h0 hI g=>⟨g.inv,fun a ha b hb=>by
   by_cases h4:a∈l
   ·exact g.sub b (hI.2.1 a h4 b hb)
   ·exact g.closed a ha h4 b hb,fun C hc hl=>g.least C hc (hI.2.2 C hc hl) (hl st h3 y hy h0)⟩
 refine Ja (fun pre s9=>(kK U s9.1 s9.2∧(∀ a∈s9.2,∀ b,jG s [bf,af] a b->b∈s9.2)∧∀ C:Int->Prop,(∀ a b,C a->jG s [bf,af] a b->C b)->(∀ st∈[bf,af],∀ y∈st,Je bf y.Box≠Je af y.Box->C y.Box)->∀ a∈s9.2,C a) ∧
   ∀ st∈pre,∀ y∈st,Je bf y.Box≠Je af y.Box->y.Box∈s9.2)
  ⟨⟨.start,fun a h=>(Se h).elim,fun C _ _ a h=>(Se h).elim⟩,fun st h=>(Se h).elim⟩ (fun pre st post s9 nx e hI h6=>?_) (fun s9 hI=>?_)
 ·have h3:st∈[bf,af]:=by rw [e]; simp
  obtain⟨hA,hB⟩:=hI;refine Ja (fun pre s59=>(kK U s59.1 s59.2∧(∀ a∈s59.2,∀ b,jG s [bf,af] a b->b∈s59.2)∧∀ C:Int->Prop,(∀ a b,C a->jG s [bf,af] a b->C b)->(∀ st∈[bf,af],∀ y∈st,Je bf y.Box≠Je af y.Box->C y.Box)->∀ a∈s59.2,C a) ∧
    (∀ a∈s9.2,a∈s59.2)∧∀ y∈pre,Je bf y.Box≠Je af y.Box->y.Box∈s59.2)
   ⟨hA,fun a ha=>ha,fun y h=>(Se h).elim⟩ (fun pre y post s59 nx2 e hI h5=>?_) (fun s59 hI=>h6 _ ⟨hI.1,tC (fun st' h' y hy h0=>hI.2.1 _ (hB st' h' y hy h0)) hI.2.2⟩)
  have hy:y∈st:=by rw [e]; simp
  obtain⟨j1,j2,j3⟩:=hI;refine Rz (fun j=>(kK U j.1 j.2∧(∀ a∈j.2,∀ b,jG s [bf,af] a b->b∈j.2)∧∀ C:Int->Prop,(∀ a b,C a->jG s [bf,af] a b->C b)->(∀ st∈[bf,af],∀ y∈st,Je bf y.Box≠Je af y.Box->C y.Box)->∀ a∈j.2,C a) ∧
    (∀ a∈s59.2,a∈j.2)∧(Je bf y.Box≠Je af y.Box->y.Box∈j.2)) (fun K hK=>?_) (fun j hj=>h5 _ ⟨hj.1,fun a ha=>hj.2.1 a (j2 a ha),tC (fun y' h' ho=>hj.2.1 _ (j3 y' h' ho)) hj.2.2⟩)
  refine Gv (kS bf y.Box) (Gv (kS af y.Box) (Hr (fun hd=>?_) (fun hd=>hK _ ⟨j1,fun a ha=>ha,fun h0=>?_⟩)))
  ·have h0:=differ.1 hd;exact H6 (wp_mono (Jd0 hs F y.Box _ _ j1.1 (hs.each st h3 y hy).1 (by omega)) (fun r hr=>hK _ ⟨go h3 hy h0 j1 hr,hr.sub,fun _=>hr.has⟩))
  ·rw [differ.2 h0] at hd; cases hd
 ·obtain⟨⟨hA,hB,hC⟩,hD⟩:=hI;have h1:=hA.le;have h2:=hs.len;have h7:wI s9.2=some (lJ s9.2):=by
   unfold wI;rw [S8 (show s9.2.length < 4611686018427387904 by omega)];rfl
  have hp:=qD s9.2;refine Gv h7 (Gx ⟨?_,fun a ha=>hA.sub a (hp.mem_iff.1 ha),jN.perm ⟨hD,hB,hC⟩ (fun a=>hp.mem_iff)⟩);have hn:(lJ s9.2).Nodup:=hp.nodup_iff.2 hA.nodup;exact(List.pairwise_and_iff.2 ⟨uJ s9.2,hn⟩).imp (fun {a b} h=>by have h1:=h.1; have h2:=h.2; omega)

def inP (st:AE) (id:Int):Bool:=st.any fun x=>decide (x.Box=id)
theorem JQ (st:AE) (id:Int):Rh st (fun z0=>aQ z0 id)=some (inP st id):=by
 unfold Rh;have h:Rb st (fun z0=>aQ z0 id)=some (uS (fun x:G1=>decide (x.Box=id)) st):=jF (fun x _=>rfl);rw [h,cT,kW];rfl
def kQ (l:AD) (a b:AE):Int:=((l.filter fun id=>inP a id&&inP b id).length:Int)
variable {a b:AE}
theorem J04 (h:gI F s AA a b=some (l,0)) (hl:l.length<=1000000):Jf F a b s AA=some (kQ l a b):=by
 refine eF ?_;unfold Jf;refine Gv h ?_;refine Ja (fun pre st=>st=kQ pre a b) rfl (fun pre y post st nx e hI h1=>?_) (fun st hI=>Gx hI);subst hI;have e:l=pre++y::post:=e;have h4:pre.length < l.length:=by rw [e]; simp
 have hb:0<=kQ pre a b∧kQ pre a b<=(pre.length:Int):=by
  unfold kQ;have:=S3 (fun id=>inP a id&&inP b id) pre;omega
 have h0:kQ (pre++[y]) a b=kQ pre a b+(bif inP a y&&inP b y then 1 else 0):=by
  unfold kQ;rw [List.filter_append,Sn];cases hc:(inP a y&&inP b y) <;> simp [hc]
 rw [each];refine Rz (fun j:Int=>j=bif inP a y then 1 else 0) (fun K hK=>Gv (JQ a y) (Hr (fun hc=>Hy ⟨by omega,by omega⟩ (hK _ (by rw [hc]; rfl))) (fun hc=>hK _ (by rw [hc]; rfl)))) (fun j hj=>?_);rw [each];refine Rz (fun j2:Int=>j2=j+bif inP b y then 1 else 0) (fun K hK=>Gv (JQ b y) (Hr (fun hc=>Hy ⟨by subst hj; cases inP a y <;> simp,by subst hj; cases inP a y <;> simp⟩ (hK _ (by rw [hc]; rfl))) (fun hc=>hK _ (by rw [hc]; simp)))) (fun j2 h2=>?_);rw [each];subst h2;subst hj;cases ha:inP a y <;> cases h3:inP b y <;> rw [ha,h3] at h0
 ·exact Gv (x:=0) rfl (Hy ⟨by omega,by omega⟩ (h1 _ (by rw [h0]; rfl)))
 ·exact Gv (x:=0) rfl (Hy ⟨by omega,by omega⟩ (h1 _ (by rw [h0]; rfl)))
 ·exact Gv (x:=0) rfl (Hy ⟨by omega,by omega⟩ (h1 _ (by rw [h0]; rfl)))
 ·exact Gv (x:=1) rfl (Hy ⟨by omega,by omega⟩ (h1 _ (by rw [h0]; rfl)))

theorem jA.sm (h:jA s):Small s:=
 ⟨h.right,⟨h.built.some,by have:=h.few; omega⟩,fun c hc=>by have:=(h.low c hc).2; omega,by have:=h.built.covs.len; omega,fun x hx=>by
  rcases (h.built.covs.each x hx).rows with e | e <;> rw [e] <;> simp⟩
theorem J6e (hs:Small s) (ha:Zj s AA a) (hb:Zj s AA b) (la:a.length<=20) (lb:b.length<=20) (hF:41<=F) :
  ∃ l:AD,l.Pairwise (· < ·)∧(∀ x∈l,x∈a.map (·.Box)++b.map (·.Box))∧jN s a b l∧Jf F a b s AA=some (kQ l a b):=by
 have h0:=QY hs ha hb (by omega) (by omega);obtain⟨l,hl,h1,h2,h3⟩:=ZJ h0 (F:=F) (by simp only [Sn,Ss]; omega);refine⟨l,h1,h2,h3,J04 (F:=F) ?_ ?_⟩
 ·have ra:Qq s AA a=some true:=by
   obtain⟨r,hr,hi⟩:=fK (AA:=AA) (l:=a) hs.right hs.tier (by omega);rw [hr,hi.2 ha]
  have rb:Qq s AA b=some true:=by
   obtain⟨r,hr,hi⟩:=fK (AA:=AA) (l:=b) hs.right hs.tier (by omega);rw [hr,hi.2 hb]
  unfold gI;rw [ra,rb,hl];rfl
 ·have:=(dH h1).length_le_of_subset h2;grind
theorem Jb2 (h:l.Pairwise (· < ·)):0<=kQ l a b∧kQ l a b<=(a.length:Int):=by
 unfold kQ;have h1:(l.filter fun id=>inP a id&&inP b id).Nodup:=(dH h).filter _;have h2:=h1.length_le_of_subset (l₂:=a.map (·.Box)) (fun x hx=>by
  have:=(Sx.1 hx).2;obtain⟨y,hy,h0⟩:=List.any_eq_true.1 ((Bool.and_eq_true_iff.1 this).1);exact Su.2 ⟨y,hy,S6 h0⟩)
 grind

def gL (F:Nat) (s:Gc) (AA:AH) (a b:AE):Int:=max 0 (min 1000 ((Jf F a b s AA).getD 0))
theorem ZE (a b:AE):0<=gL F s AA a b∧gL F s AA a b<=1000:=by
 unfold gL;omega
theorem kF (hs:Small s) (ha:Zj s AA a) (hb:Zj s AA b) (la:a.length<=20) (lb:b.length<=20) (hF:41<=F) :
  ∃ l:AD,l.Pairwise (· < ·)∧jN s a b l∧gL F s AA a b=kQ l a b∧Jf F a b s AA=some (gL F s AA a b):=by
 obtain⟨l,h1,_,h3,h4⟩:=J6e hs ha hb la lb hF;have h5:=Jb2 (a:=a) (b:=b) h1;have h6:gL F s AA a b=kQ l a b:=by
  unfold gL;grind
 grind
end Go.Proofs.YtibhpogonkdiaaaGreat
