/-
 Plans that Voyage makes are right; What plan.Count returns: Boxes that are never restowed:
-/
import Derived.Test.YtibhpogonkdiaaaGreatSeaV
import Derived.Test.YtibhpogonkdiaaaGreatXZ
set_option maxRecDepth 100000
namespace Go.Proofs.YtibhpogonkdiaaaGreat
open Go.RowKit

section maps
variable {κ ν:Type} [DecidableEq κ]
end maps
theorem J87 {l:AE} {ids:AD} (h:l.map (·.Box)=ids):Zw l ids (fun z0 z1=>cY z0 z1)=some true:=by
 refine eF ?_;subst h;unfold Zw;refine Hr (fun h=>?_) (fun _=>?_)
 ·grind
 refine Ja (fun _ _=>True) trivial (fun pre y post s nx e _ h0=>?_) (fun s _=>Gx);refine Jk (m:=pre.length) (x:=y.Box) rfl (by rw [e]; simp) ?_;have:cY y y.Box=some true:=by unfold cY; simp
 exact Gv this (Hr (fun h=>by cases h) (fun _=>h0 _ trivial))
variable {F:Nat}
theorem J1d {l:AD} {del:Int->Option Bool} {p:Int->Bool} (hd:∀ x∈l,del x=some (p x)) (hF:l.length+2<=F) (hl:l.length<=100000):Y8 F l del=some (l.filter (fun x=>!p x)):=by
 refine eF ?_;unfold Y8;have hi:Yj l del=some (uS p l):=jF hd;refine Gv hi ?_;rcases qN p l with ⟨h1,h2,_⟩ | ⟨m,x,h1,h2,h3,h4⟩
 ·rw [h1];refine Hr (fun _=>Gx ?_) (fun h=>by simp at h);exact(List.filter_eq_self.2 (fun a ha=>by rw [h2 a ha]; rfl)).symm
 ·have hm:=(Sa h2).1;rw [h1];refine Hr (fun h=>?_) (fun _=>?_)
  ·have:=S6 h; omega
  refine Hy ⟨by omega,by omega⟩ ?_;have h6:∀ k,k < m->∀ y,l[k]? = some y->p y=false:=by
   intro k hk y hy;obtain⟨_,j,hj,b0,a9⟩:=List.find?_eq_some_iff_getElem.1 h4;have a0:l.findIdx? p=some m:=by
    have h5:=h1;unfold uS at h5;cases hf:l.findIdx? p with
    | none=>rw [hf] at h5; simp only at h5; omega
    | some j2=>rw [hf] at h5; simp only at h5; rw [show j2=m by omega]
   obtain⟨_,_,hb⟩:=List.findIdx?_eq_some_iff_getElem.1 a0;have:=hb k hk;have a3:=(Sa hy);obtain⟨b1,e⟩:=a3;rw [e] at this;simpa using this
  refine wp_loop (fun st=>∃ i j:Nat,st.1=(i:Int)∧st.2.1=(j:Int)∧i < j∧j<=l.length∧st.2.2.length=l.length∧st.2.2.take i=(l.take j).filter (fun x=>!p x)∧st.2.2.drop j=l.drop j) (fun st=>l.length+1 - st.2.1.toNat)
   ⟨m,m+1,rfl,rfl,by omega,by omega,rfl,?_,rfl⟩ (by show l.length+1 - ((m:Int)+1).toNat < F; omega) (fun st nx hI a4=>?_)
  ·rw [List.take_add_one,h2,List.filter_append];simp only [Option.toList_some,List.filter_cons,h3,Bool.not_true,Bool.false_eq_true,if_false,List.filter_nil,List.append_nil];refine(List.filter_eq_self.2 (fun a ha=>?_)).symm;obtain⟨k,hk⟩:=List.mem_iff_getElem?.1 ha;have h8:k < m:=by
    have:=(Sa hk).1;rw [List.length_take] at this; omega
   rw [List.getElem?_take_of_lt h8] at hk;rw [h6 k h8 a hk]; rfl
  ·obtain⟨a1,a2,cur⟩:=st;obtain⟨i,j,e1,e2,b2,b3,h7,ht,h0⟩:=hI;simp only at e1 e2 h7 ht h0 ⊢;subst e1 e2;refine Hr (fun h=>?_) (fun h=>?_)
   ·have hj:j < l.length:=by have:=S6 h; omega
    have a5:cur[j]? = some l[j]:=by
     have:(cur.drop j)[0]? = (l.drop j)[0]? := by rw [h0]
     rw [Sm,Sm] at this;simpa [hj] using this
    have h9:l[j]? = some l[j]:=by simp [hj]
    refine Rz (fun st=>∃ i':Nat,st.1=(i':Int)∧i' < j+1∧st.2.length=l.length∧st.2.take i'=(l.take (j+1)).filter (fun x=>!p x)∧st.2.drop (j+1)=l.drop (j+1)) (fun K hK=>?_) (fun st a6=>?_)
    ·refine Jk rfl a5 (Gv (hd l[j] (List.getElem_mem hj)) (Hr (fun hp=>?_) (fun hp=>hK _ ?_)))
     ·have a7:cur[i]? = some (cur[i]'(by omega)):=Sb (by omega);refine Jk rfl a7 (Hy ⟨by omega,by omega⟩ (hK _ ⟨i+1,rfl,by omega,by simpa using h7,?_,?_⟩))
      ·simp only [Int.toNat_natCast];rw [List.take_add_one,List.take_set_of_le (Sf),ht,List.take_add_one,h9,List.filter_append];have:(cur.set i l[j])[i]? = some l[j]:=by rw [List.getElem?_set_self (by omega)]
       rw [this];simp [hp]
      ·simp only [Int.toNat_natCast];rw [List.drop_set_of_lt (by omega)];have:=congrArg (List.drop 1) h0;rw [List.drop_drop,List.drop_drop] at this;exact this
     ·refine⟨i,rfl,by omega,h7,?_,?_⟩
      ·rw [ht,List.take_add_one,h9,List.filter_append];simp [hp]
      ·have:=congrArg (List.drop 1) h0;rw [List.drop_drop,List.drop_drop] at this;exact this
    ·obtain⟨i',g1,g2,g3,g4,g5⟩:=a6;refine Hy ⟨by omega,by omega⟩ (a4 _ ⟨i',j+1,g1,by simp,g2,by omega,g3,g4,g5⟩ ?_);simp only;omega
   ·have hj:j=l.length:=by have:=S7 h; omega
    subst hj;have a8:(blank cur i (cur.length - i) (0:Int)).length=cur.length:=by
     unfold blank;simp only [Sn,List.length_take,List.length_replicate,List.length_drop];omega
    refine H6 (aY rfl (by omega) (H6 (aY rfl (by rw [a8]; omega) (Gx ?_))));unfold blank;rw [List.append_assoc,List.take_left' (by rw [List.length_take]; omega),ht,List.take_length]
variable {s:Gc} {AJ:Int} {AA:AH} {p:cA}
theorem J08 (hs:Small s) (hb:Qg AJ AA) (hp:vE s AA AJ p):mB s AA AJ p=some (0,0):=by
 refine eF ?_;unfold mB;have hl:=hb.len;refine Gv hs.right (Hr (fun h=>by cases h) (fun _=>Gv (GK hb) (Hr (fun h=>by cases h) (fun _=>Hr (fun h=>?_) (fun _=>?_)))))
 ·exact(S6 h hp.len).elim
 refine Ja (fun _ _=>True) trivial (fun pre y post u nx e _ h0=>?_) (fun u _=>Gx);have hy:Z1 s AA pre.length y:=hp.each pre.length y (by rw [e]; simp);have h1:=hy.len;refine H6 (wp_mono (fK hs.right hs.tier (by omega)) (fun r hr=>?_));refine Hr (fun h=>?_) (fun _=>?_)
 ·have:=hr.2 hy.right;rw [this] at h; cases h
 ·refine Gv (kT AA pre.length (by omega)) (Gv (J87 hy.ids) (Hr (fun h=>by cases h) (fun _=>h0 _ trivial)))
def bX (l:List AE) (k:Nat):AE:=if k=0 then [] else (l[k - 1]?).getD []
theorem J07 (p:cA):∃ ys,iC p=some ys∧ys.length=p.AO.length∧∀ k y,ys[k]? = some y->y.1=bX p.AO k∧p.AO[k]? = some y.2:=by
 have:Wp (iC p) (fun ys=>ys.length=p.AO.length∧∀ k y,ys[k]? = some y->y.1=bX p.AO k∧p.AO[k]? = some y.2):=by
  unfold iC;refine Ja (fun pre st=>st.1=bX p.AO pre.length∧st.2.length=pre.length∧∀ k y,st.2[k]? = some y->y.1=bX p.AO k∧p.AO[k]? = some y.2) ⟨rfl,rfl,fun k y h=>by simp at h⟩ (fun pre y post st nx e hI h0=>?_) (fun st hI=>Gx hI.2);obtain⟨h1,h2,h3⟩:=hI;have hy:p.AO[pre.length]? = some y:=by rw [e]; simp
  refine h0 _ ⟨?_,by simp [h2],fun k z hz=>?_⟩
  ·show y=bX p.AO (pre++[y]).length
   unfold bX;rw [Sn,Sp,if_neg (by omega),Nat.add_sub_cancel,hy]; rfl
  ·grind
 obtain⟨ys,e,h⟩:=this;exact⟨ys,e,h⟩
section
variable {s:Gc} {U:AD} {states:List AE} {l l' l2:AD} {id y:Int} {m m2:Gw Int Unit}
end
section
variable {s:Gc} {AA:AH} {bf af:AE} {r:AD}
end

def tot {α:Type} (f:α->Int):List α->Int
 | []=>0
 | x::l=>f x+tot f l
theorem zV {α:Type} {f:α->Int}:∀ (l m:List α),tot f (l++m)=tot f l+tot f m
 | [],m=>by simp [tot]
 | x::l,m=>by rw [List.cons_append,tot,tot,zV l m]; omega
theorem Jad {α:Type} {f:α->Int} (l:List α) (x:α):tot f (l++[x])=tot f l+f x:=by rw [zV]; simp [tot]
def ZZ (bf af:AE) (id:Int):Bool:=(Je bf id).2&&(Je af id).2
theorem G7a (hb:Qg AJ AA) {b:Box} (hm:b∈AA) (k:Int):b.ID∈Zh AA k ↔ abB k b=true:=by
 unfold Zh;rw [Su];constructor
 ·rintro⟨b',h0,e⟩;obtain⟨q1,q2⟩:=Sx.1 h0;have:=hb.inj q1 hm e;grind
 ·grind
def G7f (s:Gc) (states:List AE) (k:Nat) (x:AD):Prop:=
 ∃ af L,states[k]? = some af∧L.Pairwise (· < ·)∧jN s (bX states k) af L∧x=L.filter (ZZ (bX states k) af)∧x.length<=16
theorem H06 {bf af:AE} (hs:Small s) (h1:Zj s AA bf) (h2:Zj s AA af) (l1:bf.length<=8) (l2:af.length<=8) (hF:60<=F) :
  Wp (Zo F s bf af) (fun r23=>Wp (Y8 F r23 (fun z0=>eR z0 bf af)) (fun x=>∃ L,L.Pairwise (· < ·)∧jN s bf af L∧x=L.filter (ZZ bf af)∧x.length<=16)):=by
 have hU:=QY hs h1 h2 (by omega) (by omega);have h5:(bf.map (·.Box)++af.map (·.Box)).length<=16:=by simp only [Sn,Ss]; omega
 obtain⟨r,e,h0,h3,h4⟩:=ZJ hU (F:=F) (by omega);refine⟨r,e,?_⟩;have h6:=(dH h0).length_le_of_subset (fun a ha=>h3 a ha);refine⟨_,J1d (p:=fun id=>(!(Je bf id).2)||(!(Je af id).2)) (fun x _=>eF (Gv (kS bf x) (Gv (kS af x) Gx))) (by omega) (by omega),r,h0,h4,?_,Nat.le_trans (S3 _ _) (by omega)⟩;refine List.filter_congr (fun x _=>?_);unfold ZZ;grind
theorem Ga8 (hs:Small s) (hb:Qg AJ AA) (hp:vE s AA AJ p) (hF:60<=F) :
  Wp (iF F s AA AJ p) (fun r=>r.2=0∧r.1.length=p.AO.length∧∀ k x,r.1[k]? = some x->G7f s p.AO k x):=by
 unfold iF;refine Gv (J08 hs hb hp) (Hr (fun h=>by simp at h) (fun _=>?_));refine Gv (show pF p=some () from rfl) ?_;obtain⟨ys,e0,h6,h7⟩:=J07 p;refine Gv e0 ?_;have h8:p.AO.length<=20:=by have:=hp.len; have:=hb.num; omega
 have a2:=hb.len;refine Ja (fun pre out=>out.length=pre.length∧∀ (k:Nat) x,out[k]? = some x->G7f s p.AO k x) ⟨rfl,fun k x h=>(by simp at h)⟩ (fun pre y post out nx e hI h9=>?_)
  (fun out hI=>Gx ⟨rfl,hI.1.trans h6,hI.2⟩)
 obtain⟨h1,h2⟩:=hI;have h5:ys[pre.length]? = some y:=by rw [e]; simp
 have a3:pre.length < 20:=by have:=(Sa h5).1; omega
 obtain⟨g1,g2⟩:=h7 pre.length y h5;have h3:Z1 s AA pre.length y.2:=hp.each _ _ g2;have h0:Zj s AA y.1∧y.1.length<=8:=by
  rw [g1];unfold bX;by_cases hk:pre.length=0
  ·rw [if_pos hk]; exact⟨uM,by simp⟩
  ·rw [if_neg hk];have a4:pre.length - 1 < p.AO.length:=by have:=(Sa g2).1; omega
   have h4:p.AO[pre.length - 1]? = some p.AO[pre.length - 1]:=by simp
   have:=hp.each _ _ h4;rw [h4];exact⟨this.right,by have:=this.len; simp only [Option.getD_some]; omega⟩
 have a5:=h3.len;refine H6 (wp_mono (H06 hs h0.1 h3.right h0.2 (by omega) hF) (fun r23 hr=>H6 (wp_mono hr (fun r25 a0=>?_))));refine Ji (Qp (by rw [Sp]; omega) (by omega)) (h9 _ ⟨by simp [h1],fun k x hx=>?_⟩);rw [List.getElem?_append] at hx;split at hx
 ·exact h2 k x hx
 ·rename_i hk;have a1:k - out.length=0:=by
   have:=(Sa hx).1;simp only [Sp] at this; omega
  rw [a1] at hx;simp only [List.getElem?_cons_zero,Option.some.injEq] at hx;subst hx;have:k=pre.length:=by omega
  subst this;obtain⟨L,hL⟩:=a0;exact⟨y.2,L,g2,g1 ▸ hL⟩
def zW (out:List AD):Int:=tot (fun x:AD=>(x.length:Int)) out
theorem H73 (hs:Small s) (hb:Qg AJ AA) (hp:vE s AA AJ p) (hF:60<=F) :
  Wp (fP F s AA AJ p) (fun r=>r.2=0∧∃ out:List AD,out.length=p.AO.length∧r.1=zW out∧(0<=r.1∧r.1<=400)∧∀ k x,out[k]? = some x->G7f s p.AO k x):=by
 have h3:p.AO.length<=20:=by have:=hp.len; have:=hb.num; omega
 unfold fP;refine H6 (wp_mono (Ga8 hs hb hp hF) (fun r hr=>?_));obtain⟨h0,h1,h2⟩:=hr;refine Ja (fun pre n=>n=zW pre∧0<=n∧n<=16*(pre.length:Int)) ⟨rfl,by omega,by simp⟩ (fun pre x post n nx e hI h4=>?_) (fun n hI=>Gx ⟨h0,r.1,h1,hI.1,⟨hI.2.1,by have:=hI.2.2; omega⟩,h2⟩);obtain⟨i1,i2,i3⟩:=hI;have hx:r.1[pre.length]? = some x:=by rw [e]; simp
 obtain⟨_,_,_,_,_,_,h5⟩:=h2 _ _ hx;have h6:pre.length < 20:=by have:=(Sa hx).1; omega
 refine Hy ⟨by omega,by omega⟩ (h4 _ ⟨?_,by omega,?_⟩)
 ·unfold zW; rw [Jad,i1]; rfl
 ·rw [Sn,Sp]; omega

theorem J0e {a b:AE} {l l':AD} (h:l.Pairwise (· < ·)) (h':l'.Pairwise (· < ·)) (g:jN s a b l) (g':jN s a b l'):l=l':=
 uY h h' fun x=>⟨fun hx=>g.least (fun y=>y∈l') (fun u v hu hp=>g'.closed u hu v hp) (fun st h0 y hy h1=>g'.seeds st h0 y hy h1) x hx,fun hx=>g'.least (fun y=>y∈l) (fun u v hu hp=>g.closed u hu v hp) (fun st h0 y hy h1=>g.seeds st h0 y hy h1) x hx⟩
theorem H36 {R:AE->AE->Int}:∀ (S:List AE) (out:List AD),out.length=S.length->(∀ (k:Nat) x,out[k+1]? = some x->∀ a b,S[k]? = some a->S[k+1]? = some b->(x.length:Int)=R a b)->zW out.tail=wE R S
 | [],out,h,_=>by
  have:out=[]:=S1 h;subst this; rfl
 | [a],out,h,_=>by
  match out,h with
  | [x],_=>rfl
 | a::b::S,out,h,hk=>by
  match out,h with
  | x::y::out,h=>
   have h1:=hk 0 y rfl a b rfl rfl;have h2:=H36 (R:=R) (b::S) (y::out) (by simpa using h) fun k z hz c d hc hd=>hk (k+1) z hz c d hc hd;show (y.length:Int)+zW out=R a b+wE R (b::S)
   have h2:zW out=wE R (b::S):=h2;omega
theorem Ge1 (hs:Small s) (hb:Qg AJ AA) (hp:vE s AA AJ p) :
  Wp (fP 60 s AA AJ p) (fun r=>r.2=0∧r.1=wE (gL 60 s AA) p.AO∧∃ out:List AD,out.length=p.AO.length∧r.1=zW out∧(0<=r.1∧r.1<=400)∧∀ k x,out[k]? = some x->G7f s p.AO k x):=by
 refine wp_mono (H73 (F:=60) hs hb hp (by omega)) fun r hr=>?_;obtain⟨h0,out,h1,h2,h3,h4⟩:=hr;refine⟨h0,?_,out,h1,h2,h3,h4⟩;have h8:=hb.len;rw [h2,<- H36 (R:=gL 60 s AA) p.AO out h1 fun k x hx a b ha h6=>?_]
 ·cases out with
  | nil=>rfl
  | cons x out=>
   obtain⟨af,L,_,_,_,e,_⟩:=h4 0 x rfl;have h7:x=[]:=by
    rw [e];refine List.filter_eq_nil_iff.2 fun u _=>?_;unfold ZZ bX;rw [if_pos rfl];have:(Je [] u).2=false:=rfl;rw [this];simp
   subst h7;show (([]:AD).length:Int)+zW out=zW out
   simp
 ·obtain⟨af,L,g1,g2,g3,g4,_⟩:=h4 (k+1) x hx;have h5:bX p.AO (k+1)=a:=by
   unfold bX;rw [if_neg (by omega),Nat.add_sub_cancel,ha];rfl
  rw [h5] at g3 g4;rw [h6] at g1;cases g1;have sa:=hp.each k a ha;have sb:=hp.each (k+1) b h6;have la:=sa.len;have lb:=sb.len;obtain⟨l,q1,q2,q3,_⟩:=kF (F:=60) hs sa.right sb.right (by omega) (by omega) (by omega);rw [q3,J0e q1 g2 q2 g3,g4];unfold kQ;congr 2;refine List.filter_congr fun u _=>?_;unfold ZZ;rw [Bool.eq_iff_iff,Sq,Sq,G1b,G1b]

def stK (S:List AE) (k:Nat):AE:=(S[k]?).getD []
structure iQ (s:Gc) (AA:AH) (AJ:Int) (S:List AE) (out:List AD):Prop where
 bok:Qg AJ AA
 len:(S.length:Int)=AJ
 each:∀ k,k < S.length->Z1 s AA k (stK S k)
 rest:∀ k,k < S.length->∃ L x,out[k]? = some x∧jN s (bX S k) (stK S k) L∧x=L.filter (ZZ (bX S k) (stK S k))
def kG (out:List AD) (id:Int):Bool:=out.any (fun x=>x.any (fun y=>decide (id=y)))
theorem J77 {out:List AD} {id:Int} {x:AD} (h1:x∈out) (h2:id∈x):kG out id=true:=List.any_eq_true.2 ⟨x,h1,List.any_eq_true.2 ⟨id,h2,S8 rfl⟩⟩
section
variable {s:Gc} {AA:AH} {AJ:Int} {S:List AE} {out:List AD} {a b:Box}
variable {k:Nat}
theorem iQ.prev (h:iQ s AA AJ S out) (hk:k < S.length):(bX S k).map (·.Box)=Zh AA ((k:Int) - 1):=by
 unfold bX;by_cases h0:k=0
 ·subst h0;rw [if_pos rfl];unfold Zh;symm;rw [List.map_nil,List.map_eq_nil_iff,List.filter_eq_nil_iff];intro b hb;have:=(h.bok.each b hb).load;unfold abB;rw [S9 (by omega)];simp
 ·rw [if_neg h0];have:=(h.each (k - 1) (by omega)).ids;unfold stK at this;rw [this];congr 1;omega
theorem iQ.prev_eq (_:iQ s AA AJ S out) (h0:0 < k):bX S k=stK S (k - 1):=by
 unfold bX stK;grind
theorem iQ.atPrev (h:iQ s AA AJ S out) (hk:k < S.length) (hb:b∈AA):b.ID∈(bX S k).map (·.Box) ↔ abB ((k:Int) - 1) b=true:=by
 rw [h.prev hk]; exact G7a h.bok hb _
theorem iQ.at (h:iQ s AA AJ S out) (hk:k < S.length) (hb:b∈AA):b.ID∈(stK S k).map (·.Box) ↔ abB (k:Int) b=true:=by
 rw [(h.each k hk).ids]; exact G7a h.bok hb _
theorem iQ.caught (h:iQ s AA AJ S out) (hk:k < S.length) (hb:b∈AA) (h1:abB ((k:Int) - 1) b=true) (h2:abB (k:Int) b=true) {L x:AD} (ex:out[k]? = some x) (hx:x=L.filter (ZZ (bX S k) (stK S k))) (h0:b.ID∈L):kG out b.ID=true:=by
 refine J77 (Sd ex) ?_;rw [hx,Sx];refine⟨h0,?_⟩;unfold ZZ;rw [Sq,bN,bN];exact⟨(h.atPrev hk hb).2 h1,(h.at hk hb).2 h2⟩
theorem iQ.stay (h:iQ s AA AJ S out) (hb:b∈AA) (hm:kG out b.ID=false) (hk:k < S.length) (h1:abB ((k:Int) - 1) b=true) (h2:abB (k:Int) b=true):Je (bX S k) b.ID=Je (stK S k) b.ID:=by
 refine Decidable.byContradiction (fun h0=>?_);obtain⟨L,x,ex,hL,hx⟩:=h.rest k hk;obtain⟨y,hy,e⟩:=Su.1 ((h.atPrev hk hb).2 h1);have h3:b.ID∈L:=by
  rw [<- e];exact hL.seeds _ (by simp) y hy (by rw [e]; exact h0)
 rw [h.caught hk hb h1 h2 ex hx h3] at hm;cases hm
theorem iQ.fixed (h:iQ s AA AJ S out) (hb:b∈AA) (hm:kG out b.ID=false):∀ (n t:Nat),t+n < S.length->b.Load<=t->((t+n:Nat):Int) < b.AF->Je (stK S t) b.ID=Je (stK S (t+n)) b.ID
 | 0,t,_,_,_=>rfl
 | n+1,t,hk,h1,h2=>by
  rw [h.fixed hb hm n t (by omega) h1 (by omega)];have:=h.stay hb hm (k:=t+(n+1)) hk (by unfold abB; rw [S8 (by omega),S8 (by omega)]; rfl) (by unfold abB; rw [S8 (by omega),S8 (by omega)]; rfl);rw [h.prev_eq (by omega)] at this;exact this
theorem iQ.apart (h:iQ s AA AJ S out) (ha:a∈AA) (hb:b∈AA) (ma:kG out a.ID=false) (mb:kG out b.ID=false) (c1:a.Load < b.Load) (c2:b.Load < a.AF) (c3:a.AF < b.AF) {t:Nat} (ht:b.Load<=t) (h7:(t:Int) < a.AF) :
  ¬ G80 (Je (stK S t) b.ID).1 (Je (stK S t) a.ID).1∧¬ G80 (Je (stK S t) a.ID).1 (Je (stK S t) b.ID).1:=by
 have ka:=(h.bok.each a ha);have kb:=(h.bok.each b hb);have la:=ka.load;have oa:=ka.out;have ob:=kb.out;have h6:=h.len;constructor
 ·intro h1;obtain⟨k,hk⟩:∃ k:Nat,a.AF=(k:Int):=⟨a.AF.toNat,by omega⟩;have h0:k < S.length:=by omega
  have ab1:abB ((k:Int) - 1) a=true:=by unfold abB; rw [S8 (by omega),S8 (by omega)]; rfl
  have ab2:abB (k:Int) a=false:=by unfold abB; rw [S9 (by omega:¬ (k:Int) < a.AF)]; simp
  have bb1:abB ((k:Int) - 1) b=true:=by unfold abB; rw [S8 (by omega),S8 (by omega)]; rfl
  have bb2:abB (k:Int) b=true:=by unfold abB; rw [S8 (by omega),S8 (by omega)]; rfl
  obtain⟨L,x,ex,hL,hx⟩:=h.rest k h0;have fa:=h.fixed ha ma (k - 1 - t) t (by omega) (by omega) (by omega);have fb:=h.fixed hb mb (k - 1 - t) t (by omega) ht (by omega);rw [show t+(k - 1 - t)=k - 1 by omega,<- h.prev_eq (by omega:0 < k)] at fa fb;rw [fa,fb] at h1;have pa:=bN.2 ((h.atPrev h0 ha).2 ab1);have pb:=bN.2 ((h.atPrev h0 hb).2 bb1);have h4:(Je (stK S k) a.ID).2=false:=by
   cases hh:(Je (stK S k) a.ID).2 with
   | false=>rfl
   | true=>
    have:=(h.at h0 ha).1 (bN.1 hh);rw [ab2] at this; cases this
  obtain⟨y,hy,e,_⟩:=Ys pa;have h2:a.ID∈L:=by
   rw [<- e];refine hL.seeds _ (by simp) y hy (fun he=>?_);rw [e] at he;rw [<- he,pa] at h4; cases h4
  obtain⟨z,hz,e2,e3⟩:=Ys pb;have h3:b.ID∈L:=hL.closed _ h2 _ ⟨bX S k,by simp,pa,.inl ⟨z,hz,e2,by rw [<- e3]; exact h1⟩⟩;rw [h.caught h0 hb bb1 bb2 ex hx h3] at mb;cases mb
 ·intro h1;obtain⟨k,hk⟩:∃ k:Nat,b.Load=(k:Int):=⟨b.Load.toNat,by omega⟩;have h0:k < S.length:=by omega
  have ab1:abB ((k:Int) - 1) a=true:=by unfold abB; rw [S8 (by omega),S8 (by omega)]; rfl
  have ab2:abB (k:Int) a=true:=by unfold abB; rw [S8 (by omega),S8 (by omega)]; rfl
  have bb1:abB ((k:Int) - 1) b=false:=by unfold abB; rw [S9 (by omega:¬ b.Load<=(k:Int) - 1)]; rfl
  have bb2:abB (k:Int) b=true:=by unfold abB; rw [S8 (by omega),S8 (by omega)]; rfl
  obtain⟨L,x,ex,hL,hx⟩:=h.rest k h0;have fa:=h.fixed ha ma (t - k) k (by omega) (by omega) (by omega);have fb:=h.fixed hb mb (t - k) k (by omega) (by omega) (by omega);rw [show k+(t - k)=t by omega] at fa fb;rw [<- fa,<- fb] at h1;have pa:=bN.2 ((h.at h0 ha).2 ab2);have pb:=bN.2 ((h.at h0 hb).2 bb2);have h5:(Je (bX S k) b.ID).2=false:=by
   cases hh:(Je (bX S k) b.ID).2 with
   | false=>rfl
   | true=>
    have:=(h.atPrev h0 hb).1 (bN.1 hh);rw [bb1] at this; cases this
  obtain⟨y,hy,e,_⟩:=Ys pb;have h3:b.ID∈L:=by
   rw [<- e];refine hL.seeds _ (by simp) y hy (fun he=>?_);rw [e] at he;rw [he,pb] at h5; cases h5
  obtain⟨z,hz,e2,e3⟩:=Ys pa;have h2:a.ID∈L:=hL.closed _ h3 _ ⟨stK S k,by simp,pb,.inl ⟨z,hz,e2,by rw [<- e3]; exact h1⟩⟩;rw [h.caught h0 ha ab1 ab2 ex hx h2] at ma;cases ma
end
end Go.Proofs.YtibhpogonkdiaaaGreat
