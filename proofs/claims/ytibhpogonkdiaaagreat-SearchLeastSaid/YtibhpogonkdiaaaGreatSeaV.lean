/- A AQ more,a box less: -/
import Derived.Test.YtibhpogonkdiaaaGreatSeaT
set_option maxRecDepth 100000
namespace Go.Proofs.YtibhpogonkdiaaaGreat
open Go.RowKit

variable {y:G1} {a:AE}
theorem Jba (h:a.Pairwise fun x y=>x.Box < y.Box) {x:G1} (hx:x∈a) (hy:y∈a) (e:x.Box=y.Box):x=y:=by
 rcases G52 h hx hy with h | h | h
 ·exact h
 ·omega
 ·omega
theorem J39 (h:a.Pairwise fun x y=>x.Box < y.Box) (h0:a.Pairwise fun x y=>¬ xK y.Slot x.Slot) {x:G1} (hx:x∈a) (hy:y∈a) (e:x.Box < y.Box):¬ xK y.Slot x.Slot:=by
 rcases G52 (h.and h0) hx hy with h | h | h
 ·grind
 ·grind
 ·grind
theorem JN (h:a.Pairwise fun x y=>x.Box < y.Box) (hy:y∈a):Je a y.Box=(y.Slot,true):=by
 have h1:(Je a y.Box).2=true:=bN.2 (List.mem_map_of_mem hy);obtain⟨x,hx,h2,h3⟩:=Ys h1;have:x=y:=Jba h hx hy h2;grind
theorem G4a {l l':AD} {b a' b':AE} (h:l.Pairwise (· < ·)) (h':l'.Pairwise (· < ·)) (hs:∀ x∈l',inP a' x=true->inP b' x=true->x∈l∧inP a x=true∧inP b x=true):kQ l' a' b'<=kQ l a b:=by
 unfold kQ;have h1:(l'.filter fun id=>inP a' id&&inP b' id).Nodup:=(dH h').filter _;have h2:=h1.length_le_of_subset (l₂:=l.filter fun id=>inP a id&&inP b id) (fun x hx=>by
  obtain⟨g1,g2⟩:=Sx.1 hx;obtain⟨g3,g4⟩:=Bool.and_eq_true_iff.1 g2;obtain⟨g5,g6,g7⟩:=hs x g1 g3 g4;exact Sx.2 ⟨g5,by rw [g6,g7]; rfl⟩)
 omega
theorem Gff {R R':AE->AE->Int} {f:AE->AE}:∀ l:List AE,(∀ (i:Nat) a b,l[i]? = some a->l[i+1]? = some b->R' (f a) (f b)<=R a b)->wE R' (l.map f)<=wE R l
 | [],_=>Int.le_refl _
 | [_],_=>Int.le_refl _
 | a::b::l,h=>by
  have h1:=h 0 a b rfl rfl;have h2:=Gff (R:=R) (R':=R') (f:=f) (b::l) fun i x y hx hy=>h (i+1) x y hx hy;show R' (f a) (f b)+wE R' ((b::l).map f)<=R a b+wE R (b::l)
  omega
section
variable {s w:Gc} {AA less:AH} {AJ k:Int} {a b:AE} {nc:G7} {x:Int}
theorem zU (hc:w.AB=s.AB++[nc]) (hn:nc.Height<=0) (h:Z1 s AA k a):Z1 w AA k a:=by
 refine⟨⟨fun y hy=>?_,h.right.sorted,h.right.apart,fun m c hm=>?_⟩,h.ids⟩
 ·obtain⟨b,h1,⟨⟨m,c,c1,c2,c3⟩,h3,h4⟩,h5⟩:=h.right.each y hy;refine⟨b,h1,⟨⟨m,c,c1,?_,c3⟩,h3,h4⟩,h5⟩;rw [hc,Sh (Sa c2).1];exact c2
 ·rw [hc] at hm;rw [List.getElem?_append] at hm;split at hm
  ·exact h.right.fits m c hm
  ·have:=Sd hm;rw [Sv] at this;subst this;exact .inl hn
theorem J5a (hs:Small s) (hw:Small w) (hc:w.AB=s.AB++[nc]) (hv:w.AR=s.AR) (hn:nc.Height<=0) {k':Int} (ha:Z1 s AA k a) (hb:Z1 s AA k' b) (hl:AA.length<=8):gL 60 w AA a b<=gL 60 s AA a b:=by
 have la:=ha.len;have lb:=hb.len;obtain⟨l,g1,g2,g3,_⟩:=kF (F:=60) hs ha.right hb.right (by omega) (by omega) (by omega);obtain⟨l',g1',g2',g3',_⟩:=kF (F:=60) hw (zU hc hn ha).right (zU hc hn hb).right (by omega) (by omega) (by omega);rw [g3,g3'];refine G4a g1 g1' fun y hy i1 i2=>⟨g2'.least (fun u=>u∈l) (fun u v hu hp=>g2.closed u hu v ?_) (fun st h7 y hy h8=>g2.seeds st h7 y hy h8) y hy,i1,i2⟩;have h7:=QY hs ha.right hb.right (by omega) (by omega);have h0:∀ st∈[a,b],∀ y∈st,∃ (m:Nat) (c:G7),y.Slot.G7=(m:Int)∧s.AB[m]? = some c:=fun st h y hy=>by
  simp only [Sw,Se,or_false] at h;rcases h with rfl | rfl
  ·obtain⟨_,_,q,_⟩:=ha.right.each y hy;obtain⟨m,c,e1,e2,_⟩:=q.col;exact⟨m,c,e1,e2⟩
  ·obtain⟨_,_,q,_⟩:=hb.right.each y hy;obtain⟨m,c,e1,e2,_⟩:=q.col;exact⟨m,c,e1,e2⟩
 obtain⟨st,h1,h2,h3⟩:=hp;refine⟨st,h1,h2,h3.imp id fun⟨st2,h4,y,h5,h6,m,c,m1,c1,e1,e2,e3,e4,e5,e6,e7,e8⟩=>⟨st2,h4,y,h5,h6,m,c,m1,c1,e1,?_,e3,?_,e5,e6,?_,?_⟩⟩
 ·obtain⟨z,hz,_,h9⟩:=Ys h2;obtain⟨m',c',q1,q2⟩:=h0 st h1 z hz;rw [h9,q1] at e1;have:m'=m:=by omega
  subst this;rw [hc,Sh (Sa q2).1] at e2;exact e2
 ·obtain⟨m',c',q1,q2⟩:=h0 st2 h4 y h5;rw [q1] at e3;have:m'=m1:=by omega
  subst this;rw [hc,Sh (Sa q2).1] at e4;exact e4
 ·unfold nM at e7 ⊢;rw [hv] at e7;exact e7
 ·unfold nM at e8 ⊢;rw [hv] at e8;exact e8
def dn (p:Slot×Bool) (y:Slot):Slot:=if p.2=true∧y.G7=p.1.G7∧p.1.AL < y.AL then Slot.mk y.G7 (y.AL - 1) y.Half else y
theorem sK (p:Slot×Bool) (y:Slot):(dn p y).G7=y.G7∧(dn p y).Half=y.Half:=by
 unfold dn;grind
theorem rP (p:Slot×Bool) (y:Slot):(dn p y).AL=if p.2=true∧y.G7=p.1.G7∧p.1.AL < y.AL then y.AL - 1 else y.AL:=by
 unfold dn;grind
def eJ (x:Int) (a:AE):AE:=(a.filter fun y=>decide (y.Box≠x)).map fun y=>G1.mk y.Box (dn (Je a x) y.Slot)
theorem nW {y':G1} (h:y'∈eJ x a):∃ y∈a,y.Box≠x∧y'=G1.mk y.Box (dn (Je a x) y.Slot):=by
 obtain⟨y,hy,rfl⟩:=Su.1 h;grind
variable {y:G1}
theorem H18 (h:y∈a) (hx:y.Box≠x):G1.mk y.Box (dn (Je a x) y.Slot)∈eJ x a:=Su.2 ⟨y,Sx.2 ⟨h,S8 hx⟩,rfl⟩
theorem Ge0 {u:Int} (hs:a.Pairwise fun x y=>x.Box < y.Box) (h:(Je (eJ x a) u).2=true):u≠x∧(Je a u).2=true∧Je (eJ x a) u=(dn (Je a x) (Je a u).1,true):=by
 obtain⟨y',h0,h1,h2⟩:=Ys h;obtain⟨y,hy,hx,rfl⟩:=nW h0;have h1:y.Box=u:=h1;subst h1;have h3:=JN hs hy;grind
structure Jd5 (AA less:AH) (x:Int):Prop where
 sub:∀ b∈less,b∈AA∧b.ID≠x
 sup:∀ b∈AA,b.ID≠x->b∈less
theorem kX (h0:∀ b∈AA,b.Size=40) (h:Zj s AA a) (hy:y∈a):y.Slot.Half=0:=by
 obtain⟨b,h1,h2,_⟩:=h.each y hy;have hb:b∈AA:=List.mem_of_find?_eq_some h1;have:=h2.half;rw [h0 b hb] at this;simpa [jT] using this
theorem H0a (h4:∀ b∈AA,b.Size=40) (h:Zj s AA a) {z:G1} (hy:y∈a) (hz:z∈a) (h5:y.Box≠z.Box):¬ (y.Slot.G7=z.Slot.G7∧y.Slot.AL=z.Slot.AL):=by
 intro ⟨h1,h2⟩;have e1:=kX h4 h hy;have h3:=h.apart;rcases Int.lt_or_lt_of_ne h5 with h0 | h0
 ·exact J39 h.sorted h3 hy hz h0 ⟨h1.symm,h2.symm,.inr (.inr e1)⟩
 ·exact J39 h.sorted h3 hz hy h0 ⟨h1,h2,.inr (.inl e1)⟩
theorem GX (a5:∀ c∈s.AB,c.Height<=0) (h0:∀ b∈AA,b.Size=40) (a9:Qg AJ AA) (a2:Qg AJ less) (hp:Jd5 AA less x) (h:Z1 s AA k a):Z1 s less k (eJ x a):=by
 have hR:=h.right;refine⟨⟨fun y' h9=>?_,?_,?_,fun m c hc=>.inl (a5 c (Sd hc))⟩,?_⟩
 ·obtain⟨y,hy,hx,rfl⟩:=nW h9;obtain⟨b,h1,⟨⟨m,c,c1,c2,c3⟩,h3,h4⟩,h5⟩:=hR.each y hy;have hb:b∈AA:=List.mem_of_find?_eq_some h1;have hid:b.ID=y.Box:=S6 (List.find?_some (p:=fun b:Box=>decide (b.ID=y.Box)) h1);have a3:=kX h0 hR hy;obtain⟨d1,d2⟩:=sK (Je a x) y.Slot;have d3:=rP (Je a x) y.Slot;have h6:∀ z∈a,z.Box≠x->z.Slot.G7=y.Slot.G7->(dn (Je a x) z.Slot).AL=(dn (Je a x) y.Slot).AL - 1->below ((eJ x a).map (·.Slot)) (dn (Je a x) y.Slot) (dn (Je a x) y.Slot).Half:=fun z hz h8 e1 e2=>by
   unfold below;refine Su.2 ⟨_,H18 hz h8,?_⟩;show dn (Je a x) z.Slot=_
   obtain⟨f1,f2⟩:=sK (Je a x) z.Slot;have a4:=kX h0 hR hz;rw [<- e2,d1,d2,a3,<- a4,<- e1,<- f1,<- f2]
  refine⟨b,?_,⟨⟨m,c,by rw [d1]; exact c1,c2,?_⟩,?_,by rw [d2]; exact h4⟩,?_⟩
  ·have:=G1c a2.sorted (hp.sup b hb (by rw [hid]; exact hx));rw [hid] at this;exact this
  ·show (dn _ _).AL < c.Tiers
   rw [d3];split <;> omega
  ·show 0<=(dn _ _).AL
   rw [d3];split
   ·next hc=>
    obtain⟨x0,h2,_,h7⟩:=Ys hc.1;obtain⟨_,_,q,_⟩:=hR.each x0 h2;have:=q.tier;rw [h7] at hc;omega
   ·exact h3
  ·show H9a (dn _ _) _
   -- the box that y stands upon
   by_cases hc:(Je a x).2=true∧y.Slot.G7=(Je a x).1.G7∧(Je a x).1.AL < y.Slot.AL
   ·rw [if_pos hc] at d3;obtain⟨x0,h2,a0,h7⟩:=Ys hc.1;rw [h7] at hc;obtain⟨a6,a7,b0⟩:=hc;rcases h5 with h5 | h5 | ⟨_,h5,_⟩
    ·exact .inl (by omega)
    ·obtain⟨z,hz,ez⟩:=Su.1 h5;have ez1:z.Slot.G7=y.Slot.G7:=by rw [ez]
     have ez2:z.Slot.AL=y.Slot.AL - 1:=by rw [ez]
     by_cases ht:x0.Slot.AL < z.Slot.AL
     ·have h8:z.Box≠x:=fun e=>by
       have:=Jba hR.sorted hz h2 (by rw [e,a0]);subst this;omega
      refine .inr (.inl (h6 z hz h8 ez1 ?_));rw [rP,if_pos (by rw [h7]; exact⟨a6,by rw [ez1]; exact a7,ht⟩)];omega
     ·obtain⟨_,_,q,q5⟩:=hR.each x0 h2;rcases q5 with q5 | q5 | ⟨_,q5,_⟩
      ·exact .inl (by omega)
      ·obtain⟨w,hw,ew⟩:=Su.1 q5;have ew1:w.Slot.G7=x0.Slot.G7:=by rw [ew]
       have ew2:w.Slot.AL=x0.Slot.AL - 1:=by rw [ew]
       have a8:w.Box≠x:=fun e=>by
        have:=Jba hR.sorted hw h2 (by rw [e,a0]);subst this;omega
       refine .inr (.inl (h6 w hw a8 (by omega) ?_));rw [rP,if_neg (by rw [h7]; omega)];omega
      ·obtain⟨w,hw,ew⟩:=Su.1 q5;have:=kX h0 hR hw;rw [ew] at this;exact absurd this (by show ¬ (1:Int)=0; omega)
    ·obtain⟨w,hw,ew⟩:=Su.1 h5;have:=kX h0 hR hw;rw [ew] at this;exact absurd this (by show ¬ (1:Int)=0; omega)
   ·rw [if_neg hc] at d3;rcases h5 with h5 | h5 | ⟨_,h5,_⟩
    ·exact .inl (by omega)
    ·obtain⟨z,hz,ez⟩:=Su.1 h5;have ez1:z.Slot.G7=y.Slot.G7:=by rw [ez]
     have ez2:z.Slot.AL=y.Slot.AL - 1:=by rw [ez]
     have h8:z.Box≠x:=fun e=>by
      have:=JN hR.sorted hz;rw [e] at this;rw [this] at hc;exact hc ⟨rfl,ez1.symm,by show z.Slot.AL < _; omega⟩
     refine .inr (.inl (h6 z hz h8 ez1 ?_));rw [rP,if_neg (fun hq=>hc ⟨hq.1,by rw [<- ez1]; exact hq.2.1,by have:=hq.2.2; omega⟩)];omega
    ·obtain⟨w,hw,ew⟩:=Su.1 h5;have:=kX h0 hR hw;rw [ew] at this;exact absurd this (by show ¬ (1:Int)=0; omega)
 ·unfold eJ;exact List.pairwise_map.2 (hR.sorted.filter _)
 ·unfold eJ;refine List.pairwise_map.2 ((hR.sorted.filter _).imp_of_mem fun {y z} hy hz b5 hm=>?_);obtain⟨y1,y2⟩:=Sx.1 hy;obtain⟨z1,z2⟩:=Sx.1 hz;have y2:=S6 y2;have z2:=S6 z2;obtain⟨m1,m2,_⟩:=hm;have m1:(dn (Je a x) z.Slot).G7=(dn (Je a x) y.Slot).G7:=m1;have m2:(dn (Je a x) z.Slot).AL=(dn (Je a x) y.Slot).AL:=m2;rw [(sK _ _).1,(sK _ _).1] at m1;rw [rP,rP] at m2;have b6:=H0a h0 hR y1 z1 (by omega);by_cases hx:(Je a x).2=true
  ·obtain⟨x0,h2,a0,h7⟩:=Ys hx;have a3:=H0a h0 hR y1 h2 (by omega);have a4:=H0a h0 hR z1 h2 (by omega);rw [h7] at m2;simp only [hx,true_and] at m2;split at m2 <;> split at m2 <;> omega
  ·rw [if_neg (fun h=>hx h.1),if_neg (fun h=>hx h.1)] at m2;omega
 ·refine uY (List.pairwise_map.2 ?_) (List.pairwise_map.2 (a2.sorted.filter _)) fun u=>?_
  ·unfold eJ;exact List.pairwise_map.2 (hR.sorted.filter _)
  ·have a1:=h.ids;constructor
   ·intro hu;obtain⟨y',h9,rfl⟩:=Su.1 hu;obtain⟨y,hy,hx,rfl⟩:=nW h9;have:y.Box∈Zh AA k:=by rw [<- a1]; exact List.mem_map_of_mem hy
    obtain⟨b,hb,e⟩:=Su.1 this;obtain⟨b1,b2⟩:=Sx.1 hb;exact Su.2 ⟨b,Sx.2 ⟨hp.sup b b1 (by rw [e]; exact hx),b2⟩,e⟩
   ·intro hu;obtain⟨b,hb,rfl⟩:=Su.1 hu;obtain⟨b1,b2⟩:=Sx.1 hb;obtain⟨b3,b4⟩:=hp.sub b b1;have:b.ID∈a.map (·.Box):=by rw [a1]; exact Su.2 ⟨b,Sx.2 ⟨b3,b2⟩,rfl⟩
    obtain⟨y,hy,e⟩:=Su.1 this;rw [<- e] at b4 ⊢;exact Su.2 ⟨_,H18 hy b4,rfl⟩
theorem Q06 {p:Slot×Bool} {y z:Slot} (hc:y.G7=z.G7) (h:(dn p z).AL < (dn p y).AL):z.AL < y.AL:=by
 rw [rP,rP] at h;grind
theorem J88 (hs:Small s) (a3:∀ c∈s.AB,c.Height<=0) (h7:∀ b∈AA,b.Size=40) (a4:Qg AJ AA) (a5:Qg AJ less) (hp:Jd5 AA less x) {k':Int} (ha:Z1 s AA k a) (hb:Z1 s AA k' b) (hl:AA.length<=8) (c0:less.length<=8) :
  gL 60 s less (eJ x a) (eJ x b)<=gL 60 s AA a b:=by
 have la:=ha.len;have lb:=hb.len;have a6:=GX a3 h7 a4 a5 hp ha;have a7:=GX a3 h7 a4 a5 hp hb;have la':=a6.len;have lb':=a7.len;obtain⟨l,g1,g2,g3,_⟩:=kF (F:=60) hs ha.right hb.right (by omega) (by omega) (by omega);obtain⟨l',g1',g2',g3',_⟩:=kF (F:=60) hs a6.right a7.right (by omega) (by omega) (by omega);rw [g3,g3'];have sa:=ha.right.sorted;have sb:=hb.right.sorted;have b2:∀ u∈l',u∈l:=by
  refine g2'.least (fun u=>u∈l) (fun u v hu b4=>g2.closed u hu v ?_) (fun st' h9 y' h5 b5=>?_)
  ·-- what pulls there pulls here
   have a8:∀ st'∈[eJ x a,eJ x b],∃ st∈[a,b],st'=eJ x st∧st.Pairwise fun x y=>x.Box < y.Box:=fun st' h=>by
    simp only [Sw,Se,or_false] at h;rcases h with rfl | rfl
    ·exact⟨a,by simp,rfl,sa⟩
    ·exact⟨b,by simp,rfl,sb⟩
   obtain⟨st',h1,h2,h3⟩:=b4;obtain⟨st,k1,rfl,k2⟩:=a8 st' h1;obtain⟨_,q2,q3⟩:=Ge0 k2 h2;refine⟨st,k1,q2,?_⟩;rw [q3] at h3;rcases h3 with ⟨y',h5,e1,o1,o2,o3⟩ | ⟨st2',h4,y',h5,e1,m,c,m1,c1,f1,f2,f3,f4⟩
   ·obtain⟨y,hy,_,rfl⟩:=nW h5;have o1:(dn (Je st x) y.Slot).G7=(dn (Je st x) (Je st u).1).G7:=o1;have o3:pB (dn (Je st x) y.Slot).Half (dn (Je st x) (Je st u).1).Half:=o3;rw [(sK _ _).1,(sK _ _).1] at o1;rw [(sK _ _).2,(sK _ _).2] at o3;exact .inl ⟨y,hy,e1,o1,Q06 o1 o2,o3⟩
   ·obtain⟨st2,k3,rfl,k4⟩:=a8 st2' h4;obtain⟨y,hy,_,rfl⟩:=nW h5;refine .inr ⟨st2,k3,y,hy,e1,m,c,m1,c1,?_,f2,?_,f4⟩
    ·have f1:(dn (Je st x) (Je st u).1).G7=(m:Int):=f1;rw [(sK _ _).1] at f1;exact f1
    ·have f3:(dn (Je st2 x) y.Slot).G7=(m1:Int):=f3;rw [(sK _ _).1] at f3;exact f3
  ·-- what moves there is lf here
   refine Decidable.byContradiction fun hu=>b5 ?_;obtain⟨st,h0,y,hy,b6,b7⟩:∃ st∈[a,b],∃ y∈st,y.Box≠x∧y.Box=y'.Box:=by
    simp only [Sw,Se,or_false] at h9;rcases h9 with rfl | rfl
    ·obtain⟨y,hy,hx,rfl⟩:=nW h5;exact⟨a,by simp,y,hy,hx,rfl⟩
    ·obtain⟨y,hy,hx,rfl⟩:=nW h5;exact⟨b,by simp,y,hy,hx,rfl⟩
   rw [<- b7] at hu ⊢;have h6:Je a y.Box=Je b y.Box:=Decidable.byContradiction fun h=>hu (g2.seeds st h0 y hy h);have h8:(Je a y.Box).2=true∧(Je b y.Box).2=true:=by
    simp only [Sw,Se,or_false] at h0;rcases h0 with rfl | rfl
    ·have:=JN sa hy;rw [<- h6,this];exact⟨rfl,rfl⟩
    ·have:=JN sb hy;rw [h6,this];exact⟨rfl,rfl⟩
   obtain⟨ya,a9,ea,fa⟩:=Ys h8.1;obtain⟨yb,a0,eb,fb⟩:=Ys h8.2;have gett:∀ {st:AE},st.Pairwise (fun x y=>x.Box < y.Box)->(Je st y.Box).2=true->Je (eJ x st) y.Box=(dn (Je st x) (Je st y.Box).1,true):=fun {st} hs h=>by
    obtain⟨z,hz,ez,fz⟩:=Ys h;have h2:(Je (eJ x st) y.Box).2=true:=bN.2 (Su.2 ⟨_,H18 hz (by rw [ez]; exact b6),ez⟩);exact(Ge0 hs h2).2.2
   rw [gett sa h8.1,gett sb h8.2,h6];by_cases b0:Je a x=Je b x
   ·rw [b0]
   ·have b3:∀ st∈[a,b],(Je st x).2=true->dn (Je st x) (Je b y.Box).1=(Je b y.Box).1:=fun st h0 hx=>by
     obtain⟨x0,b8,ex,fx⟩:=Ys hx;have b9:x∈l:=by rw [<- ex]; exact g2.seeds st h0 x0 b8 (by rw [ex]; exact b0)
     unfold dn;refine if_neg fun hc=>hu (g2.closed x b9 y.Box ?_);have a1:=h0;simp only [Sw,Se,or_false] at a1;refine⟨st,h0,hx,.inl ?_⟩;rcases a1 with rfl | rfl
     ·exact⟨ya,a9,ea,by rw [<- fa,h6]; exact hc.2.1,by rw [<- fa,h6]; exact hc.2.2,.inr (.inl (kX h7 ha.right a9))⟩
     ·exact⟨yb,a0,eb,by rw [<- fb]; exact hc.2.1,by rw [<- fb]; exact hc.2.2,.inr (.inl (kX h7 hb.right a0))⟩
    have b1:∀ st∈[a,b],dn (Je st x) (Je b y.Box).1=(Je b y.Box).1:=fun st h0=>by
     by_cases hx:(Je st x).2=true
     ·exact b3 st h0 hx
     ·unfold dn;exact if_neg fun hc=>hx hc.1
    rw [b1 a (by simp),b1 b (by simp)]
 have a2:∀ st:AE,∀ u,inP (eJ x st) u=true->inP st u=true:=fun st u h=>by
  unfold inP at h ⊢;obtain⟨y',h5,e⟩:=List.any_eq_true.1 h;obtain⟨y,hy,_,rfl⟩:=nW h5;exact List.any_eq_true.2 ⟨y,hy,e⟩
 exact G4a g1 g1' fun y hy i1 i2=>⟨b2 y hy,a2 a y i1,a2 b y i2⟩
end
end Go.Proofs.YtibhpogonkdiaaaGreat
