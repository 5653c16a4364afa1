/-
 How many AA of some groups have to be left out,in plain w What the BC of bound.Groups are.
-/
import Derived.Test.YtibhpogonkdiaaaGreatHoldA
import Derived.Test.YtibhpogonkdiaaaGreatSpecG
set_option maxRecDepth 100000
namespace Go.Proofs.YtibhpogonkdiaaaGreat
open Go.RowKit

structure eG (c:G3):Prop where
 whole:0<=c.Whole∧c.Whole<=10
 half:0<=c.Half∧c.Half<=10

structure QG (T:Int) (c:G3) (h v:Int):Prop where
 att:v=c.Whole+c.Half∨∃ w,0<=w∧w<=c.Whole∧w<=T*(h / 2)∧v=c.Whole - w+c.Half - min c.Half (T*h - 2*w)
 top:v<=c.Whole+c.Half
 least:∀ w,0<=w->w<=c.Whole->w<=T*(h / 2)->v<=c.Whole - w+c.Half - min c.Half (T*h - 2*w)

variable {T h:Int}
theorem J3a {a b:Int} (h1:0<=T∧T<=a) (h2:0<=h∧h<=b):0<=T*h∧T*h<=a*b:=
 ⟨Int.mul_nonneg h1.1 h2.1,Int.mul_le_mul h1.2 h2.2 h2.1 (by omega)⟩

variable {c:G3} {F:Nat}
theorem Jbc (hc:eG c) (hT:0<=T∧T<=20) (hh:0<=h∧h<=40) (hF:60<=F):Wp (iH F c T h) (QG T c h):=by
 unfold iH;obtain⟨⟨w1,w2⟩,⟨v1,v2⟩⟩:=hc;have hA:=J3a (b:=20) hT (⟨by omega,by omega⟩:0<=h / 2∧h / 2<=20);have hB:=J3a hT hh;have hq:h.tdiv 2=h / 2:=Int.tdiv_eq_ediv_of_nonneg hh.1;refine Hy ⟨by omega,by omega⟩ ?_;refine wp_loop (fun s:Int×Int=>0<=s.2∧s.2<=c.Whole+1∧(s.1=c.Whole+c.Half∨∃ w,0<=w∧w<=c.Whole∧w<=T*(h / 2)∧s.1=c.Whole - w+c.Half - min c.Half (T*h - 2*w))∧s.1<=c.Whole+c.Half ∧
   ∀ w,0<=w->w < s.2->w<=c.Whole->w<=T*(h / 2)->s.1<=c.Whole - w+c.Half - min c.Half (T*h - 2*w))
  (fun s=>(c.Whole+1 - s.2).toNat) ⟨by omega,by show (0:Int)<=c.Whole+1; omega,.inl rfl,Int.le_refl _,fun w h1 h2=>by simp only at h2; omega⟩ (by simp only; omega) (fun s nx hI h5=>?_)
 obtain⟨i1,i2,i3,i4,i5⟩:=hI;refine H6 (Q3f (by omega) (by omega) ?_);rw [hq];refine Hy ⟨by omega,by omega⟩ (Hr (fun h0=>?_) (fun h0=>Gx ⟨i3,i4,fun w h1 h2 h3=>i5 w h1 ?_ h2 h3⟩))
 ·have h0:=S6 h0;refine Hy ⟨by omega,by omega⟩ (Hy ⟨by omega,by omega⟩ (Hy ⟨by omega,by omega⟩ (Hy ⟨by omega,by omega⟩ (Hy ⟨by omega,by omega⟩ (Hy ⟨by omega,by omega⟩ (Hy ⟨by omega,by omega⟩ ?_))))));refine h5 _ ⟨by simp only; omega,by simp only; omega,?_,by simp only; omega,fun w h1 h2 h3 h4=>?_⟩ (by simp only; omega)
  ·simp only;rcases Int.le_total s.1 (c.Whole - s.2+c.Half - min c.Half (T*h - 2*s.2)) with hm | hm
   ·rw [Int.min_eq_left hm]; exact i3
   ·rw [Int.min_eq_right hm]; exact .inr ⟨s.2,i1,by omega,by omega,rfl⟩
  ·simp only at h2 ⊢;by_cases e:w=s.2
   ·subst e; omega
   ·have:=i5 w h1 (by omega) h3 h4;omega
 ·have:=S7 h0;omega

def mT (F:Nat) (T:Int) (c:G3) (h:Nat):Int:=(iH F c T (h:Int)).getD 0
theorem rJ {h:Nat} (hc:eG c) (hT:0<=T∧T<=20) (hh:h<=40) (hF:60<=F):iH F c T (h:Int)=some (mT F T c h)∧QG T c (h:Int) (mT F T c h):=by
 obtain⟨v,e,hv⟩:=Jbc (h:=(h:Int)) hc hT ⟨by omega,by omega⟩ hF;unfold mT;rw [e];exact⟨rfl,hv⟩
theorem QG.nonneg {v:Int} (hc:eG c) (i:QG T c h v):0<=v:=by
 obtain⟨⟨w1,w2⟩,⟨v1,v2⟩⟩:=hc;rcases i.att with e | ⟨w,h1,h2,h3,e⟩ <;> omega
def sV (ps:List (G3×Nat)):Nat:=(ps.map (·.2)).sum
def iV (F:Nat) (T:Int) (ps:List (G3×Nat)):Int:=(ps.map (fun p=>mT F T p.1 p.2)).sum
structure sU (F:Nat) (T:Int) (l:AI) (a:Nat) (v:Int):Prop where
 att:∃ ps:List (G3×Nat),ps.map (·.1)=l∧sV ps<=a∧iV F T ps=v
 least:∀ ps:List (G3×Nat),ps.map (·.1)=l->sV ps<=a->v<=iV F T ps
section
variable {F:Nat} {T T':Int} {l l1 l2:AI} {a a':Nat} {v v':Int} {c:G3}
theorem rE (p q:List (G3×Nat)):sV (p++q)=sV p+sV q:=by unfold sV; simp
theorem rQ (p q:List (G3×Nat)):iV F T (p++q)=iV F T p+iV F T q:=by unfold iV; simp
theorem sU.anti (h:sU F T l a v) (h':sU F T l a' v') (ha:a<=a'):v'<=v:=by
 obtain⟨ps,e1,e2,e3⟩:=h.att;rw [<- e3];exact h'.least ps e1 (by omega)
theorem sU.step {lv:Nat->Int} {H:Nat} {x:Int} (hl:∀ a≤H,sU F T l a (lv a)) (ha:a<=H) (h1:∃ h≤a,x=lv (a - h)+mT F T c h) (h2:∀ h≤a,x<=lv (a - h)+mT F T c h):sU F T (l++[c]) a x:=by
 refine⟨?_,fun ps e1 e2=>?_⟩
 ·obtain⟨h,hh,e⟩:=h1;obtain⟨ps,e1,e2,e3⟩:=(hl (a - h) (by omega)).att;refine⟨ps++[(c,h)],by rw [List.map_append,e1]; rfl,?_,?_⟩
  ·rw [rE]; simp [sV] at e2 ⊢; omega
  ·rw [rQ,e3,e]; simp [iV]
 ·obtain⟨p1,p2,rfl,q1,q2⟩:=List.map_eq_append_iff.1 e1;cases p2 with
  | nil=>cases q2
  | cons p p3=>
   simp only [List.map_cons,List.cons.injEq,List.map_eq_nil_iff] at q2;obtain⟨rfl,rfl⟩:=q2;rw [rE,show sV [p]=p.2 by simp [sV]] at e2;rw [rQ,show iV F T [p]=mT F T p.1 p.2 by simp [iV]];have g1:=(hl (a - p.2) (by omega)).least p1 q1 (by omega);have g2:=h2 p.2 (by omega);omega
end

def Ged (lv ov:Nat->Int) (k a:Nat) (x:Int):Prop:=(x = -1∧k=0)∨(0 < k∧0<=x∧(∃ h≤a,x=lv (a - h)+ov h)∧∀ h < k,h<=a->x<=lv (a - h)+ov h)

theorem J1c {H:Nat} {L:AD} (lv:Nat->Int) (hc:eG c) (hT:0<=T∧T<=20) (hH:H<=30) (hF:60<=F)
  (a9:Rk F [(-1)] ((H:Int)+1)=some (List.replicate (H+1) (-1))) (hL:∀ a≤H,L[a]? = some (lv a)) (hb:∀ a≤H,0<=lv a∧lv a<=100000) (a4:∀ a b,a<=b->b<=H->lv b<=lv a) :
  Wp (fX F c (H:Int) T L) (fun N=>N.length=H+1∧∀ a≤H,∃ x,N[a]? = some x∧(∃ h≤a,x=lv (a - h)+mT F T c h)∧∀ h≤a,x<=lv (a - h)+mT F T c h):=by
 unfold fX;have a5:∀ h≤H,0<=mT F T c h∧mT F T c h<=20:=fun h hh=>by
  have i:=(rJ (h:=h) hc hT (by omega) hF).2;have:=i.top;have h1:=hc.whole;have h2:=hc.half;exact⟨i.nonneg hc,by omega⟩
 refine Hy ⟨by omega,by omega⟩ (Gv a9 ?_);refine Rz (fun N=>N.length=H+1∧∀ a≤H,∃ x,N[a]? = some x∧(∃ h≤a,x=lv (a - h)+mT F T c h)∧∀ h≤a,x<=lv (a - h)+mT F T c h) (fun K hK=>?_) (fun N hN=>Gx hN);refine wp_loop (fun s:Int×AD=>∃ k:Nat,s.1=(k:Int)∧k<=H+1∧s.2.length=H+1∧∀ a≤H,∃ x,s.2[a]? = some x∧Ged lv (mT F T c) k a x) (fun s=>H+1 - s.1.toNat)
  ⟨0,rfl,by omega,by simp,fun a ha=>⟨-1,by show (List.replicate (H+1) (-1:Int))[a]? = _; rw [List.getElem?_replicate,if_pos (by omega)],.inl ⟨rfl,rfl⟩⟩⟩ (by simp only; omega) (fun s nx hI b1=>?_)
 obtain⟨k,hk,b5,h8,hN⟩:=hI;rw [hk];refine Hr (fun h=>?_) (fun h=>hK _ ⟨h8,fun a ha=>?_⟩)
 ·have b2:k<=H:=by have:=S6 h; omega
  refine Gv (rJ hc hT (by omega) hF).1 ?_;have b6:=a5 k b2;refine wp_loop (fun s:Int×AD=>∃ m:Nat,s.1=(m:Int)∧k<=m∧m<=H+1∧s.2.length=H+1∧∀ a≤H,∃ x,s.2[a]? = some x∧Ged lv (mT F T c) (if k<=a∧a < m then k+1 else k) a x) (fun s=>H+1 - s.1.toNat)
   ⟨k,rfl,Sf,by omega,h8,fun a ha=>by
    obtain⟨x,h1,h2⟩:=hN a ha;exact⟨x,h1,by rw [if_neg (by omega)]; exact h2⟩⟩ (by simp only; omega) (fun s2 nx2 hJ b0=>?_)
  obtain⟨m,hm,h9,b7,h4,a0⟩:=hJ;rw [hm];refine Hr (fun h=>?_) (fun h=>?_)
  ·have b3:m<=H:=by have:=S6 h; omega
   obtain⟨x,hx,hg⟩:=a0 m b3;rw [if_neg (by omega)] at hg;have b8:=hb (m - k) (by omega);have h5:∀ {N:AD} {y:Int},N[m]? = some y->(∀ a,a≠m->N[a]? = s2.2[a]?)->Ged lv (mT F T c) (k+1) m y->∀ a≤H,∃ x,N[a]? = some x∧Ged lv (mT F T c) (if k<=a∧a < m+1 then k+1 else k) a x:=fun {N y} e1 e2 g a ha=>by
    by_cases e:a=m
    ·subst e; exact⟨y,e1,by rw [if_pos ⟨h9,by omega⟩]; exact g⟩
    ·obtain⟨x,h1,h2⟩:=a0 a ha;refine⟨x,by rw [e2 a e]; exact h1,?_⟩;by_cases a1:k<=a∧a < m
     ·rw [if_pos ⟨a1.1,by omega⟩]; rw [if_pos a1] at h2; exact h2
     ·rw [if_neg (by omega)]; rw [if_neg a1] at h2; exact h2
   have h6:(s2.2.set (m:Int).toNat (lv (m - k)+mT F T c k))[m]? = some (lv (m - k)+mT F T c k):=by
    rw [show ((m:Int)).toNat=m by omega,List.getElem?_set,if_pos rfl,if_pos (by omega)]
   have h7:∀ a,a≠m->(s2.2.set (m:Int).toNat (lv (m - k)+mT F T c k))[a]? = s2.2[a]? := fun a e=>by
    rw [show ((m:Int)).toNat=m by omega,List.getElem?_set,if_neg (Ne.symm e)]
   refine Rz (fun N=>N.length=H+1∧∀ a≤H,∃ x,N[a]? = some x∧Ged lv (mT F T c) (if k<=a∧a < m+1 then k+1 else k) a x) (fun K' a2=>?_)
    (fun N hN=>Hy ⟨by omega,by omega⟩ (b0 _ ⟨m+1,by simp,by omega,by omega,hN.1,hN.2⟩ (by simp only [hm]; omega)))
   refine Hy ⟨by omega,by omega⟩ (Jk (m:=m - k) (by omega) (hL _ (by omega)) (Hy ⟨by omega,by omega⟩ (Jk rfl hx ?_)));by_cases a6:x < 0
   ·rw [S8 a6];simp only [Bool.not_true,cond_false,Bool.true_or,cond_true];refine H6 (Gx (Jk rfl hx (a2 _ ⟨by rw [List.length_set]; exact h4,h5 h6 h7 (.inr ⟨by omega,by omega,⟨k,h9,rfl⟩,fun q h1 h2=>?_⟩)⟩)));rcases hg with ⟨_,e0⟩ | ⟨_,h3,_⟩
    ·have:q=k:=by omega
     subst this; exact Int.le_refl _
    ·omega
   ·rw [S9 a6];simp only [Bool.not_false,cond_true,Bool.false_or];rcases hg with ⟨h3,_⟩ | ⟨g1,g2,g3,g4⟩
    ·omega
    refine H6 (Jk rfl hx (Gx (Hr (fun a3=>Jk rfl hx (a2 _ ⟨by rw [List.length_set]; exact h4,h5 h6 h7 (.inr ⟨by omega,by omega,⟨k,h9,rfl⟩,fun h h1 h2=>?_⟩)⟩)) (fun a3=>a2 _ ⟨h4,h5 hx (fun _ _=>rfl) (.inr ⟨by omega,g2,g3,fun h h1 h2=>?_⟩)⟩))))
    ·have:=S6 a3;by_cases e:h=k
     ·subst e; exact Int.le_refl _
     ·have:=g4 h (by omega) h2; omega
    ·have:=S7 a3;by_cases e:h=k
     ·subst e; omega
     ·exact g4 h (by omega) h2
  ·have b9:m=H+1:=by have:=S7 h; omega
   have a7:∀ a≤H,∃ x,s2.2[a]? = some x∧Ged lv (mT F T c) (k+1) a x:=fun a ha=>by
    obtain⟨x,hx,hg⟩:=a0 a ha;refine⟨x,hx,?_⟩;by_cases a8:k<=a
    ·rw [if_pos ⟨a8,by omega⟩] at hg; exact hg
    ·rw [if_neg (fun h=>a8 h.1)] at hg;rcases hg with ⟨_,rfl⟩ | ⟨g1,g2,g3,g4⟩
     ·omega
     ·exact .inr ⟨by omega,g2,g3,fun h h1 h2=>g4 h (by omega) h2⟩
   refine Hr (fun hz=>hK _ ⟨h4,fun a ha=>?_⟩) (fun _=>Hy ⟨by omega,by omega⟩ (b1 _ ⟨k+1,by simp,by omega,h4,a7⟩ (by simp only [hk]; omega)));have h0:=S6 hz;obtain⟨x,hx,hg⟩:=a7 a ha;rcases hg with ⟨_,h3⟩ | ⟨g1,g2,g3,g4⟩
   ·omega
   ·refine⟨x,hx,g3,fun h hh=>?_⟩;by_cases b4:h < k+1
    ·exact g4 h b4 hh
    ·have e1:=g4 k (by omega) (by omega);have e2:=a4 (a - h) (a - k) (by omega) (by omega);have e3:=(a5 h (by omega)).1;omega
 ·obtain⟨x,hx,hg⟩:=hN a ha;have:=S7 h;rcases hg with ⟨_,h3⟩ | ⟨g1,g2,g3,g4⟩
  ·omega
  ·exact⟨x,hx,g3,fun h hh=>g4 h (by omega) hh⟩

theorem J20 {s:Gc} {l:AI} {H:Nat} (h6:Zz s=some T) (hT:0<=T∧T<=20) (a0:H=2*s.AB.length) (hH:H<=30)
  (h7:Rk F [(-1)] ((H:Int)+1)=some (List.replicate (H+1) (-1))) (hl:∀ c∈l,eG c) (h5:l.length<=20) (hF:60<=F):Wp (Zp F s l) (fun v=>sU F T l H v∧0<=v∧v<=400):=by
 unfold Zp;refine Gv h6 (Hy ⟨by omega,by omega⟩ (Hy ⟨by omega,by omega⟩ ?_));have e4:2*(s.AB.length:Int)=(H:Int):=by omega
 rw [e4];refine Gv (x:=H+1) (by
  unfold lM;rw [S8 (by omega),cond_true];congr 1) (Ji (S8 (by simp only [maxLen]; omega)) ?_)
 refine Ja (fun pre st=>st.length=H+1∧∃ lv:Nat->Int,∀ a≤H,st[a]? = some (lv a)∧sU F T pre a (lv a)∧0<=lv a∧lv a<=20*pre.length)
  ⟨by simp,fun _=>0,fun a ha=>⟨by rw [List.getElem?_replicate,if_pos (by omega)],⟨⟨[],rfl,by simp [sV],rfl⟩,fun ps e1 _=>by
   rw [List.map_eq_nil_iff.1 e1]; exact Int.le_refl _⟩,Int.le_refl _,by simp⟩⟩ (fun pre y post st nx e hI h8=>?_) (fun st hI=>?_)
 ·obtain⟨hn,lv,h0⟩:=hI;have hy:eG y:=hl y (by rw [e]; simp);have hp:pre.length < 20:=by rw [e] at h5; simp only [Sn,Si] at h5; omega
  refine H6 (wp_mono (J1c lv hy hT hH hF h7 (fun a ha=>(h0 a ha).1) (fun a ha=>⟨(h0 a ha).2.2.1,by have:=(h0 a ha).2.2.2; omega⟩) (fun a b h9 hb=>(h0 a (by omega)).2.1.anti (h0 b hb).2.1 h9)) (fun N hN=>h8 _ ⟨hN.1,fun a=>(N[a]?).getD 0,fun a ha=>?_⟩));obtain⟨x,hx,g1,g2⟩:=hN.2 a ha;show N[a]? = some ((N[a]?).getD 0)∧sU F T (pre++[y]) a ((N[a]?).getD 0)∧0<=(N[a]?).getD 0∧(N[a]?).getD 0<=20*((pre++[y]).length:Int)
  rw [hx];show some x=some x∧sU F T (pre++[y]) a x∧0<=x∧x<=20*((pre++[y]).length:Int)
  refine⟨rfl,sU.step (fun a ha=>(h0 a ha).2.1) ha g1 g2,?_,?_⟩
  ·obtain⟨h,hh,e⟩:=g1;have:=(h0 (a - h) (by omega)).2.2.1;have:=(rJ (h:=h) hy hT (by omega) hF).2.nonneg hy;show 0<=x
   omega
  ·have e1:=g2 0 (by omega);have e2:=(h0 (a - 0) (by omega)).2.2.2;have e3:=(rJ (h:=0) hy hT (by omega) hF).2.top;obtain⟨⟨_,w2⟩,⟨_,v2⟩⟩:=hy;show x<=_
   rw [Sn,Sp];omega
 ·obtain⟨hn,lv,h0⟩:=hI;obtain⟨h1,h2,h3,h4⟩:=h0 H (Sf);exact Jk rfl h1 (Gx ⟨h2,h3,by omega⟩)
open Go.RowKit Go.Shelf Go.Sort

theorem H61 {κ ν:Type} [DecidableEq κ] (f:κ×ν->Int) (a:κ) (v:ν):∀ {l:List (κ×ν)},(l.map (·.1)).Nodup->((iW l a v).map f).sum=(l.map f).sum+f (a,v) - (match fL l a with | some w=>f (a,w) | none=>0)
 | l,hn=>by
  unfold iW;by_cases h:gX l a=true
  ·rw [if_pos h];have key:∀ l:List (κ×ν),(l.map (·.1)).Nodup->gX l a=true->((l.map fun p=>if p.1=a then (a,v) else p).map f).sum=(l.map f).sum+f (a,v) - (match fL l a with | some w=>f (a,w) | none=>0):=by
    intro l
    induction l with
    | nil=>intro _ h; simp [gX] at h
    | cons p r ih=>
     intro hn h;rw [List.map_cons,List.nodup_cons] at hn;rw [kV];by_cases e:p.1=a
     ·have hr:∀ q∈r,¬ q.1=a:=fun q hq e'=>hn.1 (Su.2 ⟨q,hq,by rw [e',e]⟩);have hm:(r.map fun p=>if p.1=a then (a,v) else p)=r:=by
       conv=>rhs; rw [<- List.map_id r]
       exact List.map_congr_left (fun q hq=>by rw [if_neg (hr q hq)]; rfl)
      have ep:p=(a,p.2):=by rw [<- e]
      simp only [List.map_cons,List.sum_cons,if_pos e,hm];rw [<- ep]; omega
     ·have h':gX r a=true:=by
       simp only [gX,List.any_cons,Sr,Sy,e,false_or] at h ⊢;simpa using h
      have:=ih hn.2 h';simp only [List.map_cons,List.sum_cons,if_neg e];simp only [List.map_map] at this ⊢;omega
   exact key l hn h
  ·rw [if_neg h,uQ (by simpa using h)];simp

def hit (g:G9) (z:Int) (x:Box):Bool:=decide (x.Load=g.Load)&&decide (x.AF=g.AF)&&decide (x.Size=z)
def dC (z:Int) (g:G9) (pre:AH):Int:=(pre.countP (hit g z):Nat)
def H20 (z:Int) (pre:AH):Int:=(pre.countP (fun x=>decide (x.Size=z)):Nat)
theorem yN (z:Int) (g:G9) (pre:AH) (x:Box):dC z g (pre++[x])=dC z g pre+(if hit g z x then 1 else 0):=by
 unfold dC; rw [List.countP_append]; by_cases h:hit g z x <;> simp [h]
theorem yO (z:Int) (pre:AH) (x:Box):H20 z (pre++[x])=H20 z pre+(if decide (x.Size=z) then 1 else 0):=by
 unfold H20; rw [List.countP_append]; by_cases h:x.Size=z <;> simp [h]
theorem rT (z:Int) (g:G9) (pre:AH):0<=dC z g pre∧dC z g pre<=(pre.length:Int):=by
 unfold dC; have:=List.countP_le_length (p:=hit g z) (l:=pre); omega

structure tN (pre:AH) (s:Gw G9 G3):Prop where
 get:∀ g,fL (Gw.l s) g=if dC 40 g pre+dC 20 g pre=0 then none else some ⟨g,dC 40 g pre,dC 20 g pre⟩
 whole:((Gw.l s).map (fun e=>e.2.Whole)).sum=H20 40 pre
 half:((Gw.l s).map (fun e=>e.2.Half)).sum=H20 20 pre
 len:(Gw.l s).length<=pre.length
theorem tN.start:tN [] Gw.empty:=⟨fun g=>by simp [dC,Gw.empty,fL],by simp [Gw.empty,H20],by simp [Gw.empty,H20],by simp [Gw.empty]⟩
theorem H7a {κ ν:Type} [DecidableEq κ] (l:List (κ×ν)) (a:κ) (v:ν):(iW l a v).length<=l.length+1:=by
 unfold iW; split <;> simp
variable {s:Gw G9 G3} {pre:AH}
theorem tN.old (h:tN pre s) (g:G9):Gw.get s g (G3.mk (G9.mk 0 0) 0 0)=(if dC 40 g pre+dC 20 g pre=0 then G3.mk (G9.mk 0 0) 0 0 else ⟨g,dC 40 g pre,dC 20 g pre⟩):=by
 unfold Gw.get; rw [h.get]; split <;> rfl
theorem tN.old2 (h:tN pre s) (g:G9):(Gw.get s g (G3.mk (G9.mk 0 0) 0 0)).Whole=dC 40 g pre∧(Gw.get s g (G3.mk (G9.mk 0 0) 0 0)).Half=dC 20 g pre:=by
 rw [h.old];have h1:=rT 40 g pre;have h2:=rT 20 g pre;split
 ·exact⟨by simp only; omega,by simp only; omega⟩
 ·exact⟨rfl,rfl⟩

theorem H7e (x:Box) (z:Int):hit (G9.mk x.Load x.AF) z x=decide (x.Size=z):=by simp [hit]
theorem Gd8 {x:Box} {g:G9} (z:Int) (h:¬ G9.mk x.Load x.AF=g):hit g z x=false:=by
 cases hb:hit g z x with
 | false=>rfl
 | true=>
  exfalso;simp only [hit,Sq,Sr] at hb;apply h;cases g;simp only at hb;rw [hb.1.1,hb.1.2]
theorem tN.put (h:tN pre s) (x:Box) (hx:x.Size=40∨x.Size=20) :
  tN (pre++[x]) (Gw.put s (G9.mk x.Load x.AF) (G3.mk (G9.mk x.Load x.AF) (dC 40 (G9.mk x.Load x.AF) pre+(if decide (x.Size=40) then 1 else 0)) (dC 20 (G9.mk x.Load x.AF) pre+(if decide (x.Size=20) then 1 else 0)))):=by
 have h2:=rT 40 (G9.mk x.Load x.AF) pre;have h3:=rT 20 (G9.mk x.Load x.AF) pre;refine⟨fun g=>?_,?_,?_,?_⟩
 ·show fL (iW (Gw.l s) _ _) g=_
  rw [mV,yN,yN];by_cases e:G9.mk x.Load x.AF=g
  ·subst e;have h1:(if decide (x.Size=40)=true then (1:Int) else 0)+(if decide (x.Size=20)=true then 1 else 0)=1:=by
    rcases hx with hx | hx <;> rw [hx] <;> rfl
   have h0:¬ (dC 40 (G9.mk x.Load x.AF) pre+(if decide (x.Size=40)=true then 1 else 0)+(dC 20 (G9.mk x.Load x.AF) pre+(if decide (x.Size=20)=true then 1 else 0))=0):=by omega
   rw [if_pos rfl,H7e,H7e,if_neg h0]
  ·rw [if_neg e,Gd8 40 e,Gd8 20 e,h.get];simp
 ·show ((iW (Gw.l s) _ _).map _).sum=_
  rw [H61 _ _ _ s.nd,h.whole,h.get,yO];by_cases e0:dC 40 (G9.mk x.Load x.AF) pre+dC 20 (G9.mk x.Load x.AF) pre=0
  ·rw [if_pos e0]; simp only; omega
  ·rw [if_neg e0]; simp only; omega
 ·show ((iW (Gw.l s) _ _).map _).sum=_
  rw [H61 _ _ _ s.nd,h.half,h.get,yO];by_cases e0:dC 40 (G9.mk x.Load x.AF) pre+dC 20 (G9.mk x.Load x.AF) pre=0
  ·rw [if_pos e0]; simp only; omega
  ·rw [if_neg e0]; simp only; omega
 ·have:=H7a (Gw.l s) (G9.mk x.Load x.AF) (G3.mk (G9.mk x.Load x.AF) (dC 40 (G9.mk x.Load x.AF) pre+(if decide (x.Size=40) then 1 else 0)) (dC 20 (G9.mk x.Load x.AF) pre+(if decide (x.Size=20) then 1 else 0)));have:=h.len;show (iW _ _ _).length<=_
  rw [Sn,Sp]; omega
theorem tN.skip (h:tN pre s) (x:Box) (h0:¬ x.Size=40) (h1:¬ x.Size=20):tN (pre++[x]) s:=by
 have e1:∀ g,hit g 40 x=false:=fun g=>by simp [hit,h0]
 have e2:∀ g,hit g 20 x=false:=fun g=>by simp [hit,h1]
 refine⟨fun g=>by rw [yN,yN,e1,e2,h.get]; simp,by rw [yO,h.whole]; simp [h0],by rw [yO,h.half]; simp [h1],?_⟩;have:=h.len;rw [Sn]; omega
theorem Jcd {β:Type} {z:Int} {k:Int->Option β} (h : -9223372036854775808<=z∧z<=9223372036854775807):chk z k=k z:=by
 unfold chk G64;rw [S8 h.1,S8 h.2,Bool.and_self,cond_true]
def Gd9 (y:Box) (_:Nat) (s:Gw G9 G3) (nx:Gw G9 G3->Option AI):Option AI:=
  jp (fun kj=>
   bnd (some (Gw.get s (G9.mk y.Load y.AF) (G3.mk (G9.mk 0 0) 0 0))) fun v=>
   jp (fun kj2=>
    bif decide (y.Size=40) then (chk (v.Whole+1) fun w=>kj2 (w,v.Half))
    else (bif decide (y.Size=20) then (chk (v.Half+1) fun w=>kj2 (v.Whole,w)) else (kj (s,v.Whole,v.Half)))) fun(j:Int×Int)=>
   kj ((Gw.put s (G9.mk y.Load y.AF) (G3.mk (G9.mk y.Load y.AF) j.1 j.2)),j.1,j.2)) fun(j:(Gw G9 G3)×Int×Int)=>
  nx j.1
theorem J18 (h:tN pre s) (y:Box) (i:Nat) (hl:pre.length<=1000000) (nx:Gw G9 G3->Option AI):∃ s',tN (pre++[y]) s'∧Gd9 y i s nx=nx s':=by
 obtain⟨e1,e2⟩:=h.old2 (G9.mk y.Load y.AF);have h0:=rT 40 (G9.mk y.Load y.AF) pre;have h1:=rT 20 (G9.mk y.Load y.AF) pre;by_cases a:y.Size=40
 ·have b:¬ y.Size=20:=by omega
  have hp:=h.put y (.inl a);rw [if_pos (S8 a),if_neg (by rw [S9 b]; exact Bool.false_ne_true),Int.add_zero] at hp;refine⟨_,hp,?_⟩;unfold Gd9;simp only [jp,bnd,e1,e2];rw [S8 a,cond_true,Jcd ⟨by omega,by omega⟩]
 ·by_cases b:y.Size=20
  ·have hp:=h.put y (.inr b);rw [if_neg (by rw [S9 a]; exact Bool.false_ne_true),if_pos (S8 b),Int.add_zero] at hp;refine⟨_,hp,?_⟩;unfold Gd9;simp only [jp,bnd,e1,e2];rw [S9 a,cond_false,S8 b,cond_true,Jcd ⟨by omega,by omega⟩]
  ·refine⟨s,h.skip y a b,?_⟩;unfold Gd9;simp only [jp,bnd];rw [S9 a,cond_false,S9 b,cond_false]
theorem ZS (kx:Gw G9 G3->Option AI):∀ (xs pre:AH) (i:Nat) (s:Gw G9 G3),tN pre s->pre.length+xs.length<=1000000->∃ m,tN (pre++xs) m∧each Gd9 kx xs i s=kx m
 | [],pre,i,s,h,_=>⟨s,by simpa using h,rfl⟩
 | x::xs,pre,i,s,h,hl=>by
  rw [Si] at hl;obtain⟨s',h',e⟩:=J18 h x i (by omega) (each Gd9 kx xs (i+1));obtain⟨m,hm,e2⟩:=ZS kx xs (pre++[x]) (i+1) s' h' (by rw [Sn,Sp]; omega);refine⟨m,by simpa using hm,?_⟩;rw [each,e,e2]
theorem H80 (AA:AH) (hl:AA.length<=1000000):∃ m,tN AA m∧Z0 AA=some (wT ((Gw.l m).map (·.2))):=by
 obtain⟨m,hm,e⟩:=ZS (fun s=>need (decide ((Gw.l s).length*32<=140737488355328∧(Gw.l s).length<=maxLen)) <| some (wT ((Gw.l s).map (·.2)))) AA [] 0 Gw.empty tN.start (by simpa using hl);refine⟨m,by simpa using hm,?_⟩;have h0:=hm.len;rw [List.nil_append] at h0;have hd:decide ((Gw.l m).length*32<=140737488355328∧(Gw.l m).length<=maxLen)=true:=by
  rw [Sr];have:maxLen=9223372036854775807:=rfl;omega
 unfold Z0;refine Eq.trans e ?_;simp only [hd,J40]
theorem tN.entry (h:tN pre s) {e:G9×G3} (he:e∈Gw.l s):e.2=⟨e.1,dC 40 e.1 pre,dC 20 e.1 pre⟩∧dC 40 e.1 pre+dC 20 e.1 pre≠0:=by
 obtain⟨j,hj⟩:=List.mem_iff_getElem?.1 he;have h1:=(uR s.nd (j:=j) (a:=e.1) (v:=e.2) hj).1;rw [h.get] at h1;by_cases h0:dC 40 e.1 pre+dC 20 e.1 pre=0
 ·rw [if_pos h0] at h1; cases h1
 ·rw [if_neg h0] at h1; exact⟨(Sc h1).symm,h0⟩
theorem H60 {l q:AD} (h:l.Perm q):l.sum=q.sum:=by
 induction h with
 | nil=>rfl
 | cons x _ ih=>simp [ih]
 | swap x y l=>simp; omega
 | trans _ _ h1 h2=>exact h1.trans h2
theorem H10 (AA:AH) (hl:AA.length<=1000000):∃ l,Z0 AA=some l∧l.length<=AA.length ∧
  (∀ c∈l,c.Whole=dC 40 c.G9 AA∧c.Half=dC 20 c.G9 AA∧c.Whole+c.Half≠0) ∧
  (∀ i j (_:i < j) (hj:j < l.length),ltOf RH l[i] l[j]=true)∧(l.map (·.Whole)).sum=H20 40 AA∧(l.map (·.Half)).sum=H20 20 AA:=by
 obtain⟨m,hm,e⟩:=H80 AA hl;have hp:=uU ((Gw.l m).map (·.2));have h4:∀ c∈wT ((Gw.l m).map (·.2)),∃ x∈Gw.l m,x.2=c:=fun c hc=>Su.1 (hp.mem_iff.1 hc);refine⟨_,e,?_,fun c hc=>?_,fun i j h3 hj=>?_,?_,?_⟩
 ·rw [hp.length_eq,Ss]; exact hm.len
 ·obtain⟨x,hx,rfl⟩:=h4 c hc;obtain⟨h1,h2⟩:=hm.entry hx;rw [h1]; exact⟨rfl,rfl,h2⟩
 ·have h0:=(List.pairwise_iff_getElem.1 (uT ((Gw.l m).map (·.2)))) i j (by omega) hj h3;unfold gle at h0;have h5:(wT ((Gw.l m).map (·.2))).Pairwise (fun a b=>a.G9≠b.G9):=by
   refine List.Perm.pairwise hp.symm ?_ (fun h=>h.symm);rw [List.pairwise_map];have:=m.nd;rw [List.nodup_iff_pairwise_ne,List.pairwise_map] at this;refine List.Pairwise.imp_of_mem (fun {a b} ha hb h6=>?_) this;rw [(hm.entry ha).1,(hm.entry hb).1]; exact h6
  have h7:=(List.pairwise_iff_getElem.1 h5) i j (by omega) hj h3;rw [lP] at h0 ⊢;simp only [decide_eq_false_iff_not,Sr] at h0 ⊢;generalize (wT ((Gw.l m).map (·.2)))[i]=a at *;generalize (wT ((Gw.l m).map (·.2)))[j]=b at *;have:¬ (a.G9.Load=b.G9.Load∧a.G9.AF=b.G9.AF):=fun h=>h7 (by
   obtain⟨⟨al,ad⟩,_,_⟩:=a;obtain⟨⟨bl,bd⟩,_,_⟩:=b;simp only at h;rw [h.1,h.2])
  omega
 ·rw [H60 (hp.map _),List.map_map]; exact hm.whole
 ·rw [H60 (hp.map _),List.map_map]; exact hm.half
end Go.Proofs.YtibhpogonkdiaaaGreat
