/-
 MovesCalls: What the functions return that lend and check plans. What slices.Insert and slices.Delete do to a slice of the ca
-/
import Derived.Test.YtkiekighbhnolaaGreatMovY
import Derived.Test.YtkiekighbhnolaaGreatApl
import Derived.Lib.Overlaps
import Derived.Lib.AppendZerosOnto
set_option maxRecDepth 100000
set_option linter.unusedVariables false
namespace Go.Proofs.YtkiekighbhnolaaGreat
open Go.RowKit

section
variable {s:Ge} {l:AH}
def J3e (s:Ge) (l:AH) (ph i:Int) (t:He):Prop:=∃ p b,(p < ph\/(p=ph/\b < i))/\nT s p b false l+nT s p b true l≠0/\t=tk s l p b
theorem H7e (hS:qV s) (hm:∀ m∈l,MvR s m) {p b:Int} (h:nT s p b false l+nT s p b true l≠0):(p=1\/p=2)/\0<=b/\b < 40:=by
 by_cases h1:nT s p b false l=0
 .exact Jd5 hS hm (c:=true) (by omega)
 .exact Jd5 hS hm h1
theorem J05 {β:Type} {Q:β->Prop} (hm:∀ m∈l,MvR s m) (hl:l.length<=100000) {ph i:Int} (hp:ph=1\/ph=2) {k:Int×Int×Int×Int->Option β} (hk:Wp (k (i,ph,nT s ph i false l,nT s ph i true l)) Q) :
  Wp (each (fun y131 i131 (s131:Int×Int×Int×Int) nx131=>
        jp (fun kj134=>
         bif (!((decide (y131.Kind<=2))==(decide (ph=1)))) then
         (kj134 (s131.2.2.1,s131.2.2.2))
         else
         (jp (fun kj138=>
           bnd (bif ((decide (y131.Kind=1))||(decide (y131.Kind=4))) then Jk s.Covers y131.Gv some else some default) fun y140=>
           bif (((decide (y131.Kind=1))||(decide (y131.Kind=4)))&&(decide (y140.Bay=i))) then
           (chk (s131.2.2.2+1) fun v141=>
            kj138 v141)
           else
           (kj138 s131.2.2.2)) fun(j138:Int)=>
          bnd (bif ((decide (y131.Kind=2))||(decide (y131.Kind=3))) then Jk s.Columns y131.Slot.G5 some else some default) fun y143=>
          bif (((decide (y131.Kind=2))||(decide (y131.Kind=3)))&&(decide (y143.Bay=i))) then
          (chk (s131.2.2.1+1) fun v144=>
           kj134 (v144,j138))
          else
          (kj134 (s131.2.2.1,j138)))) fun(j134:Int×Int)=>
        nx131 (s131.1,s131.2.1,j134.1,j134.2)) k l 0 (i,ph,0,0)) Q:=by
 refine Jw (fun pre (st:Int×Int×Int×Int)=>st=(i,ph,nT s ph i false pre,nT s ph i true pre)) rfl (fun pre y post st nx e hI h5=>?_) (fun st hI=>by rw [hI]; exact hk);subst hI;have h6:y∈l:=by rw [e]; simp
 have h7:pre.length < l.length:=by rw [e]; simp
 have hy:=hm y h6;have h8:1<=y.Kind/\y.Kind<=4:=by unfold MvR at hy; omega
 have b1:=RS s ph i false pre;have b2:=RS s ph i true pre;have h1:∀ c,nT s ph i c (pre++[y])=nT s ph i c pre+(if ZA s ph i c y=true then 1 else 0):=fun c=>G07 s ph i c pre y;refine gR (fun j:Int×Int=>j=(nT s ph i false (pre++[y]),nT s ph i true (pre++[y]))) (fun K hK=>?_) (fun j hj=>h5 _ (by rw [hj]));by_cases h2:vH y=ph
 .have hq:((decide (y.Kind<=2))==(decide (ph=1)))=true:=by
   rw [beq_iff_eq,decide_eq_decide];unfold vH at h2;split at h2 <;> omega
  rw [hq];refine H7 (fun h=>by cases h) (fun _=>?_);have hh:∀ c,ZA s ph i c y=((decide (lO s y=i))&&(isC y==c)):=fun c=>by unfold ZA; rw [Ps h2,Bool.true_and]
  cases hc:isC y with
  | true=>
   obtain⟨x,hx,h0,hb⟩:=hy.cover hc;have h4:=(QX y).1 hc;rw [show (decide (y.Kind=1)||decide (y.Kind=4))=true from hc,show (decide (y.Kind=2)||decide (y.Kind=3))=false by rw [Sh,decide_eq_false_iff_not,decide_eq_false_iff_not]; omega];have hf:nT s ph i false (pre++[y])=nT s ph i false pre:=by rw [h1,hh,hc]; simp
   refine gR (fun j:Int=>j=nT s ph i true (pre++[y])) (fun K2 h3=>?_) (fun j hj=>?_)
   .refine H6 (H7 (fun _=>Z2 (m:=y.Gv.toNat) (by omega) hx (Gg ?_)) (fun h=>by cases h));rw [Bool.true_and];refine H7 (fun h=>aT ⟨by simp only; omega,by simp only; omega⟩ (h3 _ ?_)) (fun h=>h3 _ ?_)
    .have:=Pq h;rw [h1,hh,hc,Ps (hb.trans this)]; rfl
    .have:=Pr h;rw [h1,hh,hc,Pt (fun g=>this (hb.symm.trans g))]; simp
   .refine H6 (H7 (fun h=>by cases h) (fun _=>Gg (H7 (fun h=>by cases h) (fun _=>hK _ (by rw [hj,hf])))))
  | false=>
   obtain⟨x,hx,h0,hb⟩:=hy.AC hc;have h4:¬ (y.Kind=1\/y.Kind=4):=fun g=>by rw [(QX y).2 g] at hc; cases hc
   rw [show (decide (y.Kind=1)||decide (y.Kind=4))=false from hc,show (decide (y.Kind=2)||decide (y.Kind=3))=true by rw [Sg,S9,S9]; omega];have hf:nT s ph i true (pre++[y])=nT s ph i true pre:=by rw [h1,hh,hc]; simp
   refine gR (fun j:Int=>j=nT s ph i true pre) (fun K2 h3=>H6 (H7 (fun h=>by cases h) (fun _=>Gg (H7 (fun h=>by cases h) (fun _=>h3 _ rfl))))) (fun j hj=>?_);refine H6 (H7 (fun _=>Z2 (m:=y.Slot.G5.toNat) (by omega) hx (Gg ?_)) (fun h=>by cases h));rw [Bool.true_and];refine H7 (fun h=>aT ⟨by simp only; omega,by simp only; omega⟩ (hK _ ?_)) (fun h=>hK _ ?_)
   .have:=Pq h;rw [hj,hf,h1,hh,hc,Ps (hb.trans this)]; rfl
   .have:=Pr h;rw [hj,hf,h1,hh,hc,Pt (fun g=>this (hb.symm.trans g))]; simp
 .have hq:((decide (y.Kind<=2))==(decide (ph=1)))=false:=by
   rw [Bool.eq_false_iff];intro g;rw [beq_iff_eq,decide_eq_decide] at g;unfold vH at h2;split at h2 <;> omega
  rw [hq];have hf:∀ c,nT s ph i c (pre++[y])=nT s ph i c pre:=fun c=>by rw [h1]; unfold ZA; rw [Pt h2]; simp
  exact H7 (fun _=>hK _ (by rw [hf,hf])) (fun h=>by cases h)
theorem Q08 {F:Nat} (hS:qV s) (hR:Rj F s=some true) (hl:l.length<=100000) (hF:10<=F):Wp (Yc F s l) (fun r=>(¬ (∀ m∈l,MvR s m)/\r=([],2))\/((∀ m∈l,MvR s m)/\r.2=0/\G40 s l r.1)):=by
 unfold Yc;refine Gt hR (H7 (fun h=>by cases h) (fun _=>?_));refine Jw (fun pre _=>∀ x∈pre,MvR s x) (fun x hx=>(Py hx).elim) (fun pre y post u nx e hI h1=>?_) (fun u hm=>?_)
 .obtain⟨r,er,hr⟩:=J07 (s:=s) y;refine Gt er (H7 (fun h=>Gg (.inl ⟨fun hh=>?_,rfl⟩)) (fun h=>h1 _ (Q2 hI (hr.1 (by simpa using h)))));rw [hr.2 (hh y (by rw [e]; simp))] at h; cases h
 .have h6:(40:Int).toNat=40:=rfl;refine wp_loop (fun st:List He×Int=>(st.2=1\/st.2=2\/st.2=3)/\st.1.Pairwise (fun a b=>YQ a b < 0)/\(∀ t,t∈st.1 ↔ J3e s l st.2 0 t)/\(st.1.length:Int)<=40*(st.2 - 1)) (fun st=>(3 - st.2).toNat)
   ⟨.inl rfl,List.Pairwise.nil,fun t=>⟨fun h=>(Py h).elim,fun⟨p,b,g1,g2,_⟩=>by have:=H7e hS hm g2; simp only at g1; omega⟩,by simp⟩ (by show (3 - 1:Int).toNat < F; omega) (fun st nx hI h1=>?_)
  obtain⟨out,ph⟩:=st;obtain⟨i1,i2,i3,i4⟩:=hI;simp only at i1 i2 i3 i4 h1 ⊢;refine H7 (fun h2=>?_) (fun h3=>Gg (.inr ⟨hm,rfl,i2,fun t=>(i3 t).trans ?_⟩))
  .have h2:=Pq h2;have hp:ph=1\/ph=2:=by omega
   refine Qs rfl (kO (fun i (o:List He)=>o.Pairwise (fun a b=>YQ a b < 0)/\(∀ t,t∈o ↔ J3e s l ph (i:Int) t)/\(o.length:Int)<=40*(ph - 1)+i) ⟨i2,i3,by omega⟩ (fun i o nx2 hi hJ h4=>?_) (fun o hJ=>?_))
   .obtain⟨j1,j2,j3⟩:=hJ;have h5:i < 40:=hi;refine gR (fun o2:List He=>o2.Pairwise (fun a b=>YQ a b < 0)/\(∀ t,t∈o2 ↔ J3e s l ph ((i+1:Nat):Int) t)/\(o2.length:Int)<=40*(ph - 1)+((i+1:Nat):Int)) (fun K hK=>?_) (fun o2 ho=>h4 _ ho);refine J05 hm hl hp ?_;have b1:=RS s ph (i:Int) false l;have b2:=RS s ph (i:Int) true l;have h0:∀ t,J3e s l ph ((i+1:Nat):Int) t ↔ (J3e s l ph (i:Int) t\/(nT s ph (i:Int) false l+nT s ph (i:Int) true l≠0/\t=tk s l ph (i:Int))):=fun t=>by
     constructor
     .rintro⟨p,b,g1,g2,g3⟩;by_cases hb:p=ph/\b=(i:Int)
      .obtain⟨rfl,rfl⟩:=hb;exact .inr ⟨g2,g3⟩
      .exact .inl ⟨p,b,by omega,g2,g3⟩
     .rintro(⟨p,b,g1,g2,g3⟩ | ⟨g2,g3⟩)
      .exact⟨p,b,by omega,g2,g3⟩
      .exact⟨ph,(i:Int),by omega,g2,g3⟩
    refine aT ⟨by simp only; omega,by simp only; omega⟩ (H7 (fun h=>?_) (fun h=>hK _ ⟨j1,fun t=>(j2 t).trans ((h0 t).trans ?_).symm,by omega⟩))
    .have h:=Pq h;simp only at h;refine Qs (pC (by rw [S7]; omega) (by omega)) (hK _ ⟨oN j1 (fun a ha=>?_),fun t=>?_,by rw [S6,S7]; omega⟩)
     .obtain⟨p,b,g1,_,rfl⟩:=(j2 a).1 ha;rw [zK];show p < ph\/(p=ph/\b < (i:Int))
      exact g1
     .rw [Sb,Sd,h0,j2];exact⟨fun g=>g.imp (fun g=>g) (fun g=>⟨by omega,g⟩),fun g=>g.imp (fun g=>g) (fun g=>g.2)⟩
    .have h:=Pr h;simp only at h;exact⟨fun g=>g.elim (fun g=>g) (fun g=>(g.1 (by omega)).elim),.inl⟩
   .obtain⟨j1,j2,j3⟩:=hJ;have j3:(o.length:Int)<=40*(ph - 1)+40:=j3;refine aT ⟨by omega,by omega⟩ (h1 _ ⟨by show ph+1=1\/ph+1=2\/ph+1=3; omega,j1,fun t=>(j2 t).trans ⟨fun⟨p,b,g1,g2,g3⟩=>⟨p,b,?_,g2,g3⟩,fun⟨p,b,g1,g2,g3⟩=>⟨p,b,?_,g2,g3⟩⟩,by show (o.length:Int)<=40*(ph+1 - 1); omega⟩ (by show (3 - (ph+1)).toNat < (3 - ph).toNat; omega))
    .show p < ph+1\/(p=ph+1/\b < 0)
     omega
    .have:=H7e hS hm g2;have g1:p < ph+1\/(p=ph+1/\b < 0):=g1;show p < ph\/(p=ph/\b < 40)
     omega
  .have h3:=Pr h3;exact⟨fun⟨p,b,_,g2,g3⟩=>⟨p,b,g2,g3⟩,fun⟨p,b,g2,g3⟩=>⟨p,b,by have:=H7e hS hm g2; omega,g2,g3⟩⟩
end

theorem yI (a:AG):Ry a a=some true:=by
 unfold Ry;exact oK (fun i y nx h=>by rw [Qk h]; simp)
def G09 (i:Nat):AG:=(Rm 1 (i:Int)).getD default
theorem J0d (i:Nat) (h:i < 12):Rm 1 (i:Int)=some (G09 i):=by
 unfold G09 Rm;rw [G36 i h]; rfl
def xY (l:List AG):Ln (Ln G2):=(l.map (fun x=>(x,marks tC)),(marks G09).map (fun e=>(e,([]:AG))))
theorem H32 {l:List AG} (hl:l.length<=1048576) (h:∀ x∈l,x.length<=1048576):Zb l=some (xY l):=by
 unfold Zb;exact tY (fun e=>(e,([]:AG))) J0d (by omega) (fun x hx=>H04 (h x hx)) hl
theorem H37 {l:List AG} (hl:l.length<=1048576) (h:∀ x∈l,x.length<=1048576):bY (xY l) l=some true:=by
 unfold bY;exact uB (keep:=Yz) (same:=Ry) (pl:=Prod.fst) J0d hl (fun x hx=>H06 (h x hx)) (fun i hi=>yI (G09 i))
theorem Q4c (l:List AG):(xY l).1.map Prod.fst=l:=by
 show (l.map (fun x=>(x,marks tC))).map Prod.fst=l
 rw [List.map_map];exact(List.map_congr_left (fun x _=>rfl)).trans (List.map_id l)
theorem G92 (a:List AG):bQ a a=some true:=by
 unfold bQ;exact oK (fun i y nx h=>by rw [Qk h,yI]; rfl)
def G08 (i:Nat):AE:=(Rk 1 (i:Int)).getD default
theorem J0c (i:Nat) (h:i < 12):Rk 1 (i:Int)=some (G08 i):=by
 unfold G08 Rk;rw [Ja3 i h]; rfl
def xX (l:List AE):Ln (Ln Int):=(l.map (fun x=>(x,marks JJ)),(marks G08).map (fun e=>(e,([]:AE))))
theorem H31 {l:List AE} (hl:l.length<=1048576) (h:∀ x∈l,x.length<=1048576):Za l=some (xX l):=by
 unfold Za;exact tY (fun e=>(e,([]:AE))) J0c (by omega) (fun x hx=>wL (h x hx)) hl
theorem H36 {l:List AE} (hl:l.length<=1048576) (h:∀ x∈l,x.length<=1048576):bX (xX l) l=some true:=by
 unfold bX;exact uB (keep:=Jq) (same:=Qj) (pl:=Prod.fst) J0c hl (fun x hx=>wN (h x hx)) (fun i hi=>lQ (G08 i))
theorem Q4b (l:List AE):(xX l).1.map Prod.fst=l:=by
 show (l.map (fun x=>(x,marks JJ))).map Prod.fst=l
 rw [List.map_map];exact(List.map_congr_left (fun x _=>rfl)).trans (List.map_id l)
theorem G91 (a:List AE):bP a a=some true:=by
 unfold bP;exact oK (fun i y nx h=>by rw [Qk h,lQ]; rfl)
structure G44 (p:dO):Prop where
 n:p.States.length<=1048576
 each:∀ x∈p.States,x.length<=1048576
 wn:p.Water.length<=1048576
 weach:∀ x∈p.Water,x.length<=1048576
def G39 (p:dO):lR:=⟨xY p.States,xX p.Water⟩
theorem J31 {p:dO} (h:G44 p):aM p=some (G39 p):=by
 unfold aM;rw [H32 h.n h.each,H31 h.wn h.weach]; rfl
theorem Q4d (p:dO):dO.mk ((G39 p).States.1.map Prod.fst) ((G39 p).Water.1.map Prod.fst)=p:=by
 show dO.mk ((xY p.States).1.map Prod.fst) ((xX p.Water).1.map Prod.fst)=p
 rw [Q4c,Q4b]
theorem H2b (p:dO):aJ p p=some true:=by
 unfold aJ;rw [G92,pP,cond_true,G91,pP,Bool.and_self]
theorem J36 {p:dO} (h:G44 p):aP (G39 p) p=some true:=by
 unfold aP;rw [Q4d,H2b,pP,cond_true,show (G39 p).States=xY p.States from rfl,H37 h.n h.each,pP,Bool.and_self,cond_true,show (G39 p).Water=xX p.Water from rfl,H36 h.wn h.weach,pP,Bool.and_self]

/-! ### A plan is checked alike -/
structure BxP (AF:Int) (b:Box):Prop where
 id:1<=b.ID/\b.ID<=999999
 size:b.Size=40\/(b.Size=20/\b.BU=false)
 stay:0<=b.Load/\b.Load < b.AQ/\b.AQ < AF
structure Jeb (bx:AK) (AF:Int):Prop where
 n:1<=AF/\AF<=20
 len:bx.length<=2000
 each:∀ b∈bx,BxP AF b
 inc:(bx.map (·.ID)).Pairwise (· < ·)
theorem H83 {pre:AK} {y:Box} {v:Int} (hp:(pre.map (·.ID)).Pairwise (· < ·)) (hv:(pre=[]/\v=0)\/∃ b,pre[pre.length - 1]? = some b/\b.ID=v) (h:v < y.ID):((pre++[y]).map (·.ID)).Pairwise (· < ·):=by
 rw [List.map_append];refine oN hp fun a ha=>?_;rcases hv with ⟨rfl,_⟩ | ⟨b,hb,h0⟩
 .cases ha
 .have h1:(pre.map (·.ID))[(pre.map (·.ID)).length - 1]? = some v:=by rw [S3,Sa,hb,<- h0]; rfl
  exact qO hp h1 h a ha
theorem Q0b (bx:AK) (AF:Int):Wp (kX bx AF) (fun r=>r=true ↔ Jeb bx AF):=by
 unfold kX;refine H7 (fun h=>Gg (Rb fun hh=>?_)) (fun h=>?_)
 .simp only [Sg,S9] at h;have:=hh.n; have:=hh.len; omega
 simp only [Sh,decide_eq_false_iff_not] at h;refine Jw (fun pre (v:Int)=>(∀ b∈pre,BxP AF b)/\(pre.map (·.ID)).Pairwise (· < ·)/\((pre=[]/\v=0)\/∃ b,pre[pre.length - 1]? = some b/\b.ID=v)) ⟨fun b hb=>(Py hb).elim,List.Pairwise.nil,.inl ⟨rfl,rfl⟩⟩ (fun pre y post v nx e hI h4=>?_) (fun v hI=>Gg ⟨fun _=>⟨by omega,by omega,hI.1,hI.2.1⟩,fun _=>rfl⟩);obtain⟨h1,h2,h3⟩:=hI;have h6:0<=v:=by
  rcases h3 with ⟨_,rfl⟩ | ⟨b,hb,rfl⟩
  .omega
  .have:=(h1 b (Px hb)).id; omega
 refine H7 (fun hc=>Gg (Rb fun hh=>?_)) (fun hc=>?_)
 .subst e;have hy:=hh.each y (List.mem_append_right _ (List.mem_cons_self ..));have h7:v < y.ID:=by
   rcases h3 with ⟨_,rfl⟩ | ⟨b,hb,rfl⟩
   .have:=hy.id; omega
   .have hi:=hh.inc;rw [List.map_append,List.map_cons] at hi;exact(List.pairwise_append.1 hi).2.2 b.ID (Sc.2 ⟨b,Px hb,rfl⟩) y.ID (List.mem_cons_self ..)
  simp only [Sg,S8,S9] at hc;rcases hy.size with h | ⟨h,h5⟩
  .have:=hy.id; have:=hy.stay; omega
  .rw [h5] at hc;have:=hy.id; have:=hy.stay;simp only [Bool.false_eq_true,or_false] at hc;omega
 .simp only [Sh,Bool.and_eq_false_imp,decide_eq_false_iff_not,S9] at hc;obtain⟨⟨⟨⟨⟨c1,c2⟩,c3⟩,c4⟩,c5⟩,c6⟩:=hc;refine h4 _ ⟨Q2 (P:=BxP AF) h1 ⟨by omega,?_,by omega⟩,H83 h2 h3 (by omega),.inr ⟨y,by simp,rfl⟩⟩;by_cases h0:y.Size=40
  .exact .inl h0
  .have:=c3 h0;exact .inr ⟨by omega,this.2⟩
theorem Q47 (bx:AK) (AF:Int):Wp (Z6 bx AF) (fun r=>r=true ↔ Jeb bx AF):=by
 unfold Z6;refine H7 (fun h=>Gg (Rb fun hh=>?_)) (fun h=>?_)
 .simp only [Sg,S9] at h;have:=hh.n; have:=hh.len; omega
 simp only [Sh,decide_eq_false_iff_not] at h;refine Jw (fun pre (_:Unit)=>(∀ b∈pre,BxP AF b)/\(pre.map (·.ID)).Pairwise (· < ·)) ⟨fun b hb=>(Py hb).elim,List.Pairwise.nil⟩ (fun pre y post u nx e hI h7=>?_) (fun u hI=>Gg ⟨fun _=>⟨by omega,by omega,hI.1,hI.2⟩,fun _=>rfl⟩);obtain⟨h1,h2⟩:=hI;have a1:pre.length < bx.length:=by rw [e]; simp
 have a0:bx.length<=2000:=by omega
 refine H6 (wp_mono (Q':=fun v=>1<=y.ID/\y.ID<=999999/\0 < pre.length->v=((pre.length - 1:Nat):Int)) (H7 (fun hc=>?_) (fun hc=>Gg (fun h=>?_))) (fun v hv=>?_))
 .simp only [S8,Bool.not_eq_true',Sh,decide_eq_false_iff_not,S9] at hc;exact aT ⟨by omega,by omega⟩ (Gg fun _=>by omega)
 .simp only [Bool.and_eq_false_imp,Bool.not_eq_true',Sh,decide_eq_false_iff_not] at hc;have:=hc ⟨by omega,by omega⟩;omega
 refine H6 (wp_mono (Q':=fun z=>1<=y.ID/\y.ID<=999999/\0 < pre.length->pre[pre.length - 1]? = some z) (H7 (fun hc=>?_) (fun hc=>Gg (fun h=>?_))) (fun z hz=>?_))
 .simp only [S8,Bool.not_eq_true',Sh,decide_eq_false_iff_not,S9] at hc;have hp:0 < pre.length:=by omega
  obtain⟨b,hb⟩:∃ b,pre[pre.length - 1]? = some b:=⟨_,Pv (by omega)⟩;refine Z2 (hv ⟨by omega,by omega,hp⟩) (x:=b) ?_ (Gg fun _=>hb);rw [e,S1 (by omega)]; exact hb
 .simp only [Bool.and_eq_false_imp,Bool.not_eq_true',Sh,decide_eq_false_iff_not] at hc;have:=hc ⟨by omega,by omega⟩;omega
 have h5:Jeb bx AF->∀ b∈pre,b.ID < y.ID:=fun hh b hb=>by
  have hi:=hh.inc;rw [e,List.map_append,List.map_cons] at hi;exact(List.pairwise_append.1 hi).2.2 b.ID (Sc.2 ⟨b,hb,rfl⟩) y.ID (List.mem_cons_self ..)
 have h3:y∈bx:=by rw [e]; exact List.mem_append_right _ (List.mem_cons_self ..)
 refine H7 (fun hc=>Gg (Rb fun hh=>?_)) (fun hc=>?_)
 .have hy:=hh.each y h3;have hid:=hy.id;simp only [Sg,S8,S9] at hc;rcases hc with hc | hc
  .omega
  .have h8:=hz ⟨hid.1,hid.2,by omega⟩;have:=h5 hh z (Px h8);omega
 simp only [Sh,Bool.and_eq_false_imp,decide_eq_false_iff_not,S9] at hc;refine H7 (fun hd=>Gg (Rb fun hh=>?_)) (fun hd=>?_)
 .have hy:=(hh.each y h3).size;simp only [Sg,S8,S9] at hd;rcases hy with h | ⟨h,h9⟩
  .omega
  .rw [h9] at hd;simp only [Bool.false_eq_true,and_false,or_false] at hd;omega
 simp only [Sh,Bool.and_eq_false_imp,decide_eq_false_iff_not,S9] at hd;refine H7 (fun hf=>Gg (Rb fun hh=>?_)) (fun hf=>?_)
 .have hy:=(hh.each y h3).stay;simp only [Sg,S9] at hf;omega
 simp only [Sh,decide_eq_false_iff_not] at hf;refine h7 _ ⟨Q2 (P:=BxP AF) h1 ⟨by omega,?_,by omega⟩,?_⟩
 .by_cases h6:y.Size=40
  .exact .inl h6
  .by_cases h4:y.Size=20
   .exact .inr ⟨h4,hd.2 h4⟩
   .have:=hd.1 h4;exact absurd h6 this
 .rcases Nat.eq_zero_or_pos pre.length with h0 | h0
  .have:pre=[]:=Pk h0;subst this;exact H83 h2 (.inl ⟨rfl,rfl⟩) (by omega)
  .exact H83 h2 (.inr ⟨z,hz ⟨by omega,by omega,h0⟩,rfl⟩) (by have:=hc.2 (by omega); omega)
theorem Q1f (bx:AK) (AF:Int):∃ r,kX bx AF=some r/\Z6 bx AF=some r/\(r=true ↔ Jeb bx AF):=by
 obtain⟨r,er,hr⟩:=Q0b bx AF;obtain⟨q,eq,hq⟩:=Q47 bx AF;have:r=q:=by
  rw [Bool.eq_iff_iff,hr,hq]
 exact⟨r,er,this ▸ eq,hr⟩



section ops
variable {P:Program} {N:Cfg} {o:Oper} {l:Fr} {L:Loc} {u:AV}
/-! ### Typed elements -/
end ops
end Go.Proofs.YtkiekighbhnolaaGreat
