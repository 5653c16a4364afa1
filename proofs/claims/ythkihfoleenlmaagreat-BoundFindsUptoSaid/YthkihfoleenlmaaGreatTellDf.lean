/-
 BoundTells: BoundFinds:
-/
import Derived.Test.YthkihfoleenlmaaGreatTellB
set_option maxRecDepth 100000
set_option linter.unusedVariables false
namespace Go.Proofs.YthkihfoleenlmaaGreat
open Go.RowKit

def Pst (O:Int→Int→Int→Prop) (b:Int) (D:Int→Int→Prop):Prop:=
 (b = -1∧∀ w h x,D w h→¬ O w h x)∨(0≤b∧(∃ w h,O w h b)∧∀ w h x,D w h→O w h x→b≤x)
section
variable {O:Int→Int→Int→Prop} {b v w h:Int} {D D':Int→Int→Prop}
theorem Pst.mono (hp:Pst O b D) (hd:∀ w h x,O w h x→D' w h→D w h):Pst O b D':=by
 rcases hp with ⟨h1,h2⟩ | ⟨h1,h2,h3⟩
 ·exact .inl ⟨h1,fun w h x hD hO=>h2 w h x (hd w h x hO hD) hO⟩
 ·exact .inr ⟨h1,h2,fun w h x hD hO=>h3 w h x (hd w h x hO hD) hO⟩
theorem Pst.skip (hp:Pst O b D) (hd:∀ w' h' x,O w' h' x→D' w' h'→D w' h'∨(w'=w∧h'=h)) (hx:∀ x,O w h x→0≤b∧b≤x):Pst O b D':=by
 rcases hp with ⟨h1,h2⟩ | ⟨h1,h2,h3⟩
 ·refine .inl ⟨h1,fun w' h' x hD hO=>?_⟩
  rcases hd w' h' x hO hD with g | ⟨rfl,rfl⟩
  ·exact h2 _ _ _ g hO
  ·have:=hx x hO; omega
 ·refine .inr ⟨h1,h2,fun w' h' x hD hO=>?_⟩
  rcases hd w' h' x hO hD with g | ⟨rfl,rfl⟩
  ·exact h3 _ _ _ g hO
  ·exact(hx x hO).2
theorem Pst.take (hp:Pst O b D) (hd:∀ w' h' x,O w' h' x→D' w' h'→D w' h'∨(w'=w∧h'=h)) (ho:O w h v) (h0:0≤v) (hx:∀ x,O w h x→v≤x) (hb:b < 0∨v≤b):Pst O v D':=by
 refine .inr ⟨h0,⟨w,h,ho⟩,fun w' h' x hD hO=>?_⟩
 rcases hd w' h' x hO hD with g | ⟨rfl,rfl⟩
 ·rcases hp with ⟨h1,h2⟩ | ⟨h1,h2,h3⟩
  ·exact(h2 _ _ _ g hO).elim
  ·have:=h3 _ _ _ g hO; omega
 ·exact hx x hO
end
theorem H89 {T w h:Int} (hT:1≤T∧T≤10) (hw:0≤w∧w≤2000) (hh:0≤h∧h≤2000):∃ r,jN T w h r:=by
 obtain⟨r,_,h⟩:=Gb4 (F:=(2*w+h).toNat+1) hT hw hh (by omega)
 exact⟨r,h⟩
theorem Gb9 {T:Int} (hT:0≤T):jN T 0 0 0:=⟨0,0,⟨by omega,by omega,.inl rfl⟩,⟨by omega,by omega,.inl rfl⟩,rfl⟩
theorem G2b {F0:Nat} {T:Int} (a0:60≤F0) (hT:1≤T∧T≤10) {l:List G8} (hl:∀ c∈l,Zi (toB c)) (b6:l.length≤20):∀ (n at_ F H:Nat),at_+n=l.length→n+60≤F→H≤40→Wp (Qh F l (at_:Int) T (H:Int)) (fY F0 T ((l.drop at_).map toB) H):=by
 intro n
 induction n with
 | zero=>
  intro at_ F H e hF hH
  obtain⟨F,rfl⟩:∃ k,F=k+1:=⟨F - 1,by omega⟩
  rw [Qh]
  unfold Zr
  rw [Nr (by omega:(at_:Int)=(l.length:Int)),cond_true,List.drop_eq_nil_of_le (by omega)]
  exact H4 ⟨⟨[],rfl,by simp [jD],rfl⟩,fun ps e1 _=>by rw [List.map_eq_nil_iff.1 e1]; exact Int.le_refl _⟩
 | succ n ih=>
  intro at_ F H e hF hH
  obtain⟨F,rfl⟩:∃ k,F=k+1:=⟨F - 1,by omega⟩
  rw [Qh]
  unfold Zr
  rw [Ns (by omega:¬ (at_:Int)=(l.length:Int)),cond_false]
  have h6:at_ < l.length:=by omega
  obtain⟨c,hc⟩:∃ c,l[at_]? = some c:=⟨_,Nu h6⟩
  have h9:l.drop at_=c::l.drop (at_+1):=by
   rw [List.drop_eq_getElem_cons h6]
   rw [Nu h6] at hc
   rw [Nv hc]
  rw [h9,List.map_cons]
  have b3:c∈l:=Nw hc
  have h4:=hl c b3
  obtain⟨w1,w2⟩:=h4.whole
  obtain⟨v1,v2⟩:=h4.half
  have w1:0≤c.Whole:=w1
  have w2:c.Whole≤12:=w2
  have v1:0≤c.Half:=v1
  have v2:c.Half≤12:=v2
  have h0:∀ x∈(l.drop (at_+1)).map toB,Zi x:=fun x hx=>by
   obtain⟨y,hy,rfl⟩:=Pb.1 hx
   exact hl y (List.mem_of_mem_drop hy)
  have b4:((l.drop (at_+1)).map toB).length≤20:=by rw [P9,List.length_drop]; omega
  generalize hR:(l.drop (at_+1)).map toB=rest at h0 b4
  have ih':∀ a:Nat,a≤40→Wp (Qh F l ((at_:Int)+1) T (a:Int)) (fY F0 T rest a):=fun a ha=>by
   have:=ih (at_+1) F a (by omega) (by omega) ha
   rw [hR] at this
   exact this
  have h1:0≤T∧T≤20:=⟨by omega,by omega⟩
  have a5:∀ a≤H,∃ m,fY F0 T rest a m:=fun a ha=>by
   obtain⟨m,_,h⟩:=ih' a (by omega)
   exact⟨m,h⟩
  have a6:∀ {a:Nat} {m:Int},a≤40→fY F0 T rest a m→0≤m∧m≤480:=fun {a m} ha h=>by
   have:=h.bounds a0 h1 h0 ha
   omega
  have h2:∀ {w h x:Int},Opt F0 T (toB c) rest H w h x→0≤w∧w≤c.Whole∧0≤h∧h≤c.Half∧w+h≤x:=fun {w h x} ⟨a1,a2,a3,a4,n,_,hn,m,hm,e⟩=>by
   have:=a6 (by omega) hm
   exact⟨a1,a2,a3,a4,by omega⟩
  refine wp_loop (fun st:Int×Int=>Pst (Opt F0 T (toB c) rest H) st.1 (fun w' _=>w' < st.2)∧0≤st.2∧st.2≤c.Whole+1∧st.1≤600) (fun st=>(c.Whole+1 - st.2).toNat)
   ⟨.inl ⟨rfl,fun w h x hD hO=>by have:=(h2 hO).1; simp only at hD; omega⟩,by simp,by simp only; omega,by simp⟩ (by show (c.Whole+1 - 0).toNat < F; omega) (fun st nx hI a7=>?_)
  obtain⟨b,w⟩:=st
  simp only at hI a7 ⊢
  obtain⟨hP,i1,i2,i3⟩:=hI
  refine Qs rfl hc (J8 (fun hw=>?_) (fun hw=>H4 ?_))
  ·have hw:=Np hw
   refine wp_loop (fun st:Int×Int=>Pst (Opt F0 T (toB c) rest H) st.1 (fun w' h'=>w' < w∨(w'=w∧h' < st.2))∧0≤st.2∧st.2≤c.Half+1∧st.1≤600) (fun st=>(c.Half+1 - st.2).toNat)
    ⟨hP.mono (fun w' h' x hO hD=>by
     have:=(h2 hO).2.2.1
     simp only at hD ⊢
     omega),by simp,by simp only; omega,i3⟩ (by show (c.Half+1 - 0).toNat < F; omega) (fun st nx2 hJ h7=>?_)
   obtain⟨b,h⟩:=st
   simp only at hJ h7 ⊢
   obtain⟨h3,j1,j2,j3⟩:=hJ
   refine Qs rfl hc (J8 (fun hh=>?_) (fun hh=>Ji ⟨by omega,by omega⟩ (a7 _ ⟨h3.mono (fun w' h' x hO hD=>?_),by simp only; omega,by simp only; omega,j3⟩ (by simp only; omega))))
   ·have hh:=Np hh
    have hd:∀ w' h' x,Opt F0 T (toB c) rest H w' h' x→(w' < w∨(w'=w∧h' < h+1))→(w' < w∨(w'=w∧h' < h))∨(w'=w∧h'=h):=fun w' h' x _ hD=>by omega
    refine lW (fun j:Int=>Pst (Opt F0 T (toB c) rest H) j (fun w' h'=>w' < w∨(w'=w∧h' < h+1))∧j≤600) (fun K hK=>?_) (fun j hj=>Ji ⟨by omega,by omega⟩ (h7 _ ⟨hj.1,by simp only; omega,by simp only; omega,hj.2⟩ (by simp only; omega)))
    refine Qs rfl hc (Ji ⟨by omega,by omega⟩ (Qs rfl hc (Ji ⟨by omega,by omega⟩ (Jp (wp_mono (Gb4 (F:=F) hT (w:=c.Whole - w) (h:=c.Half - h) ⟨by omega,by omega⟩ ⟨by omega,by omega⟩ (by omega)) (fun r hr=>?_))))))
    have b7:=(hr.ge h1.1).1
    have h5:∀ {x},Opt F0 T (toB c) rest H w h x→r≤(H:Int)∧∀ m,fY F0 T rest (H - r.toNat) m→x=w+h+m:=fun {x} ⟨_,_,_,_,n,hn,b8,m,hm,e⟩=>by
     have en:(n:Int)=r:=jN.eq h1.1 hn hr
     refine⟨by omega,fun m' b5=>?_⟩
     have:n=r.toNat:=by omega
     rw [this] at hm
     rw [e,hm.eq b5]
    by_cases a8:(H:Int) < r
    ·rw [Nr a8]
     simp only [Bool.not_true,Bool.false_and,cond_false,Bool.true_or,cond_true,sX]
     exact hK _ ⟨h3.skip hd (fun x hx=>by have:=(h5 hx).1; omega),j3⟩
    ·rw [Ns a8]
     simp only [Bool.not_false,Bool.true_and,Bool.false_or]
     have h8:Wp (chk (w+h) fun v82=>chk ((at_:Int)+1) fun v83=>chk ((H:Int) - r) fun v84=>bnd (Qh F l v83 T v84) fun r85=>chk (v82+r85) fun v86=>bif ((decide (b < 0))||(decide (v86 < b))) then (K v86) else (K b)) (fY F0 T (toB c::rest) H):=by
      refine Ji ⟨by omega,by omega⟩ (Ji ⟨by omega,by omega⟩ (Ji ⟨by omega,by omega⟩ ?_))
      rw [show (H:Int) - r=((H - r.toNat:Nat):Int) by omega]
      refine Jp (wp_mono (ih' (H - r.toNat) (by omega)) (fun m hm=>?_))
      have a9:=a6 (by omega) hm
      refine Ji ⟨by omega,by omega⟩ (J8 (fun hb=>hK _ ⟨h3.take hd ⟨i1,hw,j1,hh,r.toNat,by rw [show ((r.toNat:Nat):Int)=r by omega]; exact hr,by omega,m,hm,rfl⟩ (by omega) (fun x hx=>?_) ?_,by omega⟩) (fun hb=>hK _ ⟨h3.skip hd (fun x hx=>?_),j3⟩))
      ·have:=(h5 hx).2 m hm; omega
      ·simp only [Pf,P8] at hb; omega
      ·simp only [Pg,decide_eq_false_iff_not] at hb
       have:=(h5 hx).2 m hm; omega
     by_cases b0:0≤b
     ·rw [Nr b0]
      simp only [cond_true,Bool.true_and]
      refine Jp (Ji ⟨by omega,by omega⟩ (H4 (J8 (fun hb=>hK _ ⟨h3.skip hd (fun x hx=>?_),j3⟩) (fun _=>h8))))
      have hb:=Np hb
      have:=(h2 hx).2.2.2.2
      omega
     ·rw [Ns b0]
      simp only [cond_false,Bool.false_and,sX]
      exact h8
   ·have hh:=Nq hh
    have:=h2 hO
    simp only at hD ⊢
    omega
  ·have hw:=Nq hw
   have b1:Pst (Opt F0 T (toB c) rest H) b (fun _ _=>True):=hP.mono (fun w' h' x hO _=>by have:=h2 hO; show w' < w; omega)
   obtain⟨m0,a9⟩:=a5 H (Ny)
   have b2:Opt F0 T (toB c) rest H c.Whole c.Half (c.Whole+c.Half+m0):=⟨w1,Int.le_refl _,v1,Int.le_refl _,0,by
    show jN T (c.Whole - c.Whole) (c.Half - c.Half) 0
    rw [Int.sub_self,Int.sub_self]; exact Gb9 h1.1,by omega,m0,a9,rfl⟩
   rcases b1 with ⟨_,g⟩ | ⟨_,g1,g2⟩
   ·exact(g _ _ _ trivial b2).elim
   ·exact G5e a0 h1 h4 h0 hH a5 (fun w h a1 a2 a3 a4=>H89 hT ⟨a1,by omega⟩ ⟨a3,by omega⟩) g1 (fun w h x hO=>g2 w h x trivial hO)
def sL (a b:G5):Prop:=a.Load < b.Load∧b.Load < a.Discharge∧a.Discharge < b.Discharge
theorem G2c (a b:G5):∃ r,bG a b=some r∧eV a b=some r∧(r=true ↔ sL a b):=by
 refine⟨_,rfl,rfl,?_⟩
 unfold sL
 simp only [P7,P8,and_assoc]
def Gdf (bx:List Box) (l:List G5):Prop:=(∀ g∈l,nz bx g)∧l.Pairwise sL
def G10 (bx:List Box) (g:G5):G1:=toB (GD bx g)
theorem H81 {bx:List Box} (g:G5) (hl:bx.length≤1000000):∃ r,Zn bx g=some (GD bx g,r)∧(r=true ↔ nz bx g):=by
 have g1:=fV 40 g bx
 have g2:=fV 20 g bx
 refine⟨decide (0 < Zm 40 g bx+Zm 20 g bx),gA ?_,?_⟩
 ·unfold Zn
  exact Hh (sA bx g 40 hl) (Hh (sA bx g 20 hl) (Ji ⟨by omega,by omega⟩ (H4 rfl)))
 ·rw [P8]; unfold nz; omega
theorem yJ {bx:List Box} (hl:bx.length≤12) (g:G5):Zi (G10 bx g):=by
 have g1:=fV 40 g bx
 have g2:=fV 20 g bx
 exact⟨⟨g1.1,by show Zm 40 g bx≤12; omega⟩,⟨g2.1,by show Zm 20 g bx≤12; omega⟩⟩
theorem H26 {F F0:Nat} {s:H2} {bx:List Box} {l:List G5} {T:Int} (h9:60≤F0) (h5:aG s=some T) (hT:1≤T∧T≤10) (a3:s.Columns.length≤20) (hb:bx.length≤12) (hl:l.length≤12) (hF:100≤F) :
  Wp (Y5 F s bx l) (fun r=>(¬ Gdf bx l∧r=(0,270))∨(Gdf bx l∧r.2=0∧fY F0 T (l.map (G10 bx)) (2*s.Columns.length) r.1)):=by
 unfold Y5
 refine Rv (fun pre st=>st=pre.map (GD bx)∧(∀ g∈pre,nz bx g)∧∀ (i j:Nat) (a b:G5),i < pre.length→i < j→l[i]? = some a→l[j]? = some b→sL a b)
  ⟨rfl,fun g hg=>(Nx hg).elim,fun i j a b h=>by simp at h⟩ (fun pre y post st nx e hI a0=>?_) (fun st hI=>?_)
 ·obtain⟨rfl,i2,i3⟩:=hI
  have h6:pre.length < l.length:=by rw [e]; simp
  have hy:l[pre.length]? = some y:=by rw [e]; simp
  obtain⟨r,er,hr⟩:=H81 (bx:=bx) y (by omega)
  refine Hh er (J8 (fun h=>H4 (.inl ⟨fun hh=>?_,rfl⟩)) (fun h=>?_))
  ·have:=hr.2 (hh.1 y (Nw hy))
   simp [this] at h
  have a1:nz bx y:=hr.1 (by simpa using h)
  refine Z0 (G29 (by rw [P6,P9]; omega) (by omega)) ?_
  refine wp_loop (fun k:Int=>∃ m:Nat,k=(m:Int)∧pre.length+1≤m∧m≤l.length∧∀ (j:Nat) (b:G5),pre.length < j→j < m→l[j]? = some b→sL y b) (fun k=>((l.length:Int) - k).toNat)
   ⟨pre.length+1,rfl,Ny,h6,fun j b h1 h2=>by omega⟩ (by omega) (fun k nx2 hJ h8=>?_)
  obtain⟨m,rfl,m1,m2,m3⟩:=hJ
  refine J8 (fun h4=>?_) (fun h7=>a0 _ ⟨?_,Rx i2 a1,fun i j a b h1 h2 ha h0=>?_⟩)
  ·have h4:m < l.length:=by have:=Np h4; omega
   obtain⟨z,hz⟩:∃ z,l[m]? = some z:=⟨_,Nu h4⟩
   obtain⟨q,eq,_,hq⟩:=G2c y z
   refine Qs rfl hz (Hh eq (J8 (fun h=>H4 (.inl ⟨fun hh=>?_,rfl⟩)) (fun h=>Ji ⟨by omega,by omega⟩ (h8 _ ⟨m+1,by omega,by omega,by omega,fun j b h1 h2 h0=>?_⟩ (by omega)))))
   ·have h1:=List.pairwise_iff_getElem.1 hh.2 pre.length m h6 h4 (by omega)
    rw [(Nt hy).2,(Nt hz).2] at h1
    simp [hq.2 h1] at h
   ·by_cases ej:j=m
    ·subst ej
     rw [hz] at h0; cases h0
     exact hq.1 (by simpa using h)
    ·exact m3 j b h1 (by omega) h0
  ·rw [List.map_append]; rfl
  ·have h7:=Nq h7
   rw [P5,P6] at h1
   by_cases ei:i=pre.length
   ·subst ei
    rw [hy] at ha; cases ha
    have:=(Nt h0).1
    exact m3 j b h2 (by omega) h0
   ·exact i3 i j a b (by omega) h2 ha h0
 ·obtain⟨rfl,i2,i3⟩:=hI
  have hR:Gdf bx l:=⟨i2,List.pairwise_iff_getElem.2 (fun i j hi hj a2=>i3 i j _ _ hi a2 (Nu hi) (Nu hj))⟩
  refine Hh h5 (Ji ⟨by omega,by omega⟩ ?_)
  have h3:=G2b (F0:=F0) h9 hT (l:=l.map (GD bx)) (fun c hc=>by
   obtain⟨g,_,rfl⟩:=Pb.1 hc
   exact yJ hb g) (by rw [P9]; omega) l.length 0 F (2*s.Columns.length) (by rw [P9]; omega) (by omega) (by omega)
  rw [List.drop_zero,List.map_map,show ((2*s.Columns.length:Nat):Int)=2*(s.Columns.length:Int) by omega] at h3
  exact Jp (wp_mono h3 (fun r hr=>H4 (.inr ⟨hR,rfl,hr⟩)))

def H45 (b:Box):Prop:=1≤b.ID∧b.ID≤999999∧(b.Size=40∨(b.Size=20∧b.High=false))∧0≤b.Load∧b.Load < b.Discharge∧b.Discharge < 20
structure BxR (bx:List Box):Prop where
 each:∀ b∈bx,H45 b
 sorted:bx.Pairwise (fun a b=>a.ID < b.ID)
theorem Gd0 (y:Box):(((decide (y.ID < 1)||decide (999999 < y.ID))=false)∧(((decide (y.Size≠20)&&decide (y.Size≠40))||(decide (y.Size=20)&&y.High))=false)∧(((decide (y.Load < 0)||decide (y.Discharge≤y.Load))||decide (20≤y.Discharge))=false)) ↔ H45 y:=by
 unfold H45
 cases y.High <;> simp only [Pg,Bool.and_eq_false_iff,decide_eq_false_iff_not,Bool.and_true,Bool.and_false,Bool.or_false,and_true,and_false,or_false,reduceCtorEq] <;> omega
theorem H2a {bx:List Box} (hl:bx.length≤2000):Wp (jQ bx 20) (fun r=>r=true ↔ BxR bx):=by
 unfold jQ
 refine J8 (fun h=>?_) (fun _=>?_)
 ·simp only [Pf,P8] at h; omega
 refine Rv (fun pre (p:Int)=>(∀ b∈pre,H45 b)∧pre.Pairwise (fun a b=>a.ID < b.ID)∧(∀ b∈pre,b.ID≤p)∧0≤p∧(p=0∨∃ b∈pre,b.ID=p)) ⟨fun b hb=>(Nx hb).elim,List.Pairwise.nil,fun b hb=>(Nx hb).elim,Int.le_refl _,.inl rfl⟩ (fun pre y post p nx e hI h0=>?_) (fun p hI=>H4 ⟨fun _=>⟨hI.1,hI.2.1⟩,fun _=>rfl⟩)
 obtain⟨i1,i2,i3,i4,i5⟩:=hI
 have h8:y∈bx:=by rw [e]; simp
 refine J8 (fun h=>H4 (cV fun hh=>?_)) (fun h=>h0 _ ?_)
 ·obtain⟨b1,b2,b3,b4,b5,b6⟩:=hh.each y h8
  have h9:p < y.ID:=by
   rcases i5 with rfl | ⟨b,hb,rfl⟩
   ·omega
   ·have hs:=hh.sorted
    rw [e] at hs
    exact(List.pairwise_append.1 hs).2.2 b hb y (List.mem_cons_self ..)
  simp only [Pf,P7,P8] at h
  rcases b3 with b3 | ⟨b3,b7⟩
  ·omega
  ·rw [b7] at h; simp at h; omega
 ·simp only [Pg,Bool.and_eq_false_iff,decide_eq_false_iff_not] at h
  obtain⟨⟨⟨⟨⟨h1,h2⟩,h3⟩,h4⟩,h5⟩,h6⟩:=h
  have hy:H45 y:=by
   refine⟨by omega,by omega,?_,by omega,by omega,by omega⟩
   rcases h3 with h3 | ⟨h3,h7⟩
   ·exact .inl (by omega)
   ·exact .inr ⟨by omega,h7⟩
  refine⟨Rx i1 hy,sC i2 (fun a ha=>?_),Rx (P:=fun b:Box=>b.ID≤y.ID) (fun b hb=>?_) (Int.le_refl _),by omega,.inr ⟨y,by simp,rfl⟩⟩
  ·have:=i3 a ha; omega
  ·have:=i3 b hb; omega
theorem H82 {bx:List Box} (hl:bx.length≤2000):Wp (Zo bx 20) (fun r=>r=true ↔ BxR bx):=by
 unfold Zo
 refine J8 (fun h=>?_) (fun _=>?_)
 ·simp only [Pf,P8] at h; omega
 refine Rv (fun pre (_:Unit)=>(∀ b∈pre,H45 b)∧pre.Pairwise (fun a b=>a.ID < b.ID)) ⟨fun b hb=>(Nx hb).elim,List.Pairwise.nil⟩ (fun pre y post u nx e hI h7=>?_) (fun p hI=>H4 ⟨fun _=>⟨hI.1,hI.2⟩,fun _=>rfl⟩)
 obtain⟨i1,i2⟩:=hI
 have h6:y∈bx:=by rw [e]; simp
 have h9:pre.length < bx.length:=by rw [e]; simp
 have rest:∀ q:Bool,(q=false ↔ ∀ a∈pre,a.ID < y.ID)→Wp (bif (((decide (y.ID < 1))||(decide (999999 < y.ID)))||q) then (some false) else (bif (((decide (y.Size≠20))&&(decide (y.Size≠40)))||((decide (y.Size=20))&&y.High)) then (some false) else (bif (((decide (y.Load < 0))||(decide (y.Discharge≤y.Load)))||(decide (20≤y.Discharge))) then (some false) else nx ()))) (fun r=>r=true ↔ BxR bx):=fun q hq=>by
  have h4:=Gd0 y
  have h5:∀ {c:Bool},(H45 y→c=false)→c=true→Wp (some false) (fun r=>r=true ↔ BxR bx):=fun {c} h1 h2=>H4 (cV fun hh=>by rw [h1 (hh.each y h6)] at h2; cases h2)
  refine J8 (fun h=>?_) (fun h1=>J8 (h5 (fun hy=>(h4.2 hy).2.1)) (fun h2=>J8 (h5 (fun hy=>(h4.2 hy).2.2)) (fun h3=>h7 _ ?_)))
  ·rw [Pf] at h
   rcases h with h | h
   ·exact h5 (fun hy=>(h4.2 hy).1) h
   ·refine H4 (cV fun hh=>?_)
    have hs:=hh.sorted
    rw [e] at hs
    rw [hq.2 (fun a ha=>(List.pairwise_append.1 hs).2.2 a ha y (List.mem_cons_self ..))] at h; cases h
  ·rw [Pg] at h1
   exact⟨Rx i1 (h4.1 ⟨h1.1,h2,h3⟩),sC i2 (hq.1 h1.2)⟩
 cases hid:(decide (y.ID < 1)||decide (999999 < y.ID)) with
 | true=>
  have:=rest true
  simp only [Bool.not_true,Bool.false_and,cond_false,sX,Bool.true_or,cond_true]
  refine H4 (cV fun hh=>?_)
  have:=((Gd0 y).2 (hh.each y h6)).1
  rw [hid] at this; cases this
 | false=>
  rw [hid] at rest
  simp only [Bool.not_false,Bool.true_and,Bool.false_or] at rest ⊢
  by_cases h0:pre.length=0
  ·have hp:pre=[]:=Ni h0
   rw [Ns (by omega:¬ (0:Int) < (pre.length:Int))]
   simp only [cond_false,sX,Bool.false_and]
   have:=rest false ⟨fun _ a ha=>(by rw [hp] at ha; cases ha),fun _=>rfl⟩
   simpa using this
  ·rw [Nr (by omega:(0:Int) < (pre.length:Int))]
   simp only [cond_true,Bool.true_and]
   have hx:bx[pre.length - 1]? = some pre[pre.length - 1]:=by
    rw [e,P0 (by omega),Nu]
   refine Jp (Ji ⟨by omega,by omega⟩ (H4 (Jp (Qs (m:=pre.length - 1) (by omega) hx (H4 (rest _ ?_))))))
   rw [decide_eq_false_iff_not]
   constructor
   ·intro h a ha
    obtain⟨i,hi,rfl⟩:=List.mem_iff_getElem.1 ha
    by_cases h8:i=pre.length - 1
    ·subst h8; omega
    ·have:=List.pairwise_iff_getElem.1 i2 i (pre.length - 1) hi (by omega) (by omega)
     omega
   ·intro h
    have:=h pre[pre.length - 1] (List.getElem_mem _)
    omega
section
variable {F:Nat} {s:H2} {bx:List Box}
theorem Gb6 (hp:∀ c∈s.Columns,c.Plugs.length≤1048576) (hr:∀ x∈s.Covers,x.Rows.length≤1048576) (hl:bx.length≤2000):Wp (aH s bx) (fun r=>r=true ↔ YW s∧BxR bx):=by
 unfold aH
 refine Jp (wp_mono (H22 s hp hr) (fun r h1=>?_))
 cases r with
 | false=>exact Jp (J8 (fun h=>by cases h) (fun _=>H4 (H4 ⟨fun h=>Bool.noConfusion h,fun h=>by have:=h1.2 h.1; cases this⟩)))
 | true=>exact Jp (J8 (fun _=>wp_mono (H2a hl) (fun r h2=>H4 (by rw [Bool.true_and]; exact h2.trans ⟨fun h=>⟨h1.1 rfl,h⟩,fun h=>h.2⟩))) (fun h=>by cases h))
theorem H24 (hp:∀ c∈s.Columns,c.Plugs.length≤1048576) (hr:∀ x∈s.Covers,x.Rows.length≤1048576) (hl:bx.length≤2000):Wp (Yf F s bx) (fun r=>r=true ↔ YW s∧BxR bx):=by
 unfold Yf
 refine Jp (wp_mono (H80 (F:=F) s hp hr) (fun r h1=>?_))
 cases r with
 | false=>exact Jp (J8 (fun h=>by cases h) (fun _=>H4 (H4 ⟨fun h=>Bool.noConfusion h,fun h=>by have:=h1.2 h.1; cases this⟩)))
 | true=>exact Jp (J8 (fun _=>wp_mono (H82 hl) (fun r h2=>H4 (by rw [Bool.true_and]; exact h2.trans ⟨fun h=>⟨h1.1 rfl,h⟩,fun h=>h.2⟩))) (fun h=>by cases h))
end
structure yO (F0 F:Nat) (s:H2) (bx:List Box) (T:Int) (g0:List G1) (bv:List G5→Int):Prop where
 tall:aR s=some T
 hT:1≤T∧T≤10
 cols:s.Columns.length≤20
 num:bx.length≤12
 groups:Hda F bx g0
 best:∀ l:List G5,l.length≤12→fY F0 T (l.map (G10 bx)) (2*s.Columns.length) (bv l)
 rep:Qq F [(-1)] (((2*s.Columns.length:Nat):Int)+1)=some (List.replicate (2*s.Columns.length+1) (-1))
section
variable {F:Nat} {s:H2} {bx:List Box} {T:Int} {g0:List G1} {bv:List G5→Int}
theorem yO.bounds (h:yO F F s bx T g0 bv) (hF:100≤F) {l:List G5} (hl:l.length≤12):0≤bv l∧bv l≤288:=by
 have h1:=h.hT
 have h2:=h.cols
 have:=(h.best l hl).bounds (by omega) ⟨by omega,by omega⟩ (fun c hc=>by
  obtain⟨g,_,rfl⟩:=Pb.1 hc
  exact yJ h.num g) (by omega)
 rw [P9] at this
 omega
theorem yO.bound (h:yO F F s bx T g0 bv) (hF:100≤F) {l:List G5} (hl:l.length≤12):aI F s (l.map (G10 bx))=some (bv l):=by
 have h1:=h.hT
 have h2:=h.cols
 obtain⟨v,e,hv,_⟩:=H3d (F:=F) (H:=2*s.Columns.length) h.tall ⟨by omega,by omega⟩ rfl (by omega) h.rep (l:=l.map (G10 bx)) (fun c hc=>by
  obtain⟨g,_,rfl⟩:=Pb.1 hc
  exact yJ h.num g) (by rw [P9]; omega) (by omega)
 rw [e,hv.eq (h.best l hl)]
theorem yO.ref (h:yO F F s bx T g0 bv) (hF:100≤F) {l:List G5} (hl:l.length≤12):Wp (Y5 F s bx l) (fun r=>(¬ Gdf bx l∧r=(0,270))∨(Gdf bx l∧r=(bv l,0))):=
 wp_mono (H26 (F0:=F) (by omega) h.tall h.hT h.cols h.num hl hF) (fun r hr=>hr.imp (fun h=>h) (fun⟨a,b,c⟩=>⟨a,Prod.ext (c.eq (h.best l hl)) b⟩))
end
end Go.Proofs.YthkihfoleenlmaaGreat
