/-
 Plans that Voyage makes are right; twistlocklaw23.Voyage with few boxes of 40 feet; Gf0 on small ships and boxes of 40 feet: SearchNone:
-/
import Derived.Test.YtibhpogonkdiaaaGreatSeaR
import Derived.Test.YtibhpogonkdiaaaGreatXY
set_option linter.unusedVariables false
set_option linter.unusedSimpArgs false
set_option linter.unnecessarySimpa false
set_option maxRecDepth 100000
namespace Go.Proofs.YtibhpogonkdiaaaGreat
open Go.RowKit

section maps
variable {κ ν:Type} [DecidableEq κ]
theorem H9c (a:κ) (z:ν):Gt.get (Gt.empty:Gt κ ν) a z=z:=rfl
theorem J1b (m:Gt κ ν) (a b:κ) (v z:ν):Gt.get (Gt.put m a v) b z=if a=b then v else Gt.get m b z:=by
 unfold Gt.get Gt.put
 simp only [H01]
 split <;> rfl
end maps
def Hcf (l:List G1) (x:G1):List G1:=l.filter (fun y=>decide (y.Box < x.Box))++[x]++l.filter (fun y=>decide (x.Box < y.Box))
theorem G35 {α:Type} (p:α→Bool) (l:List α) (x:α):(l++[x]).filter p=l.filter p++(if p x then [x] else []):=by
 rw [List.filter_append]
 by_cases h:p x <;> simp [h]
theorem Jcb (l:List G1) (x:G1) (hl:l.length≤100000):Rr l x=some (Hcf l x):=by
 refine G6f ?_
 unfold Rr Hcf
 refine Jb (fun pre s=>s=pre.filter (fun y=>decide (y.Box < x.Box))) rfl (fun pre y post s nx e hs h0=>?_) (fun s hs=>?_)
 ·subst hs
  have hp:pre.length+1≤l.length:=by rw [e]; simp
  have hf:=Kp (fun y:G1=>decide (y.Box < x.Box)) pre
  refine Yf (fun j=>j=(pre++[y]).filter (fun y=>decide (y.Box < x.Box))) (fun K hK=>Hy (fun h=>Jq (Rf (by rw [M9]; omega) (by omega)) (hK _ ?_)) (fun h=>hK _ ?_)) (fun j hj=>h0 _ hj)
  ·rw [G35,h]; rfl
  ·rw [G35,h]; simp
 ·subst hs
  have hf:=Kp (fun y:G1=>decide (y.Box < x.Box)) l
  refine Jq (Rf (by rw [M9]; omega) (by omega)) ?_
  refine Jb (fun pre s=>s=l.filter (fun y=>decide (y.Box < x.Box))++[x]++pre.filter (fun y=>decide (x.Box < y.Box))) (by simp) (fun pre y post s nx e hs h0=>?_) (fun s hs=>Gy hs)
  subst hs
  have hp:pre.length+1≤l.length:=by rw [e]; simp
  have hg:=Kp (fun y:G1=>decide (x.Box < y.Box)) pre
  refine Yf (fun j=>j=l.filter (fun y=>decide (y.Box < x.Box))++[x]++(pre++[y]).filter (fun y=>decide (x.Box < y.Box))) (fun K hK=>Hy (fun h=>Jq (Rf (by simp only [M8,M9]; omega) (by omega)) (hK _ ?_)) (fun h=>hK _ ?_)) (fun j hj=>h0 _ hj)
  ·rw [G35,h]; simp
  ·rw [G35,h]; simp
theorem Hb3 {l:List G1} {x y:G1}:y∈Hcf l x ↔ y=x∨(y∈l∧y.Box≠x.Box):=by
 unfold Hcf
 simp only [Md,Mh,Mf,Mb]
 constructor
 ·rintro((⟨h1,h2⟩ | h) | ⟨h1,h2⟩)
  ·exact .inr ⟨h1,by omega⟩
  ·exact .inl h
  ·exact .inr ⟨h1,by omega⟩
 ·rintro(h | ⟨h1,h2⟩)
  ·exact .inl (.inr h)
  ·rcases Int.lt_or_gt_of_ne h2 with h | h
   ·exact .inl (.inl ⟨h1,h⟩)
   ·exact .inr ⟨h1,h⟩
theorem Q5c (l:List G1) (x:G1):(Hcf l x).length≤2*l.length+1:=by
 unfold Hcf
 have h1:=Kp (fun y:G1=>decide (y.Box < x.Box)) l
 have h2:=Kp (fun y:G1=>decide (x.Box < y.Box)) l
 simp only [M8,M9]
 omega
def R38 (l:List G1) (id:Int):Bool:=l.any (fun x=>decide (x.Box=id))
theorem R37 {l:List G1} {id:Int}:R38 l id=true ↔ id∈l.map (·.Box):=by
 unfold R38
 rw [List.any_eq_true,Me]
 constructor
 ·rintro⟨x,h1,h2⟩; exact⟨x,h1,Ks h2⟩
 ·rintro⟨x,h1,h2⟩; exact⟨x,h1,Ku h2⟩
theorem law23_holds (l : List G1) (id : Int) : M_twistlocklaw23_holds l id = some (R38 l id) := by
 refine G6f ?_
 unfold M_twistlocklaw23_holds
 refine Jb (fun pre _=>∀ x∈pre,decide (x.Box=id)=false) (fun x hx=>(M0 hx).elim) (fun pre y post s nx e hI h0=>Hy (fun h=>Gy ?_) (fun h=>h0 _ (fun x hx=>?_))) (fun s hI=>Gy ?_)
 ·exact(List.any_eq_true.2 ⟨y,by rw [e]; simp,h⟩).symm
 ·rcases Md.1 hx with hx | hx
  ·exact hI x hx
  ·rw [Mf] at hx; subst hx; exact h
 ·refine(List.any_eq_false.2 fun x hx=>?_).symm
  rw [hI x hx]; exact Bool.false_ne_true
theorem Y0.inj {calls:Int} {boxes:List Box} (h:Y0 calls boxes) {a b:Box} (ha:a∈boxes) (hb:b∈boxes) (e:a.ID=b.ID):a=b:=by
 obtain⟨i,hi⟩:=List.mem_iff_getElem?.1 ha
 obtain⟨j,hj⟩:=List.mem_iff_getElem?.1 hb
 obtain⟨h2,h0⟩:=Kw hi
 obtain⟨h3,h1⟩:=Kw hj
 have hp:=List.pairwise_iff_getElem.1 h.sorted
 rcases Nat.lt_trichotomy i j with hl | hl | hl
 ·have:=hp i j h2 h3 hl
  rw [h0,h1] at this; omega
 ·subst hl; rw [← h0,← h1]
 ·have:=hp j i h3 h2 hl
  rw [h0,h1] at this; omega
theorem R2e {calls:Int} {boxes:List Box} (h:Y0 calls boxes):G3f boxes calls=some true:=by
 refine G6f ?_
 unfold G3f
 have hc:=h.num
 have hl:=h.len
 refine Hy (fun hb=>?_) (fun _=>?_)
 ·simp only [Mi,Mb] at hb
  omega
 refine Jb (fun pre last=>0≤last∧(pre=[]∧last=0∨∃ a∈pre,a.ID=last)) ⟨Int.le_refl _,.inl ⟨rfl,rfl⟩⟩ (fun pre y post last nx e hI h0=>?_) (fun s _=>Gy rfl)
 have hy:=h.each y (by rw [e]; simp)
 obtain⟨⟨i1,i2⟩,hs,h3,h4,h5⟩:=hy
 have h1:last < y.ID:=by
  rcases hI.2 with ⟨_,h⟩ | ⟨a,ha,h⟩
  ·omega
  ·have:=h.symm
   have hp:=Y0.sorted ‹Y0 calls boxes›
   rw [e] at hp
   have:=Gf6 hp a ha
   omega
 refine Hy (fun hb=>?_) (fun _=>h0 _ ⟨by omega,.inr ⟨y,by simp,rfl⟩⟩)
 have e1:decide (y.ID≤last)=false:=Kv (by omega)
 have e2:decide (999999 < y.ID)=false:=Kv (by omega)
 have e3:decide (y.Load < 0)=false:=Kv (by omega)
 have e4:decide (y.Discharge≤y.Load)=false:=Kv (by omega)
 have e5:decide (calls≤y.Discharge)=false:=Kv (by omega)
 rw [e1,e2,e3,e4,e5] at hb
 rcases hs with hs | ⟨hs,hh⟩
 ·simp [hs] at hb
 ·simp [hs,hh] at hb
structure Q71 (s:Gb) (boxes:List Box) (calls:Int) (p:G5b):Prop where
 len:(p.States.length:Int)=calls
 each:∀ (k:Nat) l,p.States[k]? = some l→Gab s boxes k l
theorem R27 {s:Gb} (hs:Small s) (size:Int):Wp (G2e s size) (fun r=>r.length≤200*s.Columns.length∧∀ x∈r,H3d s x size):=by
 unfold G2e
 have h6:(Gf7 size).length≤2:=by
  unfold Gf7
  split
  ·simp
  ·split <;> simp
 refine Jb (fun pre r=>r.length≤200*pre.length∧∀ x∈r,H3d s x size) ⟨by simp,fun x hx=>(M0 hx).elim⟩ (fun pre c post r nx e hI h5=>?_) (fun r hI=>Gy hI)
 obtain⟨h1,h2⟩:=hI
 have hc:s.Columns[pre.length]? = some c:=by rw [e]; simp
 have ht:=hs.tiers c (Kz hc)
 refine Jq (Ku (by omega)) ?_
 have h7:(max c.Tiers 0).toNat≤100:=by omega
 refine G7f (fun i r'=>r'.length≤r.length+2*i∧∀ x∈r',H3d s x size) ⟨by simp,h2⟩ (fun i r' nx2 hi hI h3=>?_) (fun r' hI=>h5 _ ⟨?_,hI.2⟩)
 ·refine Gw (H8a size) ?_
  refine Jb (fun pr r2=>r2.length=r'.length+pr.length∧∀ x∈r2,H3d s x size) ⟨by simp,hI.2⟩ (fun pr h post2 r2 nx3 e2 h0 h4=>h4 _ ⟨?_,fun x hx=>?_⟩) (fun r2 h0=>h3 _ ⟨by have:=hI.1; have:=h0.1; omega,h0.2⟩)
  ·simp only [M8,M9]; have:=h0.1; omega
  ·rcases Md.1 hx with hx | hx
   ·exact h0.2 x hx
   ·rw [Mf] at hx; subst hx
    exact⟨⟨pre.length,c,rfl,hc,by show (i:Int) < c.Tiers; omega⟩,by show (0:Int)≤i; omega,by show h∈Gf7 size; rw [e2]; simp⟩
 ·have:=hI.1
  simp only [M8,M9]; omega
theorem Rca {s:Gb} (hs:Small s) (size:Int):Wp (G5c s size) (fun r=>r.length≤200*s.Columns.length∧∀ x∈r,H3d s x size):=by
 unfold G5c
 refine Gw (show Gb0 s size=some () from rfl) ?_
 refine H8 (wp_mono (R27 hs size) (fun ys h0=>?_))
 have hc:=hs.cols
 refine Jb (fun pre r=>r=pre) rfl (fun pre y post r nx e hI h1=>?_) (fun r hI=>by subst hI; exact Gy h0)
 subst hI
 have hl:r.length < ys.length:=by rw [e]; simp
 exact Jq (Rf (by rw [M9]; have:=h0.1; omega) (by omega)) (h1 _ rfl)
theorem Q81 {s:Gb} {boxes:List Box} {calls k:Int} {l:List G1} {b:Box} (x:Slot) (hs:Small s) (hb:Y0 calls boxes) (h:H9e s boxes k l) (h1:b∈boxes) (h2:abB k b=true) :
  Wp (Q9 s boxes (Hcf l ⟨b.ID,x⟩)) (fun v=>v=true→H9e s boxes k (Hcf l ⟨b.ID,x⟩)∧b.ID∈(Hcf l ⟨b.ID,x⟩).map (·.Box)∧∀ a∈l.map (·.Box),a∈(Hcf l ⟨b.ID,x⟩).map (·.Box)):=by
 have hl:=h.len
 have h3:=hb.len
 have h4:=Q5c l ⟨b.ID,x⟩
 refine wp_mono (G58 hs.right hs.tier (by omega)) (fun v hv e=>⟨⟨hv.1 e,fun y hy=>?_⟩,Me.2 ⟨_,Hb3.2 (.inl rfl),rfl⟩,fun a ha=>?_⟩)
 ·rcases Hb3.1 hy with rfl | ⟨hy,_⟩
  ·exact⟨b,h1,rfl,h2⟩
  ·exact h.mem y hy
 ·obtain⟨y,hy,rfl⟩:=Me.1 ha
  by_cases h0:y.Box=b.ID
  ·exact Me.2 ⟨_,Hb3.2 (.inl rfl),h0.symm⟩
  ·exact Me.2 ⟨y,Hb3.2 (.inr ⟨hy,h0⟩),rfl⟩
theorem H9e.done {s:Gb} {boxes:List Box} {calls k:Int} {l:List G1} (hb:Y0 calls boxes) (h:H9e s boxes k l) (h2:∀ b∈boxes,abB k b=true→b.ID∈l.map (·.Box)):Gab s boxes k l:=by
 refine⟨h.right,Q63 (List.pairwise_map.2 h.right.sorted) (List.pairwise_map.2 (hb.sorted.filter _)) (fun a=>?_)⟩
 unfold Zt
 constructor
 ·intro ha
  obtain⟨x,hx,rfl⟩:=Me.1 ha
  obtain⟨b,h0,e,h1⟩:=h.mem x hx
  exact Me.2 ⟨b,Mh.2 ⟨h0,h1⟩,e⟩
 ·intro ha
  obtain⟨b,h0,rfl⟩:=Me.1 ha
  obtain⟨h3,h1⟩:=Mh.1 h0
  exact h2 b h3 h1
theorem J4d {s:Gb} {boxes:List Box} {home:Gt Int Int} {calls:Int} {F:Nat} (hs:Small s) (hb:Y0 calls boxes) (hh:∀ a,0≤Gt.get home a 0∧Gt.get home a 0≤1000) (hF:60≤F) :
  Wp (Y6 F s boxes home calls) (fun r=>r.2.2=home∧(r.2.1=0→Q71 s boxes calls r.1)):=by
 unfold Y6
 have b4:=hb.num
 have b5:=hb.len
 have b3:=hs.cols
 refine Jq (Ku (by omega)) ?_
 refine G7f (fun i s6=>s6.1.length=i∧∀ (k:Nat) l,s6.1[k]? = some l→Gab s boxes k l) ⟨rfl,fun k l h=>by simp at h⟩ (fun i s6 nx hi hI a7=>?_) (fun s6 hI=>Gy ⟨rfl,fun _=>⟨by show (s6.1.length:Int)=calls; have:=hI.1; omega,hI.2⟩⟩)
 refine Jq (by decide) ?_
 refine G7f (fun _ l=>H9e s boxes i l) H9e.nil (fun t l nx2 ht hl a4=>?_) (fun l hl=>?_)
 ·refine Jb (fun _ l=>H9e s boxes i l) hl (fun pre y post l nx3 e hl h4=>?_) (fun l hl=>a4 _ hl)
  have hy:y∈boxes:=by rw [e]; simp
  refine Yf (fun j=>H9e s boxes i j) (fun K hK=>?_) (fun j hj=>h4 _ hj)
  refine Gw rfl (Hy (fun hc=>?_) (fun _=>hK _ hl))
  have h2:abB i y=true:=by
   simp only [Ma,Mb] at hc
   unfold abB
   rw [Ku (by omega),Ku hc.2]; rfl
  have a8:=hl.len
  exact Gw (Jcb l _ (by omega)) (H8 (wp_mono (Q81 _ hs hb hl hy h2) (fun r53 a9=>Hy (fun h=>hK _ (a9 h).1) (fun _=>hK _ hl))))
 ·refine Jb (fun pre l=>H9e s boxes i l∧∀ b∈pre,abB i b=true→b.ID∈l.map (·.Box)) ⟨hl,fun b hb=>(M0 hb).elim⟩ (fun pre y post l nx3 e h7 h4=>?_) (fun l h7=>?_)
  ·obtain⟨hl,h5⟩:=h7
   have hy:y∈boxes:=by rw [e]; simp
   have a8:=hl.len
   refine Yf (fun j=>H9e s boxes i j∧∀ b∈pre++[y],abB i b=true→b.ID∈j.map (·.Box)) (fun K hK=>?_) (fun j hj=>h4 _ hj)
   by_cases h2:abB i y=true
   ·have h8:=h2
    unfold abB at h8
    simp only [Ma,Mb] at h8
    rw [Kv (show ¬ (i:Int) < y.Load by omega),Kv (show ¬ y.Discharge≤(i:Int) by omega)]
    simp only [Bool.or_self,Bool.not_false,cond_true,Bool.false_or]
    refine Gw (law23_holds l y.ID) (Hy (fun h => hK _ ⟨hl, fun b h1 h3 => ?_⟩) (fun h => ?_))
    ·rcases Md.1 h1 with h1 | h1
     ·exact h5 b h1 h3
     ·rw [Mf] at h1; subst h1
      exact R37.1 h
    ·refine wp_loop (fun st:List G1×Bool×Int=>H9e s boxes i st.1∧(∀ a∈l.map (·.Box),a∈st.1.map (·.Box))∧(st.2.1=true→y.ID∈st.1.map (·.Box))∧0≤st.2.2∧st.2.2≤(s.Columns.length:Int)) (fun st=>s.Columns.length+1 - st.2.2.toNat)
      ⟨hl,fun a ha=>ha,fun h=>(by cases h),Int.le_refl _,by simp⟩ (by show s.Columns.length+1 - 0 < F; omega) (fun st nx4 h9 h6=>?_)
     obtain⟨l1,done,turn⟩:=st
     obtain⟨i1,i2,i3,i4,i5⟩:=h9
     simp only at i1 i2 i3 i4 i5 ⊢
     refine Hy (fun hc=>?_) (fun hc=>?_)
     ·simp only [Ma,Mb,Bool.not_eq_true'] at hc
      obtain⟨c1,rfl⟩:=hc
      refine Yf (fun j=>H9e s boxes i j.1∧(∀ a∈l.map (·.Box),a∈j.1.map (·.Box))∧(j.2=true→y.ID∈j.1.map (·.Box))) (fun K' a3=>?_) (fun j hj=>?_)
      ·refine H8 (wp_mono (Rca hs y.Size) (fun r72 _=>?_))
       refine Jb (fun _ s99=>s99=(l1,false)) rfl (fun pre2 x post2 s99 nx5 e2 a0 a1=>?_) (fun s99 a0=>by subst a0; exact a3 _ ⟨i1,i2,fun h=>by cases h⟩)
       subst a0
       have b6:=i1.len
       refine Gw (Jcb l1 _ (by omega)) (Gw rfl ?_)
       have hg:=hh y.ID
       refine Jd ⟨by omega,by omega⟩ (H8 (G84 (by omega) ?_))
       by_cases a2:x.G4=(Gt.get home y.ID 0+turn).tmod (s.Columns.length:Int)
       ·rw [Ku a2]
        simp only [cond_true,Bool.true_and]
        refine H8 (wp_mono (Q81 x hs hb i1 hy h2) (fun r110 a5=>Hy (fun h=>?_) (fun _=>a1 _ rfl)))
        obtain⟨g1,g2,g3⟩:=a5 h
        exact a3 _ ⟨g1,fun a ha=>g3 a (i2 a ha),fun _=>g2⟩
       ·rw [Kv a2]
        simp only [cond_false,Bool.false_and]
        exact H8 (Gy (a1 _ rfl))
      ·obtain⟨j1,j2,j3⟩:=hj
       refine Jd ⟨by omega,by omega⟩ (h6 _ ⟨j1,j2,j3,by show 0≤turn+1; omega,by show turn+1≤s.Columns.length; omega⟩ ?_)
       show s.Columns.length+1 - (turn+1).toNat < s.Columns.length+1 - turn.toNat
       omega
     ·refine Hy (fun hd=>Gy ⟨rfl,fun h0=>?_⟩) (fun hd=>hK _ ⟨i1,fun b h1 h3=>?_⟩)
      ·have:=(hb.each y hy).id
       have b7:y.ID=0:=h0
       omega
      ·rcases Md.1 h1 with h1 | h1
       ·exact i2 _ (h5 b h1 h3)
       ·rw [Mf] at h1; subst h1
        exact i3 (by simpa using hd)
   ·have b0:H9e s boxes i l∧∀ b∈pre++[y],abB i b=true→b.ID∈l.map (·.Box):=⟨hl,fun b h1 h3=>by
     rcases Md.1 h1 with h1 | h1
     ·exact h5 b h1 h3
     ·rw [Mf] at h1; subst h1; exact(h2 h3).elim⟩
    have b1:((decide ((i:Int) < y.Load))||(decide (y.Discharge≤(i:Int))))=true:=by
     unfold abB at h2
     simp only [Ma,Mb] at h2
     simp only [Mi,Mb]
     omega
    rw [b1]
    simp only [Bool.not_true,cond_false,Bool.true_or,cond_true]
    exact H8 (Gy (hK _ b0))
  ·obtain⟨hl,a6⟩:=h7
   have h9:=hl.done hb a6
   refine Jb (fun _ _=>True) trivial (fun pre y post m nx4 e _ h6=>h6 _ trivial) (fun m _=>?_)
   have b8:i < 20:=by omega
   refine Jq (Rf (by rw [M9]; have:=hI.1; omega) (by omega)) (a7 _ ⟨by simp [hI.1],fun k l' hk=>?_⟩)
   rw [List.getElem?_append] at hk
   split at hk
   ·exact hI.2 k l' hk
   ·rename_i b9
    have b2:k - s6.1.length=0:=by
     have:=(Kw hk).1
     simp only [M9] at this; omega
    rw [b2] at hk
    simp only [List.getElem?_cons_zero,Option.some.injEq] at hk
    subst hk
    have:k=i:=by have:=hI.1; omega
    subst this
    exact h9
structure H6e (x:Gq):Prop where
 column:Byte x.G4
 kilos:Byte x.Kilos
 load:Byte x.Load
 stay:Byte x.Stay
section
variable {s:Gb} {U:List Int} {states:List (List G1)} {l l' l2:List Int} {id y:Int} {m m2:Gt Int Unit}
end
section
variable {s:Gb} {boxes:List Box} {bf af:List G1} {r:List Int}
end

theorem Q09 {s:Gb} {items:List Gq} {calls:Int} {F most:Nat} (a2:most≤8) (hs:Small s) (hi:∀ x∈items,H6e x∧x.Small=false) (hc:2≤calls∧calls≤6) (hF:60≤F) :
  Wp (Qz F s items calls (most:Int)) (fun r=>Y0 calls r.1∧Q71 s r.1 calls r.2∧r.1.length≤most∧∀ b∈r.1,b.Size=40):=by
 unfold Qz
 have a3:=hs.cols
 refine H8 (G56 (m:=min items.length most) (by omega) (by omega) ?_)
 have h4:(items.take (min items.length most)).length≤most:=by rw [List.length_take]; omega
 refine Jb (fun pre st=>(Y0 calls st.1∧∀ b∈st.1,b.Size=40)∧st.1.length=pre.length∧(∀ b∈st.1,b.ID≤5*(pre.length:Int))∧∀ a,0≤Gt.get st.2 a 0∧Gt.get st.2 a 0≤1000)
  ⟨⟨⟨by omega,by simp,fun b hb=>(M0 hb).elim,List.Pairwise.nil⟩,fun b hb=>(M0 hb).elim⟩,rfl,fun b hb=>(M0 hb).elim,fun a=>by rw [H9c]; omega⟩ (fun pre y post st nx e hI h5=>?_) (fun st hI=>?_)
 ·obtain⟨⟨hb,h2⟩,h3,hid,h1⟩:=hI
  obtain⟨hy,h9⟩:H6e y∧y.Small=false:=hi y (List.mem_of_mem_take (by rw [e]; simp:y∈items.take (min items.length most)))
  obtain⟨⟨c1,c2⟩,⟨k1,k2⟩,⟨l1,l2⟩,⟨t1,t2⟩⟩:=hy
  have hp:pre.length < 8:=by rw [e] at h4; simp only [M8,M4] at h4; omega
  refine Jd ⟨by omega,by omega⟩ (Jd ⟨by omega,by omega⟩ (Jd ⟨by omega,by omega⟩ (Jd ⟨by omega,by omega⟩ (Jd ⟨by omega,by omega⟩ (Jd ⟨by omega,by omega⟩ ?_)))))
  refine H8 (G84 (by omega) ?_)
  have eL:y.Load.tmod (calls - 1)=y.Load % (calls - 1):=Int.tmod_eq_emod_of_nonneg l1
  rw [eL]
  have rL:0≤y.Load % (calls - 1)∧y.Load % (calls - 1) < calls - 1:=⟨Int.emod_nonneg _ (by omega),Int.emod_lt_of_pos _ (by omega)⟩
  generalize y.Load % (calls - 1)=L at rL
  refine Jd ⟨by omega,by omega⟩ (Jd ⟨by omega,by omega⟩ (Jd ⟨by omega,by omega⟩ (Jd ⟨by omega,by omega⟩ ?_)))
  refine H8 (G84 (by omega) ?_)
  have eS:y.Stay.tmod (calls - 1 - L)=y.Stay % (calls - 1 - L):=Int.tmod_eq_emod_of_nonneg t1
  rw [eS]
  have rS:0≤y.Stay % (calls - 1 - L)∧y.Stay % (calls - 1 - L) < calls - 1 - L:=⟨Int.emod_nonneg _ (by omega),Int.emod_lt_of_pos _ (by omega)⟩
  generalize y.Stay % (calls - 1 - L)=T at rS
  refine Jd ⟨by omega,by omega⟩ ?_
  refine Yf (fun j:Int×Bool=>j.1=40) (fun K hK=>Hy (fun h=>by rw [h9] at h; cases h) (fun _=>hK _ rfl)) (fun j hj=>?_)
  refine Jd ⟨by omega,by omega⟩ (H8 (G84 (by omega) ?_))
  have eC:y.G4.tmod (s.Columns.length:Int)=y.G4 % (s.Columns.length:Int):=Int.tmod_eq_emod_of_nonneg c1
  rw [eC]
  have rC:0≤y.G4 % (s.Columns.length:Int)∧y.G4 % (s.Columns.length:Int) < s.Columns.length:=⟨Int.emod_nonneg _ (by omega),Int.emod_lt_of_pos _ (by omega)⟩
  generalize y.G4 % (s.Columns.length:Int)=C at rC
  refine Jq (Rf (by rw [M9]; omega) (by omega)) (h5 _ ⟨⟨⟨by omega,by simp only [M8,M9]; omega,fun b h0=>?_,?_⟩,fun b h0=>?_⟩,by simp [h3],fun b h0=>?_,fun a=>?_⟩)
  ·rcases Md.1 h0 with h0 | h0
   ·exact hb.each b h0
   ·rw [Mf] at h0; subst h0
    exact⟨⟨by simp only; omega,by simp only; omega⟩,.inl hj,by simp only; omega,by simp only; omega,by simp only; omega⟩
  ·refine G75 hb.sorted (fun a ha=>?_)
   have:=hid a ha
   simp only
   omega
  ·rcases Md.1 h0 with h0 | h0
   ·exact h2 b h0
   ·rw [Mf] at h0; subst h0
    exact hj
  ·rw [M8,M9]
   rcases Md.1 h0 with h0 | h0
   ·have:=hid b h0; omega
   ·rw [Mf] at h0; subst h0
    simp only; omega
  ·rw [J1b]
   split
   ·omega
   ·exact h1 a
 ·obtain⟨⟨hb,h2⟩,h3,_,h1⟩:=hI
  have a0:=hb.len
  refine Jd ⟨by omega,by omega⟩ (Jq (Ku (by omega)) ?_)
  refine G7f (fun _ st=>((Y0 calls st.1∧∀ b∈st.1,b.Size=40)∧st.1.length≤most)∧∀ a,0≤Gt.get st.2 a 0∧Gt.get st.2 a 0≤1000) ⟨⟨⟨hb,h2⟩,by rw [h3]; exact h4⟩,h1⟩ (fun i st nx hi hI h5=>?_) (fun st _=>?_)
  ·obtain⟨⟨⟨hb,h2⟩,h6⟩,h1⟩:=hI
   refine H8 (wp_mono (J4d hs hb h1 hF) (fun r153 h7=>?_))
   obtain⟨g1,g2⟩:=h7
   refine Hy (fun h=>Gy ⟨hb,g2 (Ks h),h6,h2⟩) (fun _=>?_)
   have a0:=hb.len
   refine Jb (fun pre l=>l=pre.filter (fun b=>decide (b.ID≠r153.2.1))) rfl (fun pre y post l nx2 e hl h8=>?_) (fun l hl=>?_)
   ·subst hl
    have hf:=Kp (fun b:Box=>decide (b.ID≠r153.2.1)) pre
    have hp:pre.length+1≤st.1.length:=by rw [e]; simp
    refine Yf (fun j=>j=(pre++[y]).filter (fun b=>decide (b.ID≠r153.2.1))) (fun K hK=>Hy (fun h=>Jq (Rf (by rw [M9]; omega) (by omega)) (hK _ ?_)) (fun h=>hK _ ?_)) (fun j hj=>h8 _ hj)
    ·rw [G35,h]; rfl
    ·rw [G35,h]; simp
   ·subst hl
    refine h5 _ ⟨⟨⟨⟨hb.num,?_,fun b h0=>hb.each b (Mh.1 h0).1,hb.sorted.filter _⟩,fun b h0=>h2 b (Mh.1 h0).1⟩,Nat.le_trans (Kp _ _) h6⟩,by rw [g1]; exact h1⟩
    have:=Kp (fun b:Box=>decide (b.ID≠r153.2.1)) st.1
    show (st.1.filter (fun b=>decide (b.ID≠r153.2.1))).length≤8
    omega
  ·obtain⟨m,hm⟩:∃ m:Nat,calls=(m:Int):=⟨calls.toNat,by omega⟩
   have a1:H70 calls=some m:=by
    unfold H70
    rw [Ku (by omega),hm]
    rfl
   refine Gw a1 (Jq (Ku ⟨by omega,Nat.le_trans (show m≤6 by omega) (by decide),by omega⟩) (Gy ⟨⟨by omega,by simp,fun b hb=>(M0 hb).elim,List.Pairwise.nil⟩,⟨by simp [hm],fun k l hk=>?_⟩,by simp,fun b hb=>(M0 hb).elim⟩))
   have:l=[]:=by
    have:=Kz hk
    exact List.eq_of_mem_replicate this
   subst this
   exact⟨He1,rfl⟩

theorem Rd0 {α:Type} {R:α→α→Prop} {l:List α} (h:l.Pairwise R) {x y:α} (hx:x∈l) (hy:y∈l):x=y∨R x y∨R y x:=by
 induction l with
 | nil=>exact(M0 hx).elim
 | cons a l ih=>
  obtain⟨h1,h2⟩:=List.pairwise_cons.1 h
  rcases Mg.1 hx with e | h3
  ·rcases Mg.1 hy with e2 | h0
   ·exact .inl (e.trans e2.symm)
   ·exact .inr (.inl (by rw [e]; exact h1 y h0))
  ·rcases Mg.1 hy with e2 | h0
   ·exact .inr (.inr (by rw [e2]; exact h1 x h3))
   ·exact ih h2 h3 h0
theorem J00 {s:Gb} {boxes:List Box} {n:Nat} (hs:Ge9 s) (hb:Y0 (n:Int) boxes) (h0:∀ b∈boxes,b.Size=40) (hl:boxes.length≤4) (hn:n≤4):Jo s boxes (n:Int)=some true:=by
 refine G6f ?_
 unfold Jo
 have h4:decide (4 < (n:Int))=false:=Kv (by omega)
 refine Gw hs.right (Gw (x:=true) (little hs.cols hs.tiers) (Gw (x:=true) ?_ ?_))
 ·rw [h4]
  exact R2e hb
 rw [h4]
 refine Hy (fun h=>by cases h) (fun _=>Jq (Ku (by omega)) ?_)
 rw [Int.toNat_natCast]
 refine G7f (fun _ _=>True) trivial (fun i st nx hi _ h1=>?_) (fun st _=>?_)
 ·have h3:=G88 boxes (i:Int)
  refine Gw (Gd6 boxes _ (by omega)) (Hy (fun h=>?_) (fun _=>h1 _ trivial))
  have:=Ks h
  omega
 ·have hc:R8 boxes (fun z0=>G02 z0)=some false:=by
   unfold R8
   have h:R5 boxes (fun z0=>G02 z0)=some (J12 (fun b:Box=>decide (b.Size≠40)) boxes):=H19 (fun x _=>rfl)
   rw [h,G42,Gd9]
   have ha:boxes.any (fun b:Box=>decide (b.Size≠40))=false:=List.any_eq_false.2 fun b h2=>by simp [h0 b h2]
   rw [ha]
  exact Gw hc (Gy rfl)
theorem Jb3 {s:Gb} {boxes:List Box} {ids:List Int} (hs:Ge9 s) (hw:Whole boxes ids) (hl:ids.length≤4):Q6f 60 s boxes ids (Zs 60 s boxes ids):=by
 obtain⟨r,h1,h2⟩:=J5a (F:=60) hs.right (by have:=hs.cols; omega) (fun c hc=>by have:=hs.tiers c hc; omega) hw (by omega) (by omega) (J84 hs.cols hl)
 rw [Gfd hs hw hl (by omega)] at h1
 cases h1
 exact h2
theorem Y0.forty {calls:Int} {boxes:List Box} (hb:Y0 calls boxes) (h0:∀ b∈boxes,b.Size=40):Jf2 boxes:=⟨hb.sorted,h0⟩
def J1c (s:Gb) (boxes:List Box) (n:Nat):List (List (List G1)):=(List.range n).map fun(k:Nat)=>Zs 60 s boxes (Zt boxes (k:Int))
theorem Jde {s:Gb} {boxes:List Box} {n k:Nat} (hk:k < n):(J1c s boxes n)[k]? = some (Zs 60 s boxes (Zt boxes (k:Int))):=by
 unfold J1c
 rw [M5,List.getElem?_range hk]
 rfl
theorem Hb8 {s:Gb} {boxes:List Box} {n k:Nat} {L:List (List G1)} (h:(J1c s boxes n)[k]? = some L):k < n∧L=Zs 60 s boxes (Zt boxes (k:Int)):=by
 have hk:k < n:=by have:=(Kw h).1; unfold J1c at this; simpa using this
 rw [Jde hk] at h
 exact⟨hk,(Ky h).symm⟩
theorem Qb2 {all:List (List (List G1))}:∀ (l:List (List G1)) (k:Nat),Q40 all k l→∀ (i:Nat) a,l[i]? = some a→∃ L,all[k+i]? = some L∧a∈L
 | [],_,_,i,a,h=>by simp at h
 | x::l,k,hp,i,a,h=>by
  cases i with
  | zero=>cases h; exact hp.1
  | succ i=>
   obtain⟨L,h1,h2⟩:=Qb2 l (k+1) hp.2 i a h
   exact⟨L,by rw [← h1]; congr 1; omega,h2⟩
theorem R56 {all:List (List (List G1))}:∀ (l:List (List G1)) (k:Nat),(∀ (i:Nat) a,l[i]? = some a→∃ L,all[k+i]? = some L∧a∈L)→Q40 all k l
 | [],_,_=>trivial
 | x::l,k,h=>⟨h 0 x rfl,R56 l (k+1) fun i a hi=>by
  obtain⟨L,h1,h2⟩:=h (i+1) a hi
  exact⟨L,by rw [← h1]; congr 1; omega,h2⟩⟩
structure Y66 (s:Gb) (boxes:List Box) (n:Nat) (r:G5b×Int×Int):Prop where
 ok:r.2.2=0
 plan:Q71 s boxes (n:Int) r.1
 sum:Q52 (H28 60 s boxes) r.1.States=r.2.1
 nonneg:0≤r.2.1∧r.2.1≤4000
 least:∀ l:List (List G1),l.length=n→(∀ (k:Nat) a,l[k]? = some a→Gab s boxes (k:Int) a)→r.2.1≤Q52 (H28 60 s boxes) l
section
variable {s:Gb} {boxes:List Box} {n:Nat}
theorem Qca (hs:Ge9 s) (hb:Y0 (n:Int) boxes) (h0:∀ b∈boxes,b.Size=40) (hl:boxes.length≤4) {k:Nat} {a:List G1}:a∈Zs 60 s boxes (Zt boxes (k:Int)) ↔ Gab s boxes (k:Int) a:=by
 have h1:=G88 boxes (k:Int)
 rw [(Jb3 hs ((hb.forty h0).whole (k:Int)) (by omega)).mem]
 exact⟨fun h=>⟨h.1,h.2⟩,fun h=>⟨h.right,h.ids⟩⟩
theorem Jc9 (hm:Small s) (hs:Ge9 s) (hb:Y0 (n:Int) boxes) (h4:∀ b∈boxes,b.Size=40) (hl:boxes.length≤4) (hn:1≤n∧n≤4) (h9:∀ k:Nat,k < n→∃ a,Gab s boxes (k:Int) a):Wp (Hp 60 s boxes (n:Int)) (Y66 s boxes n):=by
 have h0:=fun(k:Nat) a=>Qca (k:=k) (a:=a) hs hb h4 hl
 have h6:∀ L∈J1c s boxes n,L≠[]:=fun L hL=>by
  obtain⟨k,hk⟩:=List.mem_iff_getElem?.1 hL
  obtain⟨h1,rfl⟩:=Hb8 hk
  obtain⟨a,ha⟩:=h9 k h1
  exact List.ne_nil_of_mem ((h0 k a).2 ha)
 have h8:(J1c s boxes n).length=n:=by unfold J1c; simp
 refine wp_mono (Jc8 (R:=H28 60 s boxes) (all:=J1c s boxes n) (F:=60) (n:=n) (J00 hs hb h4 hl hn.2) (by omega) (by omega) h8 (fun i L hL=>?_) h6 (fun L hL=>?_) (fun a b=>J61 a b) (fun k L L' a b hL a1 ha h5=>?_)) fun r hr=>?_
 ·obtain⟨h1,rfl⟩:=Hb8 hL
  have a2:=G88 boxes (i:Int)
  exact⟨_,Gd6 boxes _ (by omega),Gfd hs ((hb.forty h4).whole _) (by omega) (by omega)⟩
 ·obtain⟨k,hk⟩:=List.mem_iff_getElem?.1 hL
  obtain⟨h1,rfl⟩:=Hb8 hk
  have a2:=G88 boxes (k:Int)
  exact Nat.le_trans (Jb3 hs ((hb.forty h4).whole _) (by omega)).le (J84 hs.cols (by omega))
 ·obtain⟨_,rfl⟩:=Hb8 hL
  obtain⟨_,rfl⟩:=Hb8 a1
  have ha:=(h0 k a).1 ha
  have h5:=(h0 (k+1) b).1 h5
  have la:=ha.len
  have lb:=h5.len
  obtain⟨_,_,_,_,h⟩:=Jb9 (F:=60) hm ha.right h5.right (by omega) (by omega) (by omega)
  exact h
 ·obtain⟨L0,a0,h1,h2,h3,rfl⟩:=hr
  obtain⟨c1,c2,c3,_⟩:=Jda (R:=H28 60 s boxes) h6 (n - 1) 0 a0 L0 (by omega) h1 h2
  have a3:=H9a (R:=H28 60 s boxes) (all:=J1c s boxes n) (fun a b=>J61 a b) (n - 1) 0 a0
  refine⟨rfl,⟨by show ((G50 _ _ _ _ _).length:Int)=n; rw [c2]; omega,fun k l hk=>?_⟩,c3,⟨a3.1,by show (Yz _ _ _ _ _).1≤4000; omega⟩,fun l h7 a4=>?_⟩
  ·obtain⟨L,g1,g2⟩:=Qb2 _ _ c1 k l hk
   rw [Nat.zero_add] at g1
   obtain⟨_,rfl⟩:=Hb8 g1
   exact(h0 k l).1 g2
  ·have hp:Q40 (J1c s boxes n) 0 l:=R56 l 0 fun i a hi=>by
    have a5:i < n:=by have:=(Kw hi).1; omega
    rw [Nat.zero_add]
    exact⟨_,Jde a5,(h0 i a).2 (a4 i a hi)⟩
   cases l with
   | nil=>simp at h7; omega
   | cons b l=>
    obtain⟨⟨L,g1,g2⟩,g3⟩:=hp
    rw [h1] at g1
    cases g1
    have q1:=h3 b g2
    have q2:=R67 (R:=H28 60 s boxes) (n - 1) 0 b l (by simp at h7; omega) g3
    show (Yz _ _ _ _ a0).1≤_
    omega
theorem R34 (hs:Ge9 s) (hb:Y0 (n:Int) boxes) (h0:∀ b∈boxes,b.Size=40) (hl:boxes.length≤4) (hn:1≤n∧n≤4) (h3:∃ k:Nat,k < n∧Zs 60 s boxes (Zt boxes (k:Int))=[]):Wp (Hp 60 s boxes (n:Int)) (fun _=>True):=by
 unfold Hp
 refine Gw (J00 hs hb h0 hl hn.2) ?_
 simp only [Bool.not_true,cond_false]
 refine Jq (Ku (by omega)) ?_
 rw [Int.toNat_natCast]
 refine G7f (fun i st=>st=(J1c s boxes n).take i∧∀ k:Nat,k < i→Zs 60 s boxes (Zt boxes (k:Int))≠[]) ⟨rfl,fun k hk=>by omega⟩ (fun i st nx hi hI h4=>?_) (fun st hI=>?_)
 ·obtain⟨hI,h5⟩:=hI
  subst hI
  have hL:=Jde (s:=s) (boxes:=boxes) hi
  have h7:(J1c s boxes n).length=n:=by unfold J1c; simp
  have h8:=G88 boxes (i:Int)
  have h6:((J1c s boxes n).take i).length=i:=by rw [List.length_take]; omega
  refine Gw (Gd6 boxes _ (by omega)) (Gw (Gfd hs ((hb.forty h0).whole _) (by omega) (by omega)) (Jq ?_ ?_))
  ·exact Rf (by rw [h6,M9]; omega) (by omega)
  ·refine Qs (m:=i) rfl (x:=Zs 60 s boxes (Zt boxes (i:Int))) (by rw [← Hfe hL]; rw [M6]; simp [hL]) ?_
   refine Hy (fun h=>Gy trivial) (fun h=>h4 _ ⟨(Hfe hL).symm,fun k hk=>?_⟩)
   have h:=Kt h
   rcases Kq k i with h1 | h1
   ·exact h5 k h1
   ·have:k=i:=by omega
    subst this
    intro e
    rw [e] at h
    exact h rfl
 ·obtain⟨k,h1,h2⟩:=h3
  exact(hI.2 k h1 h2).elim
theorem Qb8 (hm:Small s) (hs:Ge9 s) (hb:Y0 (n:Int) boxes) (h0:∀ b∈boxes,b.Size=40) (hl:boxes.length≤4) (hn:1≤n∧n≤4):Wp (Hp 60 s boxes (n:Int)) (fun _=>True):=by
 by_cases h:∃ k:Nat,k < n∧Zs 60 s boxes (Zt boxes (k:Int))=[]
 ·exact R34 hs hb h0 hl hn h
 ·refine wp_mono (Jc9 hm hs hb h0 hl hn fun k hk=>?_) fun _ _=>trivial
  cases e:Zs 60 s boxes (Zt boxes (k:Int)) with
  | nil=>exact(h ⟨k,hk,e⟩).elim
  | cons a l=>exact⟨a,(Qca (k:=k) hs hb h0 hl).1 (by rw [e]; exact List.mem_cons_self ..)⟩
end
def G6d (col:Int→Int) (boxes:List Box) (k:Int):List G1:=(boxes.filter (abB k)).map fun b=>G1.mk b.ID (Slot.mk (col b.ID) 0 0)
theorem Jce {col:Int→Int} {boxes:List Box} {k:Int} {x:G1} (h:x∈G6d col boxes k):∃ b∈boxes,abB k b=true∧x=G1.mk b.ID (Slot.mk (col b.ID) 0 0):=by
 obtain⟨b,hb,rfl⟩:=Me.1 h
 obtain⟨h1,h2⟩:=Mh.1 hb
 exact⟨b,h1,h2,rfl⟩
theorem Y16 {s:Gb} {boxes:List Box} {calls k:Int} {col:Int→Int} (h4:∀ c∈s.Columns,c.Height≤0) (ht:∀ c∈s.Columns,0 < c.Tiers) (hb:Y0 calls boxes) (h5:∀ b∈boxes,b.Size=40) (h3:∀ b∈boxes,0≤col b.ID∧col b.ID < (s.Columns.length:Int))
  (h6:∀ a∈boxes,∀ b∈boxes,abB k a=true→abB k b=true→col a.ID=col b.ID→a.ID=b.ID):Gab s boxes k (G6d col boxes k):=by
 refine⟨⟨fun x hx=>?_,List.pairwise_map.2 (hb.sorted.filter _),?_,fun m c hc=>.inl (h4 c (Kz hc))⟩,?_⟩
 ·obtain⟨b,h1,h2,rfl⟩:=Jce hx
  obtain⟨c0,c1⟩:=h3 b h1
  obtain⟨m,hm⟩:∃ m:Nat,col b.ID=(m:Int):=⟨(col b.ID).toNat,by omega⟩
  have h0:m < s.Columns.length:=by omega
  refine⟨b,Q60 hb.sorted h1,⟨⟨m,s.Columns[m],hm,Kx h0,ht _ (List.getElem_mem h0)⟩,by show (0:Int)≤0; omega,by rw [h5 b h1]; simp [Gf7]⟩,.inl (by show (0:Int)≤0; omega)⟩
 ·unfold G6d
  refine List.pairwise_map.2 ((hb.sorted.filter _).imp_of_mem fun {x y} hx hy h7 hm=>?_)
  obtain⟨x1,x2⟩:=Mh.1 hx
  obtain⟨y1,y2⟩:=Mh.1 hy
  have:=h6 y y1 x x1 y2 x2 hm.1
  omega
 ·unfold G6d Zt
  rw [List.map_map]
  rfl
theorem J3a {col:Int→Int} {boxes:List Box} {k id:Int} (h:(Yy (G6d col boxes k) id).2=true):Yy (G6d col boxes k) id=(Slot.mk (col id) 0 0,true):=by
 obtain⟨x,hx,h1,h2⟩:=J3b h
 obtain⟨b,_,_,rfl⟩:=Jce hx
 rw [← h1]
 refine Prod.ext ?_ (by rw [h1]; exact h)
 rw [h1,h2,← h1]
theorem R61 {st:List G1} {id:Int}:inP st id=true ↔ (Yy st id).2=true:=by
 rw [R3e]
 unfold inP
 rw [List.any_eq_true,Me]
 exact⟨fun⟨x,h1,h2⟩=>⟨x,h1,Ks h2⟩,fun⟨x,h1,h2⟩=>⟨x,h1,Ku h2⟩⟩
theorem R81 {l:List Int} {a b:List G1} (h:∀ x∈l,¬ (inP a x=true∧inP b x=true)):Gec l a b=0:=by
 unfold Gec
 rw [List.filter_eq_nil_iff.2 fun x hx e=>h x hx (Bool.and_eq_true_iff.1 e)]
 rfl
theorem R9e {s:Gb} {boxes:List Box} {k k':Int} {col:Int→Int} (hm:Small s) (hd:∀ c∈s.Columns,c.Deck=false) (h8:boxes.length≤8) (h1:Gab s boxes k (G6d col boxes k)) (h2:Gab s boxes k' (G6d col boxes k')):H28 60 s boxes (G6d col boxes k) (G6d col boxes k')=0:=by
 have l1:=h1.len
 have l2:=h2.len
 obtain⟨l,g1,g2,g3,_⟩:=Jb9 (F:=60) hm h1.right h2.right (by omega) (by omega) (by omega)
 rw [g3]
 refine R81 (g2.least (fun x=>¬ (inP (G6d col boxes k) x=true∧inP (G6d col boxes k') x=true)) (fun a b _ hp=>?_) (fun st _ y _ h5 h0=>h5 ?_))
 ·obtain⟨st,h3,p1,p2⟩:=hp
  exfalso
  have h6:∃ q,st=G6d col boxes q:=by
   simp only [Mg,M0,or_false] at h3
   rcases h3 with h | h
   ·exact⟨_,h⟩
   ·exact⟨_,h⟩
  obtain⟨q,rfl⟩:=h6
  rw [J3a p1] at p2
  rcases p2 with ⟨y,hy,_,_,ho,_⟩ | ⟨st2,_,y,_,_,m,c,m1,c1,_,_,_,h7,_,h4,_⟩
  ·obtain⟨b,_,_,rfl⟩:=Jce hy
   exact absurd ho (by show ¬ (0:Int) < 0; omega)
  ·rw [hd c1 (Kz h7)] at h4
   cases h4
 ·rw [J3a (R61.1 h0.1),J3a (R61.1 h0.2)]
theorem Q1f {R:List G1→List G1→Int}:∀ l:List (List G1),(∀ (i:Nat) a b,l[i]? = some a→l[i+1]? = some b→R a b=0)→Q52 R l=0
 | [],_=>rfl
 | [_],_=>rfl
 | a::b::l,h=>by
  rw [Q52,h 0 a b rfl rfl,Q1f (b::l) fun i x y hx hy=>h (i+1) x y hx hy]
  rfl
theorem Jcf {s:Gb} {boxes:List Box} {n:Nat} {col:Int→Int} (hm:Small s) (hs:Ge9 s) (h5:∀ c∈s.Columns,c.Height≤0) (ht:∀ c∈s.Columns,0 < c.Tiers) (hd:∀ c∈s.Columns,c.Deck=false) (hb:Y0 (n:Int) boxes) (h3:∀ b∈boxes,b.Size=40) (hl:boxes.length≤4) (hn:1≤n∧n≤4)
  (h4:∀ b∈boxes,0≤col b.ID∧col b.ID < (s.Columns.length:Int)) (h6:∀ k:Int,∀ a∈boxes,∀ b∈boxes,abB k a=true→abB k b=true→col a.ID=col b.ID→a.ID=b.ID) :
  Wp (Hp 60 s boxes (n:Int)) (fun r=>r.2.2=0∧r.2.1=0∧(r.1.States.length:Int)=n):=by
 have h0:=fun k:Int=>Y16 (k:=k) h5 ht hb h3 h4 (h6 k)
 refine wp_mono (Jc9 hm hs hb h3 hl hn fun k _=>⟨_,h0 k⟩) fun r hr=>⟨hr.ok,?_,hr.plan.len⟩
 have h1:=hr.nonneg
 have hg:∀ (i:Nat) a,((List.range n).map fun(k:Nat)=>G6d col boxes (k:Int))[i]? = some a→a=G6d col boxes (i:Int):=fun i a h=>by
  rw [M5] at h
  obtain⟨j,hj,rfl⟩:=Option.map_eq_some_iff.1 h
  rw [List.getElem?_range (by have:=(Kw hj).1; simpa using this)] at hj
  cases hj
  rfl
 have h2:=hr.least ((List.range n).map fun(k:Nat)=>G6d col boxes (k:Int)) (by simp) fun k a h=>by rw [hg k a h]; exact h0 k
 rw [Q1f _ fun i a b ha h7=>by
  rw [hg i a ha,hg (i+1) b h7]
  exact R9e hm hd (by omega) (h0 _) (h0 _)] at h2
 omega

theorem Qe2 {l:List Gq} {most:Nat} (hm:most≤8) (hi:∀ x∈l,H6e x):Wp (Yn l (most:Int)) (fun r=>∀ x∈r,H6e x∧x.Small=false):=by
 unfold Yn
 refine H8 (G56 (m:=min l.length most) (by omega) (by omega) ?_)
 have h0:(l.take (min l.length most)).length≤8:=by rw [List.length_take]; omega
 refine Jb (fun pre st=>st.length=pre.length∧∀ x∈st,H6e x∧x.Small=false) ⟨rfl,fun x h=>(M0 h).elim⟩ (fun pre y post st nx e hI h3=>?_) (fun st hI=>Gy hI.2)
 obtain⟨h1,h2⟩:=hI
 have hy:H6e y:=hi y (List.mem_of_mem_take (by rw [e]; simp:y∈l.take (min l.length most)))
 have hp:pre.length < 8:=by rw [e] at h0; simp only [M8,M4] at h0; omega
 refine Jq (Rf (by rw [M9]; omega) (by omega)) (h3 _ ⟨by simp [h1],fun x hx=>?_⟩)
 rcases Md.1 hx with hx | hx
 ·exact h2 x hx
 ·rw [Mf] at hx
  subst hx
  exact⟨⟨hy.column,hy.kilos,hy.load,hy.stay⟩,rfl⟩
def Y3e (i:Int) (t:Int):G4:=G4.mk 0 i false (1+t % 2) 0 0 0 0 [] 0 0 0
def G51:Nat→List Int→List G4
 | _,[]=>[]
 | i,t::r=>Y3e (i:Int) t::G51 (i+1) r
theorem Jc6:∀ (l:List Int) (i:Nat) (y:Int),G51 i (l++[y])=G51 i l++[Y3e ((i+l.length:Nat):Int) y]
 | [],_,_=>rfl
 | t::l,i,y=>by
  rw [List.cons_append,G51,Jc6 l (i+1) y,G51,List.cons_append,M4]
  congr 4
  omega
def H2a (cols:List G4):Gb:=Gb.mk cols [] (Light.mk 0 0 0 0) [] [] [] (Gi.mk 0 0 0 0)
theorem H02:∀ {l:List Int} {i:Nat} {c:G4},c∈G51 i l→1≤c.Tiers∧c.Tiers≤2∧c.Height=0∧c.Deck=false
 | t::l,i,c,h=>by
  rcases Mg.1 h with rfl | h
  ·exact⟨by show 1≤1+t % 2; omega,by show 1+t % 2≤2; omega,rfl,rfl⟩
  ·exact H02 h
theorem par (x:Int):x % 2=0∨x % 2=1:=by omega
theorem Q84 (a b c:Int):Jg (H2a (G51 0 [a,b,c]))=some true:=by
 show Jg (H2a [G4.mk 0 0 false (1+a % 2) 0 0 0 0 [] 0 0 0,G4.mk 0 1 false (1+b % 2) 0 0 0 0 [] 0 0 0,G4.mk 0 2 false (1+c % 2) 0 0 0 0 [] 0 0 0])=some true
 rcases par a with h | h <;> rcases par b with h2 | h2 <;> rcases par c with h3 | h3 <;> rw [h,h2,h3] <;> kernel_rfl
theorem R8e (a:Int):Jg (H2a (G51 0 [a]))=some true:=by
 show Jg (H2a [G4.mk 0 0 false (1+a % 2) 0 0 0 0 [] 0 0 0])=some true
 rcases par a with h | h <;> rw [h] <;> kernel_rfl
theorem Jc5 {l:List Int} (hr:Jg (H2a (G51 0 l))=some true) (h1:1≤(G51 0 l).length∧(G51 0 l).length≤3):Small (H2a (G51 0 l))∧Ge9 (H2a (G51 0 l)):=
 ⟨⟨hr,⟨h1.1,by show (G51 0 l).length≤_; omega⟩,fun c hc=>by have:=H02 hc; omega,by show ([]:List Gs).length≤_; simp,fun x hx=>(M0 hx).elim⟩,
  ⟨hr,h1.2,fun c hc=>by have:=H02 hc; omega⟩⟩
theorem R62 {α:Type} [DecidableEq α]:∀ {l:List α} {x y:α},x∈l→y∈l→l.idxOf x=l.idxOf y→x=y
 | a::l,x,y,hx,hy,h=>by
  rw [List.idxOf_cons,List.idxOf_cons] at h
  by_cases h1:a=x
  ·by_cases h2:a=y
   ·rw [← h1,h2]
   ·have e1:(a==x)=true:=by simp [h1]
    have e2:(a==y)=false:=by simp [h2]
    rw [e1,e2] at h
    simp at h
  ·by_cases h2:a=y
   ·have e1:(a==x)=false:=by simp [h1]
    have e2:(a==y)=true:=by simp [h2]
    rw [e1,e2] at h
    simp at h
   ·have e1:(a==x)=false:=by simp [h1]
    have e2:(a==y)=false:=by simp [h2]
    rw [e1,e2] at h
    simp only [cond_false] at h
    have h3:l.idxOf x=l.idxOf y:=by omega
    refine R62 (l:=l) ?_ ?_ h3
    ·rcases Mg.1 hx with h | h
     ·exact(h1 h.symm).elim
     ·exact h
    ·rcases Mg.1 hy with h | h
     ·exact(h2 h.symm).elim
     ·exact h
def Hf1 (x y:Box):Bool:=decide (y.Discharge≤x.Load)||decide (x.Discharge≤y.Load)
theorem Qc7 {x y:Box} (h:Hf1 x y=true):Hf1 y x=true:=by
 unfold Hf1 at h ⊢
 rw [Bool.or_comm]
 exact h
theorem R97 (a b c:Int) (items:List Gq) (n:Int) (ha:Byte a) (hb:Byte b) (hc:Byte c) (hi:∀ x∈items,H6e x) (hn:Byte n):Yd 60 a b c items n=some true:=by
 refine G6f ?_
 unfold Yd
 refine Jb (fun pre s41=>s41=(G51 0 pre,[],0,0,0,0,[],[],[],0,0,0,0)) rfl (fun pre y post s41 nx e hI h3=>?_) (fun s41 hI=>?_)
 ·have hy:y∈[a,b,c]:=by rw [e]; simp
  have a7:Byte y:=by
   simp only [Mg,M0,or_false] at hy
   rcases hy with rfl | rfl | rfl
   ·exact ha
   ·exact hb
   ·exact hc
  have b4:pre.length < 3:=by have:=congrArg List.length e; simp only [M8,M4,List.length_nil] at this; omega
  obtain⟨y1,y2⟩:=a7
  refine Jd ⟨by omega,by omega⟩ (H8 (G84 (by omega) ?_))
  rw [show y.tmod 2=y % 2 from Int.tmod_eq_emod_of_nonneg y1]
  refine Jd ⟨by omega,by omega⟩ ?_
  subst hI
  have a8:∀ (l:List Int) (i:Nat),(G51 i l).length=l.length:=fun l=>by
   induction l with
   | nil=>exact fun _=>rfl
   | cons t l ih=>exact fun i=>by rw [G51,M4,M4,ih]
  refine Jq (Rf (by rw [M9,a8]; omega) (by omega)) (h3 _ ?_)
  rw [Jc6,Nat.zero_add]
  rfl
 ·subst hI
  obtain⟨n1,n2⟩:=hn
  refine Jd ⟨by omega,by omega⟩ (H8 (G84 (by omega) ?_))
  rw [show n.tmod 3=n % 3 from Int.tmod_eq_emod_of_nonneg n1]
  obtain⟨N,hN⟩:∃ N:Nat,2+n % 3=(N:Int):=⟨(2+n % 3).toNat,by omega⟩
  have b5:2≤N∧N≤4:=by omega
  rw [hN]
  refine Jd ⟨by omega,by omega⟩ ?_
  refine H8 (wp_mono (Qe2 (most:=3) (by omega) hi) fun its a4=>?_)
  have h4:=Jc5 (l:=[a,b,c]) (Q84 a b c) ⟨by show 1≤3; omega,by show 3≤3; omega⟩
  have h0:=Jc5 (l:=[a]) (R8e a) ⟨by show 1≤1; omega,by show 1≤3; omega⟩
  refine H8 (wp_mono (Q09 (most:=3) (s:=H2a (G51 0 [a,b,c])) (calls:=(N:Int)) (F:=60) (by omega) h4.1 a4 (by omega) (by omega)) fun r56 a9=>?_)
  obtain⟨h5,_,h9,h6⟩:=a9
  have h9:r56.1.length≤3:=h9
  have a0:∀ l:List Int,∀ c∈(H2a (G51 0 l)).Columns,c.Height≤0:=fun l c hc=>by have:=H02 hc; omega
  have a1:∀ l:List Int,∀ c∈(H2a (G51 0 l)).Columns,0 < c.Tiers:=fun l c hc=>by have:=H02 hc; omega
  have a2:∀ l:List Int,∀ c∈(H2a (G51 0 l)).Columns,c.Deck=false:=fun l c hc=>(H02 hc).2.2.2
  refine H8 (wp_mono (Jcf (s:=H2a (G51 0 [a,b,c])) (n:=N) (col:=fun id=>(((r56.1.map (·.ID)).idxOf id:Nat):Int)) h4.1 h4.2 (a0 _) (a1 _) (a2 _) h5 h6 (by omega) (by omega) (fun b hb=>⟨by omega,?_⟩) (fun k x hx y hy _ _ b0=>?_)) fun r58 b1=>?_)
  ·have:=List.idxOf_lt_length_of_mem (List.mem_map_of_mem (f:=(·.ID)) hb)
   rw [Mc] at this
   show (((r56.1.map (·.ID)).idxOf b.ID:Nat):Int) < ((3:Nat):Int)
   omega
  ·exact R62 (List.mem_map_of_mem (f:=(·.ID)) hx) (List.mem_map_of_mem (f:=(·.ID)) hy) (by exact Int.ofNat_inj.1 b0)
  ·obtain⟨e1,e2,e3⟩:=b1
   rw [e1,e2,e3]
   refine Hy (fun h=>by simp at h) (fun _=>?_)
   refine H8 (G56 (m:=1) (by omega) (by show 1≤3; omega) ?_)
   refine Jb (fun pre s68=>s68=true→pre.Pairwise fun x y=>Hf1 x y=true) (fun _=>.nil) (fun pre y post s68 nx e hI h3=>?_) (fun s68 hI=>?_)
   ·refine H8 (G56 (m:=pre.length) rfl (by rw [e]; simp) ?_)
    have b2:r56.1.take pre.length=pre:=by rw [e]; simp
    rw [b2]
    refine Jb (fun pre2 s85=>s85=true→s68=true∧∀ z∈pre2,Hf1 z y=true) (fun h=>⟨h,fun z hz=>(M0 hz).elim⟩) (fun pre2 z post2 s85 nx2 e2 h7 a5=>?_) (fun s85 h7=>?_)
    ·refine a5 _ fun h=>?_
     obtain⟨g1,g2⟩:=(Bool.and_eq_true_iff).1 h
     obtain⟨q1,q2⟩:=h7 g1
     refine⟨q1,fun w hw=>?_⟩
     rcases Md.1 hw with hw | hw
     ·exact q2 w hw
     ·rw [Mf.1 hw]
      exact Qc7 g2
    ·refine h3 _ fun h=>?_
     obtain⟨q1,q2⟩:=h7 h
     exact G75 (hI q1) q2
   ·have a6:Wp (Hp 60 (H2a (G51 0 [a])) r56.1 (N:Int)) (fun r=>s68=true→r.2.2=0∧r.2.1=0):=by
     cases hs:s68 with
     | false=>exact wp_mono (Qb8 h0.1 h0.2 h5 h6 (by omega) (by omega)) fun _ _ h=>by cases h
     | true=>
      have hp:=hI hs
      refine wp_mono (Jcf (s:=H2a (G51 0 [a])) (n:=N) (col:=fun _=>0) h0.1 h0.2 (a0 _) (a1 _) (a2 _) h5 h6 (by omega) (by omega) (fun b hb=>⟨by omega,by show (0:Int) < ((1:Nat):Int); omega⟩) (fun k x hx y hy h1 h2 _=>?_)) fun r h _=>⟨h.1,h.2.1⟩
      unfold abB at h1 h2
      simp only [Ma,Mb] at h1 h2
      have a3:∀ x y:Box,Hf1 x y=true→(x.Load≤k∧k < x.Discharge)→(y.Load≤k∧k < y.Discharge)→False:=fun x y h g1 g2=>by
       unfold Hf1 at h
       simp only [Mi,Mb] at h
       omega
      rcases Rd0 hp hx hy with h | h | h
      ·rw [h]
      ·exact(a3 x y h h1 h2).elim
      ·exact(a3 y x h h2 h1).elim
    refine H8 (wp_mono a6 fun r91 b3=>?_)
    have h8:((!s68)||((decide (r91.2.2=0))&&(decide (r91.2.1=0))))=true:=by
     cases hs:s68 with
     | false=>rfl
     | true=>
      obtain⟨g1,g2⟩:=b3 hs
      rw [g1,g2]
      rfl
    rw [h8]
    exact Gw (x:=true) Q6b (Gy rfl)
end Go.Proofs.YtibhpogonkdiaaaGreat
