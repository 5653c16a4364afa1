/-
 What Fewest returns.
-/
import Derived.Test.YtpgkkengffpnpaaGreatPutB
import Derived.Test.YtpgkkengffpnpaaGreatBlkL
set_option linter.unusedSimpArgs false
set_option linter.unnecessarySimpa false
set_option maxRecDepth 100000
set_option linter.unusedVariables false
namespace Go.Proofs.YtpgkkengffpnpaaGreat
open Go.RowKit

theorem halvesL_nodup (size:Int):(G66 size).Nodup:=by
 unfold G66
 split
 ·simp
 ·split <;> simp
theorem nodup_snoc {α:Type} {l:List α} {x:α} (h:l.Nodup) (hx:x ∉ l):(l++[x]).Nodup:=by
 rw [List.nodup_append]
 exact⟨h,List.pairwise_singleton ..,fun a ha b hb e=>by rw [List.mem_singleton] at hb; subst hb; exact hx (e ▸ ha)⟩
theorem slots_iff {s:Gp} (hs:Small s) (size:Int):Wp (G0e s size) (fun r=>r.length≤200*s.Columns.length∧(∀ x,x∈r ↔ Yo s x size)∧r.Nodup):=by
 unfold G0e
 have hhl:(G66 size).length≤2:=by
  unfold G66
  split
  ·simp
  ·split <;> simp
 refine Je (fun pre r=>r.length≤200*pre.length∧(∀ x,x∈r ↔ Yo s x size∧x.G4 < (pre.length:Int))∧r.Nodup) ⟨by simp,fun x=>⟨fun h=>(List.not_mem_nil h).elim,fun⟨h,h2⟩=>?_⟩,List.nodup_nil⟩ (fun pre c post r nx e hI hnx=>?_) (fun r hI=>Gh ⟨hI.1,fun x=>?_,hI.2.2⟩)
 ·obtain⟨m,c,hm,_⟩:=h.col
  have h2:x.G4 < (0:Int):=h2
  omega
 rotate_left
 ·rw [hI.2.1]
  refine⟨fun h=>h.1,fun h=>⟨h,?_⟩⟩
  obtain⟨m,c,hm,hc,_⟩:=h.col
  have:=(List.getElem?_eq_some_iff.1 hc).1
  omega
 obtain⟨h1,h2,h3⟩:=hI
 have hc:s.Columns[pre.length]? = some c:=by rw [e]; simp
 have ht:=hs.tiers c (List.mem_of_getElem? hc)
 refine Qn (decide_eq_true (by omega)) ?_
 have htn:(max c.Tiers 0).toNat≤100:=by omega
 refine Hb2 (fun i r'=>r'.length≤r.length+2*i∧(∀ x,x∈r' ↔ Yo s x size∧(x.G4 < (pre.length:Int)∨(x.G4=(pre.length:Int)∧x.Tier < (i:Int))))∧r'.Nodup) ⟨by simp,fun x=>?_,h3⟩ (fun i r' nx2 hi hI hnx2=>?_) (fun r' hI=>hnx _ ⟨?_,fun x=>?_,hI.2.2⟩)
 ·rw [h2]
  constructor
  ·exact fun h=>⟨h.1,.inl h.2⟩
  ·rintro⟨h,hh | ⟨_,hh⟩⟩
   ·exact⟨h,hh⟩
   ·have:=h.tier
    omega
 ·obtain⟨i1,i2,i3⟩:=hI
  refine Gy (H4a size) ?_
  refine Je (fun pr r2=>r2.length=r'.length+pr.length∧(∀ x,x∈r2 ↔ x∈r'∨(x.G4=(pre.length:Int)∧x.Tier=(i:Int)∧x.Half∈pr))∧r2.Nodup) ⟨by simp,fun x=>⟨.inl,fun h=>h.elim id (fun h=>(List.not_mem_nil h.2.2).elim)⟩,i3⟩ (fun pr h post2 r2 nx3 e2 hI2 hnx3=>hnx3 _ ⟨?_,fun x=>?_,?_⟩) (fun r2 hI2=>hnx2 _ ⟨by have:=hI2.1; omega,fun x=>?_,hI2.2.2⟩)
  ·simp only [List.length_append,List.length_singleton]; have:=hI2.1; omega
  ·rw [List.mem_append,hI2.2.1,List.mem_singleton,List.mem_append,List.mem_singleton]
   constructor
   ·rintro((h | ⟨a,b,c⟩) | rfl)
    ·exact .inl h
    ·exact .inr ⟨a,b,.inl c⟩
    ·exact .inr ⟨rfl,rfl,.inr rfl⟩
   ·rintro(h | ⟨a,b,c | c⟩)
    ·exact .inl (.inl h)
    ·exact .inl (.inr ⟨a,b,c⟩)
    ·exact .inr (by cases x; simp_all)
  ·refine nodup_snoc hI2.2.2 fun hm=>?_
   rcases (hI2.2.1 _).1 hm with hh | ⟨_,_,hh⟩
   ·obtain⟨_,hh | ⟨_,hh⟩⟩:=(i2 _).1 hh
    ·have hh:(pre.length:Int) < (pre.length:Int):=hh
     omega
    ·have hh:(i:Int) < (i:Int):=hh
     omega
   ·have hn:=halvesL_nodup size
    rw [e2,List.nodup_append] at hn
    exact hn.2.2 h hh h (by simp) rfl
  ·rw [hI2.2.1,i2]
   constructor
   ·rintro(⟨a,b⟩ | ⟨a,b,c0⟩)
    ·exact⟨a,by omega⟩
    ·refine⟨⟨⟨pre.length,c,a,hc,?_⟩,by omega,c0⟩,.inr ⟨a,by omega⟩⟩
     omega
   ·rintro⟨a,b⟩
    by_cases hh:x.G4=(pre.length:Int)∧x.Tier=(i:Int)
    ·exact .inr ⟨hh.1,hh.2,a.half⟩
    ·exact .inl ⟨a,by omega⟩
 ·have:=hI.1
  simp only [List.length_append,List.length_singleton]; omega
 ·rw [hI.2.1]
  have hpl:((pre++[c]).length:Int)=(pre.length:Int)+1:=by simp
  rw [hpl]
  constructor
  ·rintro⟨a,b⟩
   exact⟨a,by omega⟩
  ·rintro⟨a,b⟩
   refine⟨a,?_⟩
   obtain⟨m,c',hm,hc',htt⟩:=a.col
   by_cases hh:x.G4=(pre.length:Int)
   ·have:m=pre.length:=by omega
    subst this
    rw [hc] at hc'; cases hc'
    have:=a.tier
    exact .inr ⟨hh,by omega⟩
   ·exact .inl (by omega)
theorem slot_all_iff {s:Gp} (hs:Small s) (size:Int):Wp (G1e s size) (fun r=>r.length≤200*s.Columns.length∧(∀ x,x∈r ↔ Yo s x size)∧r.Nodup):=by
 unfold G1e
 refine Gy (show G87 s size=some () from rfl) ?_
 refine H4 (wp_mono (slots_iff hs size) (fun ys hys=>?_))
 have hc:=hs.cols
 refine Je (fun pre r=>r=pre) rfl (fun pre y post r nx e hI hnx=>?_) (fun r hI=>by subst hI; exact Gh hys)
 subst hI
 have hl:r.length < ys.length:=by rw [e]; simp
 exact Qn (G64 (by rw [List.length_singleton]; have:=hys.1; omega) (by omega)) (hnx _ rfl)

open Classical in
/-- The covers that are opened for a slot. -/
noncomputable def J76 (s:Gp) (l:List Stowed) (y:Slot):List Int:=match s.Columns[y.G4.toNat]? with
 | some c=>if 0≤Q7 s c∧c.Deck=false∧J90 s l (Q7 s c) then [Q7 s c] else []
 | none=>[]
theorem cover_at {s:Gp} {c:G4} (h:0≤Q7 s c):∃ k:Nat,Q7 s c=(k:Int)∧k < s.Covers.length:=by
 unfold Q7 at h ⊢
 rcases G01 (fun x=>Gb6 x c) s.Covers with ⟨h1,_⟩ | ⟨m,x,h1,h2,_⟩
 ·rw [h1] at h; omega
 ·exact⟨m,h1,(List.getElem?_eq_some_iff.1 h2).1⟩
theorem opnL_ok {s:Gp} {l:List Stowed} (y:Slot):Gbb s (J76 s l y):=by
 unfold J76
 split
 ·split
  ·rename_i c _ h
   obtain⟨k,e,hk⟩:=cover_at h.1
   exact⟨fun z hz=>by rw [List.mem_singleton] at hz; omega,List.pairwise_singleton ..⟩
  ·exact H0c
 ·exact H0c
theorem opnL_nil {s:Gp} {l:List Stowed} {y:Slot} {size:Int} (hy:Yo s y size) (h:¬ H87 s [] y):J76 s l y=[]:=by
 obtain⟨m,c,hm,hc,_⟩:=hy.col
 unfold J76
 rw [show y.G4.toNat=m by omega,hc]
 refine if_neg fun hh=>h ⟨m,c,hm,hc,hh.1,?_⟩
 rw [hh.2.1]
 exact⟨fun h=>Bool.noConfusion h,fun h=>(List.not_mem_nil h).elim⟩
/-- What comes of putting a box into a slot. -/
noncomputable def G2c (F:Nat) (s:Gp) (boxes:List G9) (l:List Stowed) (id:Int) (y:Slot):List Stowed×Int:=(G04 F s boxes l (J76 s l y) (Stowed.mk id y)).getD ([],1)
theorem resF_eq {F:Nat} {s:Gp} {boxes:List G9} {l:List Stowed} (h:H12 s boxes l) (hF:20≤F) {id:Int} {b:G9} (hb:Q6 boxes id=some b) (hz:b.Size=20∨b.Size=40) (hx:id ∉ l.map (·.G9)) (y:Slot) :
  G04 F s boxes l (J76 s l y) (Stowed.mk id y)=some (G2c F s boxes l id y)∧PutR s boxes l (J76 s l y) (Stowed.mk id y) b.Size (G2c F s boxes l id y):=by
 obtain⟨r,h1,h2⟩:=J72 (F:=F) h (opnL_ok (s:=s) (l:=l) y) hF (x:=Stowed.mk id y) hb hz hx
 have e:G2c F s boxes l id y=r:=by unfold G2c; rw [h1]; rfl
 rw [e]
 exact⟨h1,h2⟩
theorem put_ok {s:Gp} {boxes:List G9} {l:List Stowed} {o:List Int} {x:Stowed} {b:G9} {r:List Stowed×Int} (h:H12 s boxes l) (hl:l.length≤9) (hb:Q6 boxes x.G9=some b) (hx:x.G9 ∉ l.map (·.G9)) (hr:PutR s boxes l o x b.Size r) (h0:r.2=0) :
  Yo s x.Slot b.Size∧¬ H87 s o x.Slot∧H8f l x r.1∧H12 s boxes r.1:=by
 rcases hr with ⟨_,e⟩ | ⟨g0,⟨_,e⟩ | ⟨g1,⟨_,e⟩ | ⟨g2,⟨_,e⟩ | ⟨g3,q,hins,⟨_,e⟩ | ⟨g4,e⟩⟩⟩⟩⟩
 ·rw [e] at h0; exact absurd h0 (by decide)
 ·rw [e] at h0; exact absurd h0 (by decide)
 ·rw [e] at h0; exact absurd h0 (by decide)
 ·rw [e] at h0; exact absurd h0 (by decide)
 ·rw [e] at h0; exact absurd h0 (by decide)
 ·rw [e]
  have hlen:q.length=l.length+1:=by
   have:=(Hca hins).length_eq
   simpa using this
  exact⟨g0,g1,hins,h.ship,right_ins h.right hb g0 g2 g3 hins hx g4,by show q.length≤10; omega⟩
theorem puts_spec {F:Nat} {s:Gp} {boxes:List G9} {l:List Stowed} (h:H12 s boxes l) (hF:20≤F) {b:G9} (hb:Q6 boxes b.ID=some b) (hz:b.Size=20∨b.Size=40) (hx:b.ID ∉ l.map (·.G9)) :
  Wp (G84 F s b boxes l) (fun ys=>∃ all:List Slot,all.length≤200*s.Columns.length∧(∀ x,x∈all ↔ Yo s x b.Size)∧all.Nodup∧ys=(all.filter (fun y=>decide ((G2c F s boxes l b.ID y).2=0))).map (fun y=>(y,(G2c F s boxes l b.ID y).1))):=by
 have hs:=Zn h.ship
 unfold G84
 refine H4 (wp_mono (slot_all_iff hs b.Size) (fun all hall=>?_))
 obtain⟨a1,a2,a3⟩:=hall
 refine Je (fun pre ys=>ys=(pre.filter (fun y=>decide ((G2c F s boxes l b.ID y).2=0))).map (fun y=>(y,(G2c F s boxes l b.ID y).1))) rfl (fun pre y post ys nx e hI hnx=>?_) (fun ys hI=>Gh ⟨all,a1,a2,a3,hI⟩)
 have hy:Yo s y b.Size:=(a2 y).1 (by rw [e]; simp)
 obtain⟨m,c,hm,hc,_⟩:=hy.col
 refine G08 (fun o=>o=J76 s l y) (fun K hK=>?_) (fun o ho=>?_)
 ·have ho:J76 s l y=open Classical in (if 0≤Q7 s c∧c.Deck=false∧J90 s l (Q7 s c) then [Q7 s c] else []):=by
   unfold J76
   rw [show y.G4.toNat=m by omega,hc]
  rw [hm]
  refine Gy (H23 hc (fun x hx=>by have:=hs.rows x hx; omega) (by have:=hs.covs; omega)) ?_
  by_cases hk:0≤Q7 s c
  ·rw [decide_eq_true hk]
   simp only [cond_true,Bool.true_and]
   refine H4 (Ro rfl hc (Gh (Hb (fun hd=>?_) (fun hd=>hK _ ?_))))
   ·obtain⟨k,ek,hkl⟩:=cover_at hk
    have hd:c.Deck=false:=by simpa using hd
    rw [ek]
    refine H4 (wp_mono (open_spec h H0c (by omega) hkl) (fun r hr=>hK _ ?_))
    rw [ho]
    rcases hr with ⟨hu,rfl⟩ | ⟨hu,_,hro,hrm⟩
    ·rw [if_neg (fun hh=>hu (ek ▸ hh.2.2))]
    ·rw [if_pos ⟨hk,hd,ek ▸ hu⟩,ek]
     exact H2b hro.sorted (List.pairwise_singleton ..) (fun a=>by rw [hrm a]; simp)
   ·rw [ho,if_neg (fun hh=>by rw [hh.2.1] at hd; cases hd)]
  ·rw [decide_eq_false hk]
   refine H4 (Gh (Hb (fun hd=>by cases hd) (fun _=>hK _ ?_)))
   rw [ho,if_neg (fun hh=>hk hh.1)]
 ·subst ho
  obtain⟨e1,_⟩:=resF_eq h hF hb hz hx y
  refine Gy e1 (Hb (fun h0=>hnx _ ?_) (fun h0=>hnx _ ?_))
  ·rw [List.filter_append,List.map_append,hI,List.filter_cons,if_pos h0]; rfl
  ·rw [List.filter_append,List.map_append,hI,List.filter_cons,if_neg (by rw [h0]; decide)]; simp
/-- How many boxes a box would be in the way of. -/
noncomputable def Gc3 (s:Gp) (boxes:List G9) (q:List Stowed) (id:Int):Int:=((G8d s boxes q id).length:Int)
/-- What Fewest tells. -/
def FewP (F:Nat) (s:Gp) (boxes:List G9) (l:List Stowed) (id size:Int) (r:List Slot×Int×Int):Prop:=
 ∃ ok:List Slot,ok.length≤200*s.Columns.length∧ok.Nodup∧(∀ y,y∈ok ↔ Yo s y size∧(G2c F s boxes l id y).2=0) ∧
  ((ok=[]∧r=([],0,4))∨(r.1≠[]∧r.1=ok.filter (fun y=>decide (Gc3 s boxes (G2c F s boxes l id y).1 id=r.2.1))∧r.2.2=0∧∀ y∈ok,r.2.1≤Gc3 s boxes (G2c F s boxes l id y).1 id))
theorem Fewest_spec {F:Nat} {s:Gp} {boxes:List G9} {l:List Stowed} (h:H12 s boxes l) (hl:l.length≤9) (hF:40≤F) {id:Int} {b:G9} (hb:Q6 boxes id=some b) (hz:b.Size=20∨b.Size=40) (hx:id ∉ l.map (·.G9)) :
  Wp (Rg F s boxes l id) (FewP F s boxes l id b.Size):=by
 have hid:b.ID=id:=of_decide_eq_true (List.find?_some (p:=fun b:G9=>decide (b.ID=id)) hb)
 have hs:=Zn h.ship
 have hcols:=hs.cols
 unfold Rg
 refine Gy h.rightM (Hb (fun h=>by cases h) (fun _=>Gy (H0a boxes id) ?_))
 rw [hb]
 refine Hb (fun hh=>?_) (fun _=>Gy (block_on l id) ?_)
 ·simp only [Bool.not_true,Bool.false_or,Bool.and_eq_true,decide_eq_true_eq] at hh
  omega
 rw [decide_eq_false hx]
 refine Hb (fun h=>by cases h) (fun _=>Gy (show Gcb s boxes l _=some () from rfl) ?_)
 refine H4 (wp_mono (puts_spec h (by omega) (by rw [hid]; exact hb) hz (by rw [hid]; exact hx)) (fun ys hys=>?_))
 obtain⟨all,a1,a2,a3,rfl⟩:=hys
 rw [hid]
 have hok:∀ y,y∈all.filter (fun y=>decide ((G2c F s boxes l id y).2=0)) ↔ Yo s y b.Size∧(G2c F s boxes l id y).2=0:=fun y=>by
  rw [List.mem_filter,a2,decide_eq_true_eq]
 have hokl:(all.filter (fun y=>decide ((G2c F s boxes l id y).2=0))).length≤200*s.Columns.length:=Nat.le_trans (List.length_filter_le _ _) a1
 have hokn:=a3.sublist (List.filter_sublist (p:=fun y=>decide ((G2c F s boxes l id y).2=0)))
 generalize all.filter (fun y=>decide ((G2c F s boxes l id y).2=0))=ok at hok hokl hokn
 refine Je (fun pre t=>(pre=[]→t.1=[])∧(pre≠[]→t.1≠[]∧t.1=(pre.filter (fun p=>decide (Gc3 s boxes p.2 id=t.2.1))).map (·.1)∧∀ p∈pre,t.2.1≤Gc3 s boxes p.2 id)) ⟨fun _=>rfl,fun h=>(h rfl).elim⟩ (fun pre y post t nx e hI hnx=>?_) (fun t hI=>?_)
 ·obtain⟨i1,i2⟩:=hI
  have hym:y∈ok.map (fun y=>(y,(G2c F s boxes l id y).1)):=by rw [e]; simp
  have hpl:pre.length < ok.length:=by
   have:=congrArg List.length e
   simp only [List.length_map,List.length_append,List.length_cons] at this
   omega
  have htl:t.1.length≤pre.length:=by
   by_cases hp:pre=[]
   ·rw [i1 hp]; simp
   ·rw [(i2 hp).2.1,List.length_map]; exact List.length_filter_le _ _
  obtain⟨y0,hy0,rfl⟩:=List.mem_map.1 hym
  obtain⟨g1,g2⟩:=(hok y0).1 hy0
  obtain⟨_,hput⟩:=resF_eq h (by omega:20≤F) hb hz hx y0
  have hSt:=(put_ok h hl (x:=Stowed.mk id y0) hb hx hput g2).2.2.2
  refine Gy (Hd1 hSt hF id) ?_
  have hne:pre++[(y0,(G2c F s boxes l id y0).1)]≠[]:=by simp
  refine G08 (fun j=>(j.2.1=Gc3 s boxes (G2c F s boxes l id y0).1 id∧j.2.2=[]∧∀ p∈pre,Gc3 s boxes (G2c F s boxes l id y0).1 id < Gc3 s boxes p.2 id)∨(pre≠[]∧j.2.1=t.2.1∧j.2.2=t.1∧t.2.1≤Gc3 s boxes (G2c F s boxes l id y0).1 id)) (fun K hK=>Hb (fun hc=>hK _ (.inl ⟨rfl,rfl,fun p hp=>?_⟩)) (fun hc=>hK _ (.inr ?_))) (fun j hj=>?_)
  ·have hpn:pre≠[]:=fun e=>by rw [e] at hp; cases hp
   obtain⟨k1,_,k3⟩:=i2 hpn
   have:=k3 p hp
   simp only [Bool.or_eq_true,decide_eq_true_eq] at hc
   rcases hc with hc | hc
   ·exact(k1 (List.eq_nil_of_length_eq_zero (by omega))).elim
   ·show Gc3 s boxes _ id < _
    unfold Gc3 at this ⊢
    omega
  ·simp only [Bool.or_eq_false_iff,decide_eq_false_iff_not] at hc
   have hpn:pre≠[]:=fun e=>hc.1 (by rw [i1 e]; rfl)
   exact⟨hpn,rfl,rfl,by unfold Gc3; omega⟩
  ·have hjl:j.2.2.length≤pre.length:=by
    rcases hj with ⟨_,e,_⟩ | ⟨_,_,e,_⟩
    ·rw [e]; simp
    ·rw [e]; exact htl
   refine Hb (fun hc=>Qn (G64 (by rw [List.length_singleton]; omega) (by omega)) (hnx _ ⟨fun h=>(hne h).elim,fun _=>?_⟩)) (fun hc=>hnx _ ⟨fun h=>(hne h).elim,fun _=>?_⟩)
   ·have hc:Gc3 s boxes (G2c F s boxes l id y0).1 id=j.2.1:=of_decide_eq_true hc
    refine⟨by simp,?_,?_⟩
    ·show j.2.2++[y0]=((pre++[(y0,(G2c F s boxes l id y0).1)]).filter (fun p=>decide (Gc3 s boxes p.2 id=j.2.1))).map (·.1)
     rw [List.filter_append,List.map_append,List.filter_cons,if_pos (decide_eq_true hc)]
     refine congrArg (·++[y0]) ?_
     rcases hj with ⟨j1,j2,j3⟩ | ⟨j0,j1,j2,j3⟩
     ·have:pre.filter (fun p=>decide (Gc3 s boxes p.2 id=j.2.1))=[]:=List.filter_eq_nil_iff.2 fun p hp hh=>by
       have:=j3 p hp
       have:=of_decide_eq_true hh
       omega
      rw [j2,this]; rfl
     ·rw [j2,j1]; exact(i2 j0).2.1
    ·show ∀ p∈pre++[(y0,(G2c F s boxes l id y0).1)],j.2.1≤Gc3 s boxes p.2 id
     refine Rj (P:=fun p:Slot×List Stowed=>j.2.1≤Gc3 s boxes p.2 id) (fun p hp=>?_) (Int.le_of_eq hc.symm)
     rcases hj with ⟨j1,j2,j3⟩ | ⟨j0,j1,j2,j3⟩
     ·have:=j3 p hp; omega
     ·rw [j1]; exact(i2 j0).2.2 p hp
   ·have hc:¬ Gc3 s boxes (G2c F s boxes l id y0).1 id=j.2.1:=of_decide_eq_false hc
    rcases hj with ⟨j1,j2,j3⟩ | ⟨j0,j1,j2,j3⟩
    ·exact(hc j1.symm).elim
    obtain⟨k1,k2,k3⟩:=i2 j0
    refine⟨by rw [j2]; exact k1,?_,?_⟩
    ·show j.2.2=((pre++[(y0,(G2c F s boxes l id y0).1)]).filter (fun p=>decide (Gc3 s boxes p.2 id=j.2.1))).map (·.1)
     rw [List.filter_append,List.map_append,List.filter_cons,if_neg (fun hh=>hc (of_decide_eq_true hh)),j2,j1]
     simpa using k2
    ·show ∀ p∈pre++[(y0,(G2c F s boxes l id y0).1)],j.2.1≤Gc3 s boxes p.2 id
     refine Rj (P:=fun p:Slot×List Stowed=>j.2.1≤Gc3 s boxes p.2 id) (fun p hp=>?_) (by show j.2.1≤Gc3 s boxes (G2c F s boxes l id y0).1 id; omega)
     rw [j1]; exact k3 p hp
 ·obtain⟨i1,i2⟩:=hI
  by_cases hn:ok=[]
  ·subst hn
   rw [i1 rfl]
   exact Hb (fun _=>Gh ⟨[],hokl,hokn,hok,.inl ⟨rfl,rfl⟩⟩) (fun h=>absurd h (by decide))
  ·obtain⟨k1,k2,k3⟩:=i2 (by simpa using hn)
   have hpos:=List.length_pos_iff.2 k1
   refine Hb (fun h=>?_) (fun _=>Gh ⟨ok,hokl,hokn,hok,.inr ⟨k1,?_,rfl,fun y hy=>?_⟩⟩)
   ·have:=of_decide_eq_true h; omega
   ·show t.1=_
    rw [k2,List.filter_map,List.map_map]
    simp only [Function.comp_def,List.map_id']
   ·exact k3 _ (List.mem_map.2 ⟨y,hy,rfl⟩)
end Go.Proofs.YtpgkkengffpnpaaGreat
