/-
 The moves of a call lead from the state before to the state after.
-/
import Derived.Test.YtknalejjpofoaaaGreatMplA
set_option maxRecDepth 100000
set_option linter.unusedVariables false
namespace Go.Proofs.YtknalejjpofoaaaGreat
open Go.RowKit

section
variable {F:Nat} {s:Gw} {boxes:List Gd} {l before after:List Stowed} {o q q0 set:List Int}
def Y3 (s:Gw) (x:Stowed):Int:=(Zv s x.Slot).Bay
def J69 (s:Gw) (before after:List Stowed) (set:List Int) (P:Int→Prop) (a:Int):Prop:=0≤a∧∃ x,(x∈before∨x∈after)∧x.Gd∈set∧(Zv s x.Slot).Deck=false∧Gbe s x=a∧P (Y3 s x)
theorem Hfe {c:G4} {k:Nat} (h:Jt s c=(k:Int)):k < s.Covers.length∧∃ x,s.Covers[k]? = some x∧x.Bay=c.Bay:=by
 unfold Jt at h
 rcases G49 (fun x=>Gdd x c) s.Covers with ⟨h1,_⟩ | ⟨m,x,h1,h2,h3,_⟩
 ·rw [h1] at h; omega
 ·have:m=k:=by omega
  subst this
  have h3:Gdd x c=true:=h3
  unfold Gdd at h3
  rw [Bool.and_eq_true] at h3
  exact⟨(List.getElem?_eq_some_iff.1 h2).1,x,h2,of_decide_eq_true h3.1⟩
theorem J5c {c d:G4} (h0:0≤Jt s c) (h:Jt s c=Jt s d):c.Bay=d.Bay:=by
 obtain⟨k,hk⟩:∃ k:Nat,Jt s c=(k:Int):=⟨(Jt s c).toNat,by omega⟩
 obtain⟨_,x,hx,e1⟩:=Hfe hk
 obtain⟨_,y,hy,e2⟩:=Hfe (h ▸ hk)
 rw [hx] at hy; cases hy
 exact e1.symm.trans e2
theorem Q12 {l:List Stowed} {n:Int} {d:Bool} {x:Stowed}:x∈Z2 s l set n d ↔ x∈l∧Y3 s x=n∧(Zv s x.Slot).Deck=d∧x.Gd∈set:=by
 rw [Ga9,H39]
 rfl
theorem Hcc {n a:Int}:a∈G5c s before after set n ↔ J69 s before after set (·=n) a:=by
 rw [Ja3]
 unfold J69
 refine and_congr_right fun _=>⟨?_,?_⟩
 ·rintro⟨x,hx,hp,e⟩
  obtain⟨h1,h2,h3⟩:=H39.1 hp
  exact⟨x,hx,h3,h2,e,h1⟩
 ·rintro⟨x,hx,h3,h2,e,h1⟩
  exact⟨x,hx,H39.2 ⟨h1,h2,h3⟩,e⟩
theorem J5d {x y:Slot} (e:y.G4=x.G4):Zv s y=Zv s x:=by
 unfold Zv
 rw [e]
theorem col_in {x:Slot} (h:H64 s x):∃ m:Nat,x.G4=(m:Int)∧s.Columns[m]? = some (Zv s x):=by
 obtain⟨m,c,h1,h2⟩:=h
 exact⟨m,h1,by rw [Gf7 h1 h2]; exact h2⟩
theorem G12.col1 (h:G12 s boxes before after set) {x:Stowed} (hx:x∈before):∃ m:Nat,x.Slot.G4=(m:Int)∧s.Columns[m]? = some (Zv s x.Slot):=by
 obtain⟨b,_,h1,_⟩:=h.bef.each x hx
 exact col_in (Ga0 h1)
theorem G12.col2 (h:G12 s boxes before after set) {x:Stowed} (hx:x∈after):∃ m:Nat,x.Slot.G4=(m:Int)∧s.Columns[m]? = some (Zv s x.Slot):=by
 obtain⟨b,_,h1,_⟩:=h.aft.each x hx
 exact col_in (Ga0 h1)
theorem G12.bays (h:G12 s boxes before after set) {x:Stowed} (hx:x∈before∨x∈after):0≤Y3 s x∧Y3 s x < 40:=by
 have hc:∃ m:Nat,x.Slot.G4=(m:Int)∧s.Columns[m]? = some (Zv s x.Slot):=hx.elim h.col1 h.col2
 obtain⟨m,_,hc⟩:=hc
 obtain⟨c0,hh,hc0,_,e⟩:=h.ship.each _ (List.mem_of_getElem? hc)
 unfold Y3
 have:=hc0.bay
 rw [e]
 show 0≤c0.Bay∧c0.Bay < 40
 omega
theorem above_pre {D pre post:List Stowed} {x y:Stowed} (hD:D.Pairwise (Jbd J04)) (e:D=pre++x::post) (hy:y∈D) (ht:x.Slot.Tier < y.Slot.Tier):y∈pre:=by
 rw [e] at hy hD
 rcases List.mem_append.1 hy with hy | hy
 ·exact hy
 ·rcases List.mem_cons.1 hy with rfl | hy
  ·omega
  ·have:=(List.pairwise_cons.1 (List.pairwise_append.1 hD).2.1).1 y hy
   unfold Jbd J04 at this
   rw [G99] at this
   exact(this ht).elim
theorem below_pre {D pre post:List Stowed} {x y:Stowed} (hD:D.Pairwise (Jbd pcmp)) (e:D=pre++x::post) (hy:y∈D) (ht:y.Slot.Tier < x.Slot.Tier):y∈pre:=by
 rw [e] at hy hD
 rcases List.mem_append.1 hy with hy | hy
 ·exact hy
 ·rcases List.mem_cons.1 hy with rfl | hy
  ·omega
  ·have:=(List.pairwise_cons.1 (List.pairwise_append.1 hD).2.1).1 y hy
   unfold Jbd at this
   rw [Hef] at this
   exact(this (.inl ht)).elim
theorem J2d {l:List Stowed} (hs:l.Pairwise (fun a b=>a.Gd < b.Gd)) {n:Int} {d:Bool}:(Z2 s l set n d).Nodup:=by
 unfold Z2
 exact(Gdb _ _).nodup_iff.2 ((G40 hs).sublist List.filter_sublist)
theorem Ja1 {l:List Stowed} {n:Int} {d:Bool}:(Z2 s l set n d).Pairwise (Jbd pcmp):=Gf6 pcmp_order _
theorem out_bay (h:G12 s boxes before after set) (hO:Ys s o) (hF:20≤F) (hq0:q0.length≤20) (hd:∀ id∈q0,id ∉ before.map (·.Gd)) {n:Nat} (hI:OutI s boxes before set q0 (fun x=>Y3 s x < (n:Int)) l q) (hc:∀ a,a∈o ↔ J69 s before after set (· < (n:Int)) a) :
  ∃ l' o' q',Ga7 F s boxes (Hca s before after set (n:Int)) (l,o,q)=some (l',o',q')∧Ys s o'∧OutI s boxes before set q0 (fun x=>Y3 s x < ((n+1:Nat):Int)) l' q'∧∀ a,a∈o' ↔ J69 s before after set (· < ((n+1:Nat):Int)) a:=by
 have over_bay:∀ {d:Bool} {x y:Stowed},x∈before→y∈before→x.Gd∈set→Y3 s x=(n:Int)→(Zv s x.Slot).Deck=d→Gc1 y.Slot x.Slot→y∈Z2 s before set (n:Int) d:=fun {d x y} hx hy hm hb hdk ho=>Q12.2 ⟨hy,by unfold Y3 at hb ⊢; rw [J5d ho.1]; exact hb,by rw [J5d ho.1]; exact hdk,h.over hx hy hm ho⟩
 have mD:∀ {d:Bool} {x:Stowed},x∈Gce J04 (Z2 s before set (n:Int) d) ↔ x∈before∧Y3 s x=(n:Int)∧(Zv s x.Slot).Deck=d∧x.Gd∈set:=fun {d x}=>by rw [H36,Q12]
 have nD:∀ d:Bool,(Gce J04 (Z2 s before set (n:Int) d)).Nodup:=fun d=>(Gdb _ _).nodup_iff.2 (J2d h.bef.sorted)
 -- the deck
 obtain⟨l1,q1,r1,i1⟩:=outs_list (F:=F) h hO hq0 hd hI (Gce J04 (Z2 s before set (n:Int) true)) (nD true) (fun x hx=>by
  obtain⟨a,b,c,d⟩:=mD.1 hx
  exact⟨a,d,by show ¬ Y3 s x < (n:Int); omega⟩) (fun pre x post e y hy hys ho=>by
  obtain⟨a,b,c,d⟩:=mD.1 (show x∈Gce J04 (Z2 s before set (n:Int) true) by rw [e]; simp)
  exact .inr (above_pre (Gf6 Q27 _) e (H36.2 (over_bay a hy d b c ho)) ho.2.1)) (fun x hx=>by
  obtain⟨a,b,c,d⟩:=mD.1 hx
  rintro⟨m,c',e1,e2,e3,_⟩
  rw [Gf7 e1 e2,e3] at c
  cases c)
 -- the covers
 obtain⟨o2,r2,hO2,hm2⟩:=opens_list (F:=F) (q:=q1) i1.way.sta hO hF (G5c s before after set (n:Int)) J11 (fun k hk=>by
  obtain⟨k0,x,hx,hxs,hxd,hxc,hxb⟩:=Hcc.1 hk
  obtain⟨j,rfl⟩:∃ j:Nat,k=(j:Int):=⟨k.toNat,by omega⟩
  obtain⟨m,em,ec⟩:∃ m:Nat,x.Slot.G4=(m:Int)∧s.Columns[m]? = some (Zv s x.Slot):=hx.elim h.col1 h.col2
  have hcv:Jt s (Zv s x.Slot)=(j:Int):=hxc
  obtain⟨hjl,cv,hcv1,hcv2⟩:=Hfe hcv
  refine⟨j,rfl,hjl,fun y hy m1 c1 e1 e2 e3 e4=>?_,fun hin=>?_⟩
  ·have hyb:=i1.way.sub y hy
   have hys:=h.upon hx (.inl hyb) hxs ⟨m,_,m1,c1,em,ec,e1,e2,hxd,e3,by omega,by omega⟩
   have hyc:=Gf7 e1 e2
   refine(i1.gone y hyb hys).1 hy (.inr (mD.2 ⟨hyb,?_,by rw [hyc]; exact e3,hys⟩))
   unfold Y3 at hxb ⊢
   rw [hyc,← hxb]
   exact(J5c (s:=s) (c:=Zv s x.Slot) (d:=c1) (by omega) (by omega)).symm
  ·obtain⟨_,y,_,_,_,hyc,hyb⟩:=(hc _).1 hin
   have hyc:Jt s (Zv s y.Slot)=(j:Int):=hyc
   have:=J5c (s:=s) (c:=Zv s x.Slot) (d:=Zv s y.Slot) (by omega) (by omega)
   unfold Y3 at hxb hyb
   omega)
 -- the hold
 obtain⟨l3,q3,r3,i3⟩:=outs_list (F:=F) h hO2 hq0 hd i1 (Gce J04 (Z2 s before set (n:Int) false)) (nD false) (fun x hx=>by
  obtain⟨a,b,c,d⟩:=mD.1 hx
  refine⟨a,d,fun hh=>hh.elim (fun h=>by have h:Y3 s x < (n:Int):=h; omega) (fun h=>?_)⟩
  rw [(mD.1 h).2.2.1] at c
  cases c) (fun pre x post e y hy hys ho=>by
  obtain⟨a,b,c,d⟩:=mD.1 (show x∈Gce J04 (Z2 s before set (n:Int) false) by rw [e]; simp)
  exact .inr (above_pre (Gf6 Q27 _) e (H36.2 (over_bay a hy d b c ho)) ho.2.1)) (fun x hx=>by
  obtain⟨a,b,c,d⟩:=mD.1 hx
  rintro⟨m,c',e1,e2,e3,e4,e5⟩
  exact e5 ((hm2 _).2 (.inr (Hcc.2 ⟨e4,x,.inl a,d,c,by unfold Gbe; rw [Gf7 e1 e2],b⟩))))
 refine⟨l3,o2,q3,?_,hO2,i3.congr (fun x hx hxs=>?_),fun a=>?_⟩
 ·unfold Hca
  exact G1a _ _ _ _ _ (G1a _ _ _ _ _ r1 r2) r3
 ·rw [mD,mD]
  constructor
  ·rintro((h | h) | h)
   ·omega
   ·omega
   ·omega
  ·intro hh
   by_cases hb:Y3 s x < (n:Int)
   ·exact .inl (.inl hb)
   ·cases hdx:(Zv s x.Slot).Deck with
    | true=>exact .inl (.inr ⟨hx,by omega,rfl,hxs⟩)
    | false=>exact .inr ⟨hx,by omega,rfl,hxs⟩
 ·rw [hm2,hc,Hcc]
  constructor
  ·rintro(⟨a0,x,h1,h2,h3,h4,h5⟩ | ⟨a0,x,h1,h2,h3,h4,h5⟩)
   ·exact⟨a0,x,h1,h2,h3,h4,by omega⟩
   ·exact⟨a0,x,h1,h2,h3,h4,by omega⟩
  ·rintro⟨a0,x,h1,h2,h3,h4,h5⟩
   by_cases hb:Y3 s x < (n:Int)
   ·exact .inl ⟨a0,x,h1,h2,h3,h4,hb⟩
   ·exact .inr ⟨a0,x,h1,h2,h3,h4,by omega⟩
theorem in_bay (h:G12 s boxes before after set) (hO:Ys s o) (hF:20≤F) {Q0:Int→Prop} (hQ:∀ x∈after,x.Gd∈set→Q0 x.Gd) {n:Nat} (hI:InI s boxes after set Q0 (fun x=>Y3 s x < (n:Int)) l q) (hc:∀ a,a∈o ↔ J69 s before after set ((n:Int)≤·) a) :
  ∃ l' o' q',Ga7 F s boxes (Jab s before after set (n:Int)) (l,o,q)=some (l',o',q')∧Ys s o'∧InI s boxes after set Q0 (fun x=>Y3 s x < ((n+1:Nat):Int)) l' q'∧∀ a,a∈o' ↔ J69 s before after set (((n+1:Nat):Int)≤·) a:=by
 have mD:∀ {d:Bool} {x:Stowed},x∈Z2 s after set (n:Int) d ↔ x∈after∧Y3 s x=(n:Int)∧(Zv s x.Slot).Deck=d∧x.Gd∈set:=Q12
 have same_bay:∀ {d:Bool} {x z:Stowed},x∈Z2 s after set (n:Int) d→z∈after→z.Gd∈set→z.Slot.G4=x.Slot.G4→z∈Z2 s after set (n:Int) d:=fun {d x z} hx hz hzs e=>by
  obtain⟨a,b,c,d'⟩:=mD.1 hx
  exact mD.2 ⟨hz,by unfold Y3 at b ⊢; rw [J5d e]; exact b,by rw [J5d e]; exact c,hzs⟩
 -- the hold
 obtain⟨l1,q1,r1,i1⟩:=ins_list (F:=F) h hO hF hQ hI (Z2 s after set (n:Int) false) (J2d h.aft.sorted) (fun x hx=>by
  obtain⟨a,b,c,d⟩:=mD.1 hx
  exact⟨a,d,by show ¬ Y3 s x < (n:Int); omega⟩) (fun pre x post e z hz hzs hzc hzt=>.inr (below_pre Ja1 e (same_bay (by rw [e]; simp) hz hzs hzc) hzt)) (fun x hx=>by
  obtain⟨a,b,c,d⟩:=mD.1 hx
  rintro⟨m,c',e1,e2,e3,e4⟩
  have hcc:=Gf7 e1 e2
  have hin:Jt s c'∈o:=(hc _).2 ⟨e3,x,.inr a,d,c,by unfold Gbe; rw [hcc],by show (n:Int)≤Y3 s x; omega⟩
  rw [hcc,e4.2 hin] at c
  cases c)
 -- the covers
 obtain⟨o2,r2,hO2,hm2⟩:=closes_list (F:=F) (q:=q1) i1.way.sta hO hF (G5c s before after set (n:Int)) J11 (fun k hk=>by
  obtain⟨k0,x,hx,hxs,hxd,hxc,hxb⟩:=Hcc.1 hk
  obtain⟨j,rfl⟩:∃ j:Nat,k=(j:Int):=⟨k.toNat,by omega⟩
  have hcv:Jt s (Zv s x.Slot)=(j:Int):=hxc
  exact⟨j,rfl,(Hfe hcv).1,(hc _).2 ⟨k0,x,hx,hxs,hxd,hxc,by show (n:Int)≤Y3 s x; omega⟩⟩)
 have hm3:∀ a,a∈o2 ↔ J69 s before after set (((n+1:Nat):Int)≤·) a:=fun a=>by
  rw [hm2,hc,Hcc]
  constructor
  ·rintro⟨⟨a0,x,h1,h2,h3,h4,h5⟩,hn⟩
   have h5:(n:Int)≤Y3 s x:=h5
   refine⟨a0,x,h1,h2,h3,h4,?_⟩
   show ((n+1:Nat):Int)≤Y3 s x
   have:Y3 s x≠(n:Int):=fun e=>hn ⟨a0,x,h1,h2,h3,h4,e⟩
   omega
  ·rintro⟨a0,x,h1,h2,h3,h4,h5⟩
   have h5:((n+1:Nat):Int)≤Y3 s x:=h5
   refine⟨⟨a0,x,h1,h2,h3,h4,by show (n:Int)≤Y3 s x; omega⟩,fun⟨_,y,_,_,_,hyc,hyb⟩=>?_⟩
   have hyb:Y3 s y=(n:Int):=hyb
   unfold Gbe at h4 hyc
   have:=J5c (s:=s) (c:=Zv s x.Slot) (d:=Zv s y.Slot) (by omega) (by omega)
   unfold Y3 at h5 hyb
   omega
 -- the deck
 obtain⟨l3,q3,r3,i3⟩:=ins_list (F:=F) h hO2 hF hQ i1 (Z2 s after set (n:Int) true) (J2d h.aft.sorted) (fun x hx=>by
  obtain⟨a,b,c,d⟩:=mD.1 hx
  refine⟨a,d,fun hh=>hh.elim (fun h=>by have h:Y3 s x < (n:Int):=h; omega) (fun h=>?_)⟩
  rw [(mD.1 h).2.2.1] at c
  cases c) (fun pre x post e z hz hzs hzc hzt=>.inr (below_pre Ja1 e (same_bay (by rw [e]; simp) hz hzs hzc) hzt)) (fun x hx=>by
  obtain⟨a,b,c,d⟩:=mD.1 hx
  rintro⟨m,c',e1,e2,e3,e4⟩
  have hcc:=Gf7 e1 e2
  rw [hcc] at c
  obtain⟨_,y,_,_,_,hyc,hyb⟩:=(hm3 _).1 (e4.1 c)
  have hyb:((n+1:Nat):Int)≤Y3 s y:=hyb
  unfold Gbe at hyc
  have:=J5c (s:=s) (c:=c') (d:=Zv s y.Slot) e3 hyc.symm
  unfold Y3 at b hyb
  rw [hcc] at b
  omega)
 refine⟨l3,o2,q3,?_,hO2,i3.congr (fun x hx hxs=>?_),hm3⟩
 ·unfold Jab
  exact G1a _ _ _ _ _ (G1a _ _ _ _ _ r1 r2) r3
 ·rw [mD,mD]
  constructor
  ·rintro((h | h) | h)
   ·omega
   ·omega
   ·omega
  ·intro hh
   by_cases hb:Y3 s x < (n:Int)
   ·exact .inl (.inl hb)
   ·cases hdx:(Zv s x.Slot).Deck with
    | true=>exact .inr ⟨hx,by omega,rfl,hxs⟩
    | false=>exact .inl (.inr ⟨hx,by omega,rfl,hxs⟩)
theorem play_call (h:G12 s boxes before after set) (hF:20≤F) (hq0:q0.length≤20) (hqn:q0.Nodup) (hd:∀ id∈q0,id ∉ before.map (·.Gd)) (hld:∀ x∈after,x.Gd ∉ before.map (·.Gd)→x.Gd∈q0) :
  ∃ q',Ga7 F s boxes (J15 s before after set) (before,[],q0)=some (after,[],q')∧q'.Nodup∧∀ id,id∈q' ↔ (id∈q0∨∃ x∈before,x.Gd=id∧x.Gd∈set)∧¬ ∃ x∈after,x.Gd=id∧x.Gd∈set:=by
 have hlb:=h.lb
 have outN:∀ n:Nat,∃ l' o' q',Ga7 F s boxes (outs s before after set n) (before,[],q0)=some (l',o',q')∧Ys s o'∧OutI s boxes before set q0 (fun x=>Y3 s x < (n:Int)) l' q'∧∀ a,a∈o' ↔ J69 s before after set (· < (n:Int)) a:=by
  intro n
  induction n with
  | zero=>
   refine⟨before,[],q0,rfl,openR_nil,⟨h.start,fun x hx hm=>⟨fun _ hh=>?_,fun _=>hx⟩,hqn,fun id=>⟨.inl,fun hh=>hh.elim _root_.id fun⟨x,hx,_,_,hG⟩=>?_⟩,by omega⟩,fun a=>⟨fun hh=>(List.not_mem_nil hh).elim,fun⟨_,x,hx,_,_,_,hG⟩=>?_⟩⟩
   ·have hh:Y3 s x < 0:=hh
    have:=(h.bays (.inl hx)).1; omega
   ·have hG:Y3 s x < 0:=hG
    have:=(h.bays (.inl hx)).1; omega
   ·have hG:Y3 s x < 0:=hG
    have:=(h.bays hx).1; omega
  | succ n ih=>
   obtain⟨l1,o1,q1,r1,hO1,i1,c1⟩:=ih
   obtain⟨l2,o2,q2,r2,hO2,i2,c2⟩:=out_bay (F:=F) h hO1 hF hq0 hd i1 c1
   exact⟨l2,o2,q2,by rw [J78]; exact G1a _ _ _ _ _ r1 r2,hO2,i2,c2⟩
 obtain⟨l1,o1,q1,r1,hO1,i1,c1⟩:=outN 40
 have hgone:∀ x∈l1,x.Gd ∉ set:=fun x hx hm=>(i1.gone x (i1.way.sub x hx) hm).1 hx (h.bays (.inl (i1.way.sub x hx))).2
 have hmem1:∀ id,id∈q1 ↔ id∈q0∨∃ x∈before,x.Gd=id∧x.Gd∈set:=fun id=>by
  rw [i1.mem]
  refine or_congr_right ⟨fun⟨x,hx,e,hm,_⟩=>⟨x,hx,e,hm⟩,fun⟨x,hx,e,hm⟩=>⟨x,hx,e,hm,(h.bays (.inl hx)).2⟩⟩
 have hql:=i1.len
 have inN:∀ n:Nat,∃ l' o' q',Ga7 F s boxes (ins s before after set n) (l1,o1,q1)=some (l',o',q')∧Ys s o'∧InI s boxes after set (·∈q1) (fun x=>Y3 s x < (n:Int)) l' q'∧∀ a,a∈o' ↔ J69 s before after set ((n:Int)≤·) a:=by
  intro n
  induction n with
  | zero=>
   have none:∀ x∈after,¬ Y3 s x < ((0:Nat):Int):=fun x hx=>by have:=(h.bays (.inr hx)).1; omega
   refine⟨l1,o1,q1,rfl,hO1,⟨i1.way.turn h hgone,fun x hx hm=>⟨fun hh=>(hgone x hh hm).elim,fun hh=>(none x hx hh).elim⟩,i1.nod,fun id=>⟨fun hh=>⟨hh,fun⟨x,hx,_,_,hG⟩=>none x hx hG⟩,fun hh=>hh.1⟩,by omega⟩,fun a=>?_⟩
   rw [c1]
   constructor
   ·rintro⟨a0,x,h1,h2,h3,h4,_⟩
    exact⟨a0,x,h1,h2,h3,h4,(h.bays h1).1⟩
   ·rintro⟨a0,x,h1,h2,h3,h4,_⟩
    exact⟨a0,x,h1,h2,h3,h4,(h.bays h1).2⟩
  | succ n ih=>
   obtain⟨l2,o2,q2,r2,hO2,i2,c2⟩:=ih
   obtain⟨l3,o3,q3,r3,hO3,i3,c3⟩:=in_bay (F:=F) h hO2 hF (fun x hx hm=>by
    by_cases hb:x.Gd∈before.map (·.Gd)
    ·obtain⟨y,hy,e⟩:=List.mem_map.1 hb
     exact(hmem1 _).2 (.inr ⟨y,hy,e,by rw [show y.Gd=x.Gd from e]; exact hm⟩)
    ·exact(hmem1 _).2 (.inl (hld x hx hb))) i2 c2
   exact⟨l3,o3,q3,by rw [Q17]; exact G1a _ _ _ _ _ r2 r3,hO3,i3,c3⟩
 obtain⟨l2,o2,q2,r2,hO2,i2,c2⟩:=inN 40
 have hl:l2=after:=i2.way.done h (fun x hx hm=>(i2.come x hx hm).2 (h.bays (.inr hx)).2)
 have ho:o2=[]:=List.eq_nil_iff_forall_not_mem.2 fun a ha=>by
  obtain⟨_,x,hx,_,_,_,hb⟩:=(c2 a).1 ha
  have hb:((40:Nat):Int)≤Y3 s x:=hb
  have:=(h.bays hx).2
  omega
 subst hl ho
 refine⟨q2,?_,i2.nod,fun id=>?_⟩
 ·unfold J15
  exact G1a _ _ _ _ _ r1 r2
 ·rw [i2.mem,hmem1]
  refine and_congr_right fun _=>not_congr ⟨fun⟨x,hx,e,hm,_⟩=>⟨x,hx,e,hm⟩,fun⟨x,hx,e,hm⟩=>⟨x,hx,e,hm,(h.bays (.inr hx)).2⟩⟩
end
end Go.Proofs.YtknalejjpofoaaaGreat
