/-
 One move at a time: what a step does,and what lists of moves do.
-/
import Derived.Test.YtknalejjpofoaaaGreatShutT
import Derived.Test.YtknalejjpofoaaaGreatMovA
set_option maxRecDepth 100000
set_option linter.unusedVariables false
namespace Go.Proofs.YtknalejjpofoaaaGreat
open Go.RowKit

theorem scmp_lt (a b:Slot):scmp a b < 0 ↔ a.G4 < b.G4∨(a.G4=b.G4∧(a.Tier < b.Tier∨(a.Tier=b.Tier∧a.Half < b.Half))):=by
 unfold scmp
 rw [J2e,J2e,J2e,G99,H20,G99,H20,G99,H20]
 simp [orI]
theorem Hef (a b:Stowed):pcmp a b < 0 ↔ a.Slot.Tier < b.Slot.Tier∨(a.Slot.Tier=b.Slot.Tier∧(a.Slot.G4 < b.Slot.G4∨(a.Slot.G4=b.Slot.G4∧a.Slot.Half < b.Slot.Half))):=by
 unfold pcmp
 rw [J2e,J2e,G99,H20,scmp_lt]
 simp only [orI,Int.lt_irrefl,and_false,or_false]
 omega
theorem pcmp_order:Ordc pcmp where
 asym x y:=by rw [Hef,Hef]; omega
 ntrans x y z:=by rw [Hef,Hef,Hef]; omega
theorem Q27:Ordc J04 where
 asym x y:=by unfold J04; rw [G99,G99]; omega
 ntrans x y z:=by unfold J04; rw [G99,G99,G99]; omega
theorem wp_yesM {α β:Type} {Q:β→Prop} {c:Bool} {m:Option α} {d:α} {k:α→Option β} (hc:c=true) (h:Wp (bnd m k) Q):Wp (bnd (bif c then m else some d) k) Q:=by
 subst hc
 exact h
abbrev St3:=List Stowed×List Int×List Int
def Ga7 (F:Nat) (s:Gw) (boxes:List Gd):List Move→St3→Option St3
 | [],st=>some st
 | m::r,st=>bnd (Ja F s boxes st.1 st.2.1 st.2.2 m) fun r4=>bif (!r4.2.2.2) then none else Ga7 F s boxes r (r4.1,r4.2.1,r4.2.2.1)
theorem G1a {F:Nat} {s:Gw} {boxes:List Gd}:∀ (a b:List Move) (st st1 st2:St3),Ga7 F s boxes a st=some st1→Ga7 F s boxes b st1=some st2→Ga7 F s boxes (a++b) st=some st2
 | [],b,st,st1,st2,h1,h2=>by
  cases h1
  exact h2
 | m::r,b,st,st1,st2,h1,h2=>by
  rw [Ga7] at h1
  obtain⟨r4,e,h1⟩:=Ge h1
  rw [List.cons_append,Ga7,e]
  show (bif (!r4.2.2.2) then none else _)=_
  cases hb:!r4.2.2.2 with
  | true=>rw [hb] at h1; cases h1
  | false=>
   rw [hb] at h1
   exact G1a r b _ st1 st2 h1 h2
theorem Q96 {F:Nat} {s:Gw} {boxes:List Gd} {kx:St3→Option Bool}:∀ (ms:List Move) (i:Nat) (st st':St3),Ga7 F s boxes ms st=some st' →
  each (fun y101 i101 (s101:(List Stowed)×(List Int)×(List Int)) nx101=>
   bnd (Ja F s boxes s101.1 s101.2.1 s101.2.2 y101) fun r108=>
   bif (!r108.2.2.2) then (some false) else (nx101 (r108.1,r108.2.1,r108.2.2.1))) kx ms i st=kx st'
 | [],i,st,st',h=>by cases h; rfl
 | m::r,i,st,st',h=>by
  rw [Ga7] at h
  obtain⟨r4,e,h⟩:=Ge h
  rw [each,e]
  show (bif (!r4.2.2.2) then some false else _)=_
  cases hb:!r4.2.2.2 with
  | true=>rw [hb] at h; cases h
  | false=>
   rw [hb] at h
   exact Q96 r (i+1) _ st' h
theorem J4a {F:Nat} {s:Gw} {boxes:List Gd} {α:Type} {f:α→Move} (I:List α→St3→Prop) {xs:List α} {st:St3} (h0:I [] st)
  (hs:∀ pre x post st,xs=pre++x::post→I pre st→∃ st',Ja F s boxes st.1 st.2.1 st.2.2 (f x)=some (st'.1,st'.2.1,st'.2.2,true)∧I (pre++[x]) st'):∃ st',Ga7 F s boxes (xs.map f) st=some st'∧I xs st':=by
 have key:∀ (post pre:List α) (st:St3),xs=pre++post→I pre st→∃ st',Ga7 F s boxes (post.map f) st=some st'∧I xs st':=by
  intro post
  induction post with
  | nil=>intro pre st e hi; rw [List.append_nil] at e; subst e; exact⟨st,rfl,hi⟩
  | cons x post ih=>
   intro pre st e hi
   obtain⟨st1,e1,h1⟩:=hs pre x post st e hi
   obtain⟨st2,e2,h2⟩:=ih (pre++[x]) st1 (by rw [e]; simp) h1
   exact⟨st2,by rw [List.map_cons,Ga7,e1]; exact e2,h2⟩
 exact key xs [] st rfl h0
section
variable {F:Nat} {s:Gw} {boxes:List Gd} {l before after:List Stowed} {o q set:List Int}
theorem step_open (h:Jd1 s boxes l) (hO:Ys s o) (hF:20≤F) {k:Nat} (hk:k < s.Covers.length) (hu:Q29 s l (k:Int)) (hn:(k:Int) ∉ o) :
  ∃ o',Ja F s boxes l o q (mvC 1 (k:Int))=some (l,o',q,true)∧Ys s o'∧∀ a,a∈o' ↔ a∈o∨a=(k:Int):=by
 obtain⟨r,e,hr⟩:=open_spec (F:=F) h hO hF hk
 rcases hr with ⟨hno,_⟩ | ⟨_,hr0,hro,hrm⟩
 ·exact(hno hu).elim
 have hol:=hO.len
 have hcl:=h.ship.covs.len
 have hlen:r.1.length=o.length+1:=by
  have hnd:((k:Int)::o).Nodup:=List.nodup_cons.2 ⟨hn,Z4 hO.sorted⟩
  have hp:r.1.Perm ((k:Int)::o):=(List.perm_ext_iff_of_nodup (Z4 hro.sorted) hnd).2 fun a=>by
   rw [hrm,List.mem_cons]
   exact Or.comm
  have:=hp.length_eq
  simpa using this
 refine⟨r.1,Yq ?_,hro,hrm⟩
 unfold Ja
 refine H7 (fun _=>?_) (fun h=>absurd h (by show ¬ decide ((1:Int)=1)=false; decide))
 refine Gu e ?_
 rw [decide_eq_true hr0]
 refine wp_yesM rfl (H4 (Qb ⟨by omega,by omega⟩ (Gn (Gn ?_))))
 rw [decide_eq_true (show (r.1.length:Int)=(o.length:Int)+1 by omega)]
 rfl
theorem step_close (h:Jd1 s boxes l) (hO:Ys s o) (hF:20≤F) {k:Nat} (hk:k < s.Covers.length) (hin:(k:Int)∈o) :
  Ja F s boxes l o q (mvC 4 (k:Int))=some (l,H0b o (k:Int),q,true):=by
 have hol:=hO.len
 have hcl:=h.ship.covs.len
 have hlen:(H0b o (k:Int)).length+1=o.length:=by
  have hnd:((k:Int)::H0b o (k:Int)).Nodup:=List.nodup_cons.2 ⟨fun hm=>(J7a.1 hm).2 rfl,(Z4 hO.sorted).sublist List.filter_sublist⟩
  have hp:o.Perm ((k:Int)::H0b o (k:Int)):=(List.perm_ext_iff_of_nodup (Z4 hO.sorted) hnd).2 fun a=>by
   rw [List.mem_cons,J7a]
   constructor
   ·intro ha
    by_cases e:a=(k:Int)
    ·exact .inl e
    ·exact .inr ⟨ha,e⟩
   ·rintro(rfl | ⟨ha,_⟩)
    ·exact hin
    ·exact ha
  have:=hp.length_eq
  simp only [List.length_cons] at this
  omega
 refine Yq ?_
 unfold Ja
 refine H7 (fun h=>absurd h (by show ¬ decide ((4:Int)=1)=true; decide)) (fun _=>H7 (fun _=>?_) (fun h=>absurd h (by show ¬ decide ((4:Int)=4)=false; decide)))
 refine Gu (close_eq h hO hF hk) ?_
 refine H4 (Qb ⟨by omega,by omega⟩ (Gn (Gn ?_)))
 have:decide (((H0b o (k:Int)).length:Int)=(o.length:Int) - 1)=true:=decide_eq_true (by omega)
 show (l,H0b o (k:Int),q,(true&&decide (((H0b o (k:Int)).length:Int)=(o.length:Int) - 1)))=_
 rw [this]
 rfl
theorem step_out (h:Jd1 s boxes l) (hO:Ys s o) (hq:q.length≤100) {x:Stowed} (hx:x∈l) (ho:H0c l x.Slot=[]) (hs:¬ Hdc s o x.Slot) :
  ∃ pre post,l=pre++x::post∧Ja F s boxes l o q (mvS 2 x)=some (pre++post,o,q++[x.Gd],true):=by
 obtain⟨v,hv,hc⟩:=free_spec h hO hx
 obtain⟨r,e,h1,h2⟩:=take_spec h hx hv
 have hv0:v=0:=by
  rcases hc with ⟨_,hh⟩ | ⟨_,_,hh⟩ | ⟨e,_⟩
  ·exact(hh ho).elim
  ·exact(hs hh).elim
  ·exact e
 obtain⟨pre,post,e1,e2⟩:=h2 hv0
 refine⟨pre,post,e1,Yq ?_⟩
 unfold Ja
 refine H7 (fun h=>absurd h (by show ¬ decide ((2:Int)=1)=true; decide)) (fun _=>H7 (fun h=>absurd h (by show ¬ decide ((2:Int)=4)=true; decide)) (fun _=>H7 (fun _=>?_) (fun h=>absurd h (by show ¬ decide ((2:Int)=2)=false; decide))))
 refine J8 (fun pr b=>b=true ↔ x∈pr) ⟨fun h=>Bool.noConfusion h,fun h=>(List.not_mem_nil h).elim⟩ (fun pr y po b nx e3 hJ hnx=>hnx _ ?_) (fun b hJ=>?_)
 ·rw [Bool.or_eq_true,hJ,decide_eq_true_eq,List.mem_append,List.mem_singleton]
  exact⟨fun h=>h.imp _root_.id (fun h=>h.symm),fun h=>h.imp _root_.id (fun h=>h.symm)⟩
 ·have hb:b=true:=hJ.2 hx
  subst hb
  refine Gu e ?_
  simp only [List.nil_append]
  refine Q8 (J2b (by simp only [List.length_nil]; omega)) (Q8 (J2b (by rw [List.length_singleton]; omega)) (Gn ?_))
  rw [e2,decide_eq_true (h1.trans hv0)]
  rfl
theorem step_in (h:G12 s boxes before after set) (h2:Way2 s boxes after set l) (hO:Ys s o) (hF:20≤F) (hq:q.length≤100) (hqn:q.Nodup) {x:Stowed} (hx:x∈after) (hn:x ∉ l) (hns:¬ Hb2 s o x.Slot)
  (hbel:∀ z∈after,z.Slot.G4=x.Slot.G4→z.Slot.Tier < x.Slot.Tier→z∈l) (hqx:x.Gd∈q) :
  ∃ l',Ja F s boxes l o q (mvS 3 x)=some (l',o,q.filter (fun a=>!decide (a=x.Gd)),true)∧He6 l x l'∧Way2 s boxes after set l':=by
 obtain⟨r,e,r0,hins,hr2⟩:=h2.put (F:=F) h hO hF hx hn hns hbel
 have hlen:(q.filter (fun a=>!decide (a=x.Gd))).length+1=q.length:=by
  have hnd:(x.Gd::q.filter (fun a=>!decide (a=x.Gd))).Nodup:=List.nodup_cons.2 ⟨fun hm=>by
   have:=(List.mem_filter.1 hm).2
   simp at this,hqn.sublist List.filter_sublist⟩
  have hp:q.Perm (x.Gd::q.filter (fun a=>!decide (a=x.Gd))):=(List.perm_ext_iff_of_nodup hqn hnd).2 fun a=>by
   rw [List.mem_cons,List.mem_filter]
   constructor
   ·intro ha
    by_cases e:a=x.Gd
    ·exact .inl e
    ·exact .inr ⟨ha,by simpa using e⟩
   ·rintro(rfl | ⟨ha,_⟩)
    ·exact hqx
    ·exact ha
  have:=hp.length_eq
  simp only [List.length_cons] at this
  omega
 refine⟨r.1,Yq ?_,hins,hr2⟩
 unfold Ja
 refine H7 (fun h=>absurd h (by show ¬ decide ((3:Int)=1)=true; decide)) (fun _=>H7 (fun h=>absurd h (by show ¬ decide ((3:Int)=4)=true; decide)) (fun _=>H7 (fun h=>absurd h (by show ¬ decide ((3:Int)=2)=true; decide)) (fun _=>H7 (fun _=>?_) (fun h=>absurd h (by show ¬ decide ((3:Int)=3)=false; decide)))))
 refine J8 (fun pr t=>t=pr.filter (fun a=>!decide (a=x.Gd))) rfl (fun pr y po t nx e3 hJ hnx=>?_) (fun t hJ=>?_)
 ·have hpl:pr.length < q.length:=by rw [e3]; simp
  have htl:t.length≤pr.length:=by rw [hJ]; exact List.length_filter_le _ _
  refine wp_jpI (fun t=>t=(pr++[y]).filter (fun a=>!decide (a=x.Gd))) (fun j hj=>hnx _ hj) (fun K hK=>H7 (fun hh=>Q8 (J2b (by rw [List.length_singleton]; omega)) (hK _ ?_)) (fun hh=>hK _ ?_))
  ·have hh:y≠x.Gd:=of_decide_eq_true hh
   rw [List.filter_append,hJ,List.filter_cons,if_pos (by simpa using hh)]
   rfl
  ·have hh:¬ y≠x.Gd:=of_decide_eq_false hh
   rw [List.filter_append,hJ,List.filter_cons,if_neg (by simpa using hh),List.filter_nil,List.append_nil]
 ·rw [hJ]
  refine Gu e ?_
  rw [decide_eq_true r0]
  refine H4 (Qb ⟨by omega,by omega⟩ (Gn (Gn ?_)))
  rw [decide_eq_true (show ((q.filter (fun a=>!decide (a=x.Gd))).length:Int)=(q.length:Int) - 1 by omega)]
  rfl
structure OutI (s:Gw) (boxes:List Gd) (before:List Stowed) (set q0:List Int) (G:Stowed→Prop) (l:List Stowed) (q:List Int):Prop where
 way:Way1 s boxes before set l
 gone:∀ x∈before,x.Gd∈set→(x∈l ↔ ¬ G x)
 nod:q.Nodup
 mem:∀ id,id∈q ↔ id∈q0∨∃ x∈before,x.Gd=id∧x.Gd∈set∧G x
 len:q.length≤q0.length+before.length
theorem OutI.congr {q0:List Int} {G G':Stowed→Prop} (h:OutI s boxes before set q0 G l q) (hg:∀ x∈before,x.Gd∈set→(G x ↔ G' x)):OutI s boxes before set q0 G' l q:=
 ⟨h.way,fun x hx hm=>by rw [h.gone x hx hm,hg x hx hm],h.nod,fun id=>by
  rw [h.mem]
  constructor
  ·rintro(h | ⟨x,hx,e,hm,hG⟩)
   ·exact .inl h
   ·exact .inr ⟨x,hx,e,hm,(hg x hx hm).1 hG⟩
  ·rintro(h | ⟨x,hx,e,hm,hG⟩)
   ·exact .inl h
   ·exact .inr ⟨x,hx,e,hm,(hg x hx hm).2 hG⟩,h.len⟩
theorem outs_list (h:G12 s boxes before after set) (hO:Ys s o) {q0:List Int} (hq0:q0.length≤20) (hd:∀ id∈q0,id ∉ before.map (·.Gd)) {G:Stowed→Prop} (hI:OutI s boxes before set q0 G l q) (xs:List Stowed) (hnd:xs.Nodup)
  (hb:∀ x∈xs,x∈before∧x.Gd∈set∧¬ G x) (hord:∀ pre x post,xs=pre++x::post→∀ y∈before,y.Gd∈set→Gc1 y.Slot x.Slot→G y∨y∈pre) (hs:∀ x∈xs,¬ Hdc s o x.Slot) :
  ∃ l' q',Ga7 F s boxes (xs.map (mvS 2)) (l,o,q)=some (l',o,q')∧OutI s boxes before set q0 (fun x=>G x∨x∈xs) l' q':=by
 have hlb:=h.lb
 refine Exists.elim (J4a (F:=F) (s:=s) (boxes:=boxes) (f:=mvS 2) (fun pre st=>st.2.1=o∧OutI s boxes before set q0 (fun x=>G x∨x∈pre) st.1 st.2.2) (xs:=xs) (st:=(l,o,q)) ⟨rfl,hI.congr (fun x _ _=>by simp)⟩ (fun pre x post st e hJ=>?_)) (fun st' hst'=>?_)
 rotate_left
 ·obtain⟨e,e2,hr⟩:=hst'
  refine⟨st'.1,st'.2.2,?_,hr⟩
  rw [e,← e2]
 ·obtain⟨j1,j2⟩:=hJ
  have hx:x∈xs:=by rw [e]; simp
  obtain⟨b1,b2,b3⟩:=hb x hx
  have hxp:x ∉ pre:=fun hm=>by
   rw [e,List.nodup_append] at hnd
   exact hnd.2.2 x hm x (by simp) rfl
  have hxl:x∈st.1:=(j2.gone x b1 b2).2 fun hh=>hh.elim b3 hxp
  have ho:H0c st.1 x.Slot=[]:=List.eq_nil_iff_forall_not_mem.2 fun b hb=>by
   obtain⟨y,hy,_,hov⟩:=Hf5.1 hb
   have hyb:=j2.way.sub y hy
   have hys:=h.over b1 hyb b2 hov
   exact(j2.gone y hyb hys).1 hy (hord pre x post e y hyb hys hov)
  have hql:=j2.len
  obtain⟨p1,p2,ep,es⟩:=step_out (F:=F) j2.way.sta hO (q:=st.2.2) (by omega) hxl ho (hs x hx)
  rw [j1,es]
  refine⟨(p1++p2,o,st.2.2++[x.Gd]),rfl,rfl,?_⟩
  have hxq:x.Gd ∉ st.2.2:=fun hm=>by
   rcases (j2.mem x.Gd).1 hm with hm | ⟨y,hy,ey,hys,hG⟩
   ·exact hd _ hm (List.mem_map.2 ⟨x,b1,rfl⟩)
   ·have:=Haa h.bef.sorted hy b1 ey
    subst this
    exact hG.elim b3 hxp
  have hmem:∀ y,y∈st.1 ↔ y=x∨y∈p1++p2:=fun y=>by
   rw [ep]
   simp only [List.mem_append,List.mem_cons]
   constructor
   ·rintro(h | h | h)
    ·exact .inr (.inl h)
    ·exact .inl h
    ·exact .inr (.inr h)
   ·rintro(h | h | h)
    ·exact .inr (.inl h)
    ·exact .inl h
    ·exact .inr (.inr h)
  have hxn:x ∉ p1++p2:=fun hm=>by
   have hn:=G40 j2.way.sta.right.sorted
   rw [ep] at hn
   have:=(List.nodup_cons.1 (List.perm_middle.nodup_iff.1 hn)).1
   exact this hm
  refine⟨j2.way.take ep b2 ho,fun y hy hm=>?_,?_,fun id=>?_,?_⟩
  ·have hg:=j2.gone y hy hm
   have e9:y∈pre++[x] ↔ y∈pre∨y=x:=by rw [List.mem_append,List.mem_singleton]
   show y∈p1++p2 ↔ ¬ (G y∨y∈pre++[x])
   rw [e9]
   constructor
   ·intro hyp
    have h3:=hg.1 ((hmem y).2 (.inr hyp))
    rintro(h4 | h4 | h4)
    ·exact h3 (.inl h4)
    ·exact h3 (.inr h4)
    ·exact hxn (h4 ▸ hyp)
   ·intro h3
    rcases (hmem y).1 (hg.2 fun h4=>h3 (h4.elim .inl (fun h5=>.inr (.inl h5)))) with h4 | h4
    ·exact(h3 (.inr (.inr h4))).elim
    ·exact h4
  ·rw [List.nodup_append]
   exact⟨j2.nod,List.pairwise_singleton ..,fun a ha b hb e=>by rw [List.mem_singleton] at hb; subst hb; exact hxq (e ▸ ha)⟩
  ·rw [List.mem_append,List.mem_singleton,j2.mem]
   constructor
   ·rintro((h | ⟨y,hy,ey,hys,hG⟩) | rfl)
    ·exact .inl h
    ·exact .inr ⟨y,hy,ey,hys,hG.elim .inl (fun h5=>.inr (List.mem_append.2 (.inl h5)))⟩
    ·exact .inr ⟨x,b1,rfl,b2,.inr (by simp)⟩
   ·rintro(h | ⟨y,hy,ey,hys,hG | hG⟩)
    ·exact .inl (.inl h)
    ·exact .inl (.inr ⟨y,hy,ey,hys,.inl hG⟩)
    ·rcases List.mem_append.1 hG with hG | hG
     ·exact .inl (.inr ⟨y,hy,ey,hys,.inr hG⟩)
     ·rw [List.mem_singleton] at hG; subst hG; exact .inr ey.symm
  ·have hnd2:(st.2.2++[x.Gd]).Nodup:=by
    rw [List.nodup_append]
    exact⟨j2.nod,List.pairwise_singleton ..,fun a ha b hb e=>by rw [List.mem_singleton] at hb; subst hb; exact hxq (e ▸ ha)⟩
   have:=hnd2.length_le_of_subset (l₂:=q0++before.map (·.Gd)) (fun a ha=>by
    rcases List.mem_append.1 ha with ha | ha
    ·rcases (j2.mem a).1 ha with ha | ⟨y,hy,ey,_⟩
     ·exact List.mem_append.2 (.inl ha)
     ·exact List.mem_append.2 (.inr (List.mem_map.2 ⟨y,hy,ey⟩))
    ·rw [List.mem_singleton] at ha; subst ha
     exact List.mem_append.2 (.inr (List.mem_map.2 ⟨x,b1,rfl⟩)))
   simpa using this
theorem opens_list (h:Jd1 s boxes l) (hO:Ys s o) (hF:20≤F) (ks:List Int) (hnd:ks.Nodup) (hk:∀ k∈ks,∃ j:Nat,k=(j:Int)∧j < s.Covers.length∧Q29 s l (j:Int)∧(j:Int) ∉ o) :
  ∃ o',Ga7 F s boxes (ks.map (mvC 1)) (l,o,q)=some (l,o',q)∧Ys s o'∧∀ a,a∈o' ↔ a∈o∨a∈ks:=by
 refine Exists.elim (J4a (F:=F) (s:=s) (boxes:=boxes) (f:=mvC 1) (fun pre st=>st.1=l∧st.2.2=q∧Ys s st.2.1∧∀ a,a∈st.2.1 ↔ a∈o∨a∈pre) (xs:=ks) (st:=(l,o,q)) ⟨rfl,rfl,hO,fun a=>by simp⟩ (fun pre x post st e hJ=>?_)) (fun st' hst'=>?_)
 rotate_left
 ·obtain⟨e,h1,h2,h3,h4⟩:=hst'
  refine⟨st'.2.1,?_,h3,h4⟩
  rw [e,← h1,← h2]
 ·obtain⟨j1,j2,j3,j4⟩:=hJ
  obtain⟨j,rfl,hj,hu,hn⟩:=hk x (by rw [e]; simp)
  have hxp:(j:Int) ∉ pre:=fun hm=>by
   rw [e,List.nodup_append] at hnd
   exact hnd.2.2 _ hm _ (by simp) rfl
  obtain⟨o',es,ho',hm⟩:=step_open (F:=F) (q:=st.2.2) h j3 hF hj hu (fun hh=>((j4 _).1 hh).elim hn hxp)
  rw [j1,es]
  refine⟨(l,o',st.2.2),rfl,rfl,j2,ho',fun a=>?_⟩
  rw [hm,j4,List.mem_append,List.mem_singleton,or_assoc]
theorem closes_list (h:Jd1 s boxes l) (hO:Ys s o) (hF:20≤F) (ks:List Int) (hnd:ks.Nodup) (hk:∀ k∈ks,∃ j:Nat,k=(j:Int)∧j < s.Covers.length∧(j:Int)∈o) :
  ∃ o',Ga7 F s boxes (ks.map (mvC 4)) (l,o,q)=some (l,o',q)∧Ys s o'∧∀ a,a∈o' ↔ a∈o∧a ∉ ks:=by
 refine Exists.elim (J4a (F:=F) (s:=s) (boxes:=boxes) (f:=mvC 4) (fun pre st=>st.1=l∧st.2.2=q∧Ys s st.2.1∧∀ a,a∈st.2.1 ↔ a∈o∧a ∉ pre) (xs:=ks) (st:=(l,o,q)) ⟨rfl,rfl,hO,fun a=>by simp⟩ (fun pre x post st e hJ=>?_)) (fun st' hst'=>?_)
 rotate_left
 ·obtain⟨e,h1,h2,h3,h4⟩:=hst'
  refine⟨st'.2.1,?_,h3,h4⟩
  rw [e,← h1,← h2]
 ·obtain⟨j1,j2,j3,j4⟩:=hJ
  obtain⟨j,rfl,hj,hin⟩:=hk x (by rw [e]; simp)
  have hxp:(j:Int) ∉ pre:=fun hm=>by
   rw [e,List.nodup_append] at hnd
   exact hnd.2.2 _ hm _ (by simp) rfl
  have es:=step_close (F:=F) (q:=st.2.2) h j3 hF hj ((j4 _).2 ⟨hin,hxp⟩)
  rw [j1,es]
  refine⟨(l,H0b st.2.1 (j:Int),st.2.2),rfl,rfl,j2,shutL_ok j3,fun a=>?_⟩
  rw [J7a,j4,List.mem_append,List.mem_singleton]
  exact⟨fun⟨⟨a,b⟩,c⟩=>⟨a,fun h=>h.elim b c⟩,fun⟨a,b⟩=>⟨⟨a,fun h=>b (.inl h)⟩,fun h=>b (.inr h)⟩⟩
structure InI (s:Gw) (boxes:List Gd) (after:List Stowed) (set:List Int) (Q0:Int→Prop) (G:Stowed→Prop) (l:List Stowed) (q:List Int):Prop where
 way:Way2 s boxes after set l
 come:∀ x∈after,x.Gd∈set→(x∈l ↔ G x)
 nod:q.Nodup
 mem:∀ id,id∈q ↔ Q0 id∧¬ ∃ x∈after,x.Gd=id∧x.Gd∈set∧G x
 len:q.length≤100
theorem InI.congr {Q0:Int→Prop} {G G':Stowed→Prop} (h:InI s boxes after set Q0 G l q) (hg:∀ x∈after,x.Gd∈set→(G x ↔ G' x)):InI s boxes after set Q0 G' l q:=
 ⟨h.way,fun x hx hm=>by rw [h.come x hx hm,hg x hx hm],h.nod,fun id=>by
  rw [h.mem]
  refine and_congr_right fun _=>not_congr ⟨?_,?_⟩
  ·rintro⟨x,hx,e,hm,hG⟩
   exact⟨x,hx,e,hm,(hg x hx hm).1 hG⟩
  ·rintro⟨x,hx,e,hm,hG⟩
   exact⟨x,hx,e,hm,(hg x hx hm).2 hG⟩,h.len⟩
theorem ins_list (h:G12 s boxes before after set) (hO:Ys s o) (hF:20≤F) {Q0:Int→Prop} (hQ:∀ x∈after,x.Gd∈set→Q0 x.Gd) {G:Stowed→Prop} (hI:InI s boxes after set Q0 G l q) (xs:List Stowed) (hnd:xs.Nodup)
  (hb:∀ x∈xs,x∈after∧x.Gd∈set∧¬ G x) (hord:∀ pre x post,xs=pre++x::post→∀ z∈after,z.Gd∈set→z.Slot.G4=x.Slot.G4→z.Slot.Tier < x.Slot.Tier→G z∨z∈pre) (hs:∀ x∈xs,¬ Hb2 s o x.Slot) :
  ∃ l' q',Ga7 F s boxes (xs.map (mvS 3)) (l,o,q)=some (l',o,q')∧InI s boxes after set Q0 (fun x=>G x∨x∈xs) l' q':=by
 refine Exists.elim (J4a (F:=F) (s:=s) (boxes:=boxes) (f:=mvS 3) (fun pre st=>st.2.1=o∧InI s boxes after set Q0 (fun x=>G x∨x∈pre) st.1 st.2.2) (xs:=xs) (st:=(l,o,q)) ⟨rfl,hI.congr (fun x _ _=>by simp)⟩ (fun pre x post st e hJ=>?_)) (fun st' hst'=>?_)
 rotate_left
 ·obtain⟨e,e2,hr⟩:=hst'
  refine⟨st'.1,st'.2.2,?_,hr⟩
  rw [e,← e2]
 ·obtain⟨j1,j2⟩:=hJ
  have hx:x∈xs:=by rw [e]; simp
  obtain⟨b1,b2,b3⟩:=hb x hx
  have hxp:x ∉ pre:=fun hm=>by
   rw [e,List.nodup_append] at hnd
   exact hnd.2.2 x hm x (by simp) rfl
  have hxl:x ∉ st.1:=fun hm=>((j2.come x b1 b2).1 hm).elim b3 hxp
  have hqx:x.Gd∈st.2.2:=(j2.mem x.Gd).2 ⟨hQ x b1 b2,fun⟨y,hy,ey,hys,hG⟩=>by
   have:=Haa h.aft.sorted hy b1 ey
   subst this
   exact hG.elim b3 hxp⟩
  obtain⟨l',es,hins,hw⟩:=step_in (F:=F) h j2.way hO hF j2.len j2.nod b1 hxl (hs x hx) (fun z hz hzc hzt=>by
   by_cases hzs:z.Gd∈set
   ·exact(j2.come z hz hzs).2 (hord pre x post e z hz hzs hzc hzt)
   ·exact j2.way.keep z hz hzs) hqx
  rw [j1,es]
  refine⟨(l',o,st.2.2.filter (fun a=>!decide (a=x.Gd))),rfl,rfl,⟨hw,fun y hy hm=>?_,j2.nod.sublist List.filter_sublist,fun id=>?_,Nat.le_trans (List.length_filter_le _ _) j2.len⟩⟩
  ·show y∈l' ↔ (G y∨y∈pre++[x])
   rw [(H37 hins).mem_iff,List.mem_cons,j2.come y hy hm,List.mem_append,List.mem_singleton]
   constructor
   ·rintro(h | h | h)
    ·exact .inr (.inr h)
    ·exact .inl h
    ·exact .inr (.inl h)
   ·rintro(h | h | h)
    ·exact .inr (.inl h)
    ·exact .inr (.inr h)
    ·exact .inl h
  ·rw [List.mem_filter,j2.mem]
   constructor
   ·rintro⟨⟨g1,g2⟩,g3⟩
    have g3:id≠x.Gd:=by simpa using g3
    refine⟨g1,fun⟨y,hy,ey,hys,hG⟩=>?_⟩
    rcases hG with hG | hG
    ·exact g2 ⟨y,hy,ey,hys,.inl hG⟩
    ·rcases List.mem_append.1 hG with hG | hG
     ·exact g2 ⟨y,hy,ey,hys,.inr hG⟩
     ·rw [List.mem_singleton] at hG; subst hG; exact g3 ey.symm
   ·rintro⟨g1,g2⟩
    refine⟨⟨g1,fun⟨y,hy,ey,hys,hG⟩=>g2 ⟨y,hy,ey,hys,hG.elim .inl (fun h5=>.inr (List.mem_append.2 (.inl h5)))⟩⟩,?_⟩
    have:id≠x.Gd:=fun e2=>g2 ⟨x,b1,e2.symm,b2,.inr (by simp)⟩
    simpa using this
end
end Go.Proofs.YtknalejjpofoaaaGreat
