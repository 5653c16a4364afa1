/-
 What Put returns,and that states stay right. States with a box more or less are right.
-/
import Derived.Test.YtknalejjpofoaaaGreatPutM
set_option maxRecDepth 100000
set_option linter.unusedVariables false
namespace Go.Proofs.YtknalejjpofoaaaGreat
open Go.RowKit

theorem addH_add {boxes:List Gd} {m half n:Int} {x:Stowed}:Gcf boxes m half n x=n+Gcf boxes m half 0 x:=by
  unfold Gcf
  split
  · cases G31 boxes x.Gd with
    | some b=>simp only; omega
    | none=>simp
  · simp
theorem Ha3 {boxes:List Gd} {m half:Int}:∀ (l:List Stowed) (n:Int),l.foldl (Gcf boxes m half) n=n+l.foldl (Gcf boxes m half) 0:=by
  intro l
  induction l with
  | nil=>intro n; simp
  | cons x r ih=>
    intro n
    rw [List.foldl_cons,List.foldl_cons,ih (Gcf boxes m half n x),ih (Gcf boxes m half 0 x),addH_add (n:=n)]
    omega
theorem Ha2 {boxes:List Gd} {m half:Int} (pre post:List Stowed) (x:Stowed):G4a boxes (pre++x::post) m half=G4a boxes (pre++post) m half+Gcf boxes m half 0 x:=by
  unfold G4a
  rw [List.foldl_append,List.foldl_cons,List.foldl_append,Ha3 post (Gcf boxes m half _ x),Ha3 post (List.foldl _ 0 pre),addH_add]
  omega
theorem Q25 {boxes:List Gd} {m half n:Int} {x:Stowed} (h:x.Slot.G4≠m):Gcf boxes m half n x=n:=by
  unfold Gcf
  rw [if_neg (fun hh=>h hh.1)]
theorem G41 {l:List Stowed} {y:Slot} {half:Int} (h:below (l.map (·.Slot)) y half):∃ z∈l,z.Slot=⟨y.G4,y.Tier - 1,half⟩:=by
  obtain⟨z,hz,e⟩:=List.mem_map.1 h
  exact⟨z,hz,e⟩
theorem held_less {pre post:List Stowed} {x:Stowed} {y:Slot} (hn:¬ Gc1 y x.Slot) (h:H63 y ((pre++x::post).map (·.Slot))):H63 y ((pre++post).map (·.Slot)):=by
  have key:∀ half,(half=y.Half∨y.Half=0)→below ((pre++x::post).map (·.Slot)) y half→below ((pre++post).map (·.Slot)) y half:=fun half hh hb=>by
    obtain⟨z,hz,e⟩:=G41 hb
    refine List.mem_map.2 ⟨z,?_,e⟩
    have hzx:z≠x:=fun e2=>hn (by
      subst e2
      rw [e]
      refine⟨rfl,by simp only; omega,?_⟩
      rcases hh with hh | hh
      · exact .inl hh.symm
      · exact .inr (.inl hh))
    simp only [List.mem_append,List.mem_cons] at hz ⊢
    rcases hz with hz | hz | hz
    · exact .inl hz
    · exact(hzx hz).elim
    · exact .inr hz
  rcases h with h | h | ⟨h0,h1,h2⟩
  · exact .inl h
  · exact .inr (.inl (key _ (.inl rfl) h))
  · exact .inr (.inr ⟨h0,key _ (.inr h0) h1,key _ (.inr h0) h2⟩)
theorem mem_mid {pre post:List Stowed} {x y:Stowed} (h:y∈pre++post):y∈pre++x::post:=by
  simp only [List.mem_append,List.mem_cons] at h ⊢
  rcases h with h | h
  · exact .inl h
  · exact .inr (.inr h)
theorem Q0a {s:Gw} {boxes:List Gd} {pre post:List Stowed} {x:Stowed} (h:Ri s boxes (pre++x::post)) (ho:H0c (pre++x::post) x.Slot=[]):Ri s boxes (pre++post):=by
  have hsub:(pre++post).Sublist (pre++x::post):=List.Sublist.append_left (List.sublist_cons_self ..) _
  refine⟨fun y hy=>?_,h.sorted.sublist hsub,h.apart.sublist hsub,fun m c hc=>?_⟩
  · obtain⟨b,h1,h2,h3⟩:=h.each y (mem_mid hy)
    refine⟨b,h1,h2,held_less (fun hv=>?_) h3⟩
    have:y.Gd∈H0c (pre++x::post) x.Slot:=Hf5.2 ⟨y,mem_mid hy,rfl,hv⟩
    rw [ho] at this; cases this
  · have:=h.fits m c hc
    unfold He7 at this ⊢
    rw [Ha2,Ha2] at this
    have a1:=(Jcf (boxes:=boxes) (column:=(m:Int)) (half:=1) (n:=0) (x:=x)).1
    have a2:=(Jcf (boxes:=boxes) (column:=(m:Int)) (half:=2) (n:=0) (x:=x)).1
    rcases this with h | ⟨h,h'⟩
    · exact .inl h
    · exact .inr ⟨by omega,by omega⟩
def He6 (l:List Stowed) (x:Stowed) (r:List Stowed):Prop:=∃ pre post,l=pre++post∧r=pre++x::post∧(∀ y∈pre,y.Gd < x.Gd)∧(∀ y,post.head? = some y→x.Gd≤y.Gd)
theorem result_spec {F:Nat} {p:Hq} (hl:p.l.length≤1000) (hF:p.l.length < F):Wp (Rr F p) (He6 p.l p.x):=by
  unfold Rr
  refine wp_loop (fun n=>∃ k:Nat,n=(k:Int)∧k≤p.l.length∧∀ y∈p.l.take k,y.Gd < p.x.Gd) (fun n=>((p.l.length:Int) - n).toNat) ⟨0,rfl,Nat.zero_le _,fun y hy=>by rw [List.take_zero] at hy; cases hy⟩ (by show ((p.l.length:Int) - 0).toNat < F; omega) (fun n nx hI hnx=>?_)
  obtain⟨k,rfl,h1,h2⟩:=hI
  have done:(∀ y,(p.l.drop k).head? = some y→p.x.Gd≤y.Gd)→Wp (bnd (Ro p.l (k:Int) p.x) fun r16=>some r16) (He6 p.l p.x):=fun h3=>by
    have e:Ro p.l (k:Int) p.x=some (p.l.take k++p.x::p.l.drop k):=by
      unfold Ro
      rw [decide_eq_true (show (0:Int)≤(k:Int) by omega),decide_eq_true (show (k:Int)≤(p.l.length:Int) by omega),decide_eq_true (show p.l.length≤100000 by omega),show ((k:Int)).toNat=k by omega]
      rfl
    exact Gu e (Gn ⟨p.l.take k,p.l.drop k,(List.take_append_drop k p.l).symm,rfl,h2,h3⟩)
  by_cases hk:k < p.l.length
  · have hg:p.l[k]? = some p.l[k]:=List.getElem?_eq_getElem hk
    rw [decide_eq_true (show (k:Int) < (p.l.length:Int) by omega)]
    simp only [cond_true,Bool.true_and]
    refine H4 (Y9 rfl hg (Gn (H7 (fun h=>Qb ⟨by omega,by omega⟩ (hnx _ ⟨k+1,by simp,by omega,fun y hy=>?_⟩ (by omega))) (fun h=>done fun y hy=>?_))))
    · rw [List.take_succ_eq_append_getElem hk] at hy
      rcases List.mem_append.1 hy with hy | hy
      · exact h2 y hy
      · rw [List.mem_singleton] at hy; subst hy
        exact of_decide_eq_true h
    · rw [List.head?_drop,hg] at hy
      cases hy
      have:=of_decide_eq_false h
      omega
  · rw [decide_eq_false (show ¬ ((k:Int) < (p.l.length:Int)) by omega)]
    refine H4 (Gn (H7 (fun h=>by cases h) (fun _=>done fun y hy=>?_)))
    rw [List.head?_drop,List.getElem?_eq_none (by omega)] at hy
    cases hy
def Hb2 (s:Gw) (o:List Int) (x:Slot):Prop:=∃ (m:Nat) (c:G4),x.G4=(m:Int)∧s.Columns[m]? = some c∧0≤Jt s c∧(c.Deck=true ↔ Jt s c∈o)
def MetP (l:List Stowed) (x:Slot):Prop:=∃ y∈l,H5f x y.Slot
def FitC (s:Gw) (boxes:List Gd) (q:List Stowed) (x:Slot):Prop:=∀ (m:Nat) (c:G4),x.G4=(m:Int)→s.Columns[m]? = some c→He7 boxes q m c
def PutR (s:Gw) (boxes:List Gd) (l:List Stowed) (o:List Int) (x:Stowed) (size:Int) (r:List Stowed×Int):Prop:=
  (¬ G65 s x.Slot size∧r=([],97))∨(G65 s x.Slot size∧((Hb2 s o x.Slot∧r=([],91))∨(¬ Hb2 s o x.Slot∧((MetP l x.Slot∧r=([],92))∨(¬ MetP l x.Slot∧((¬ H63 x.Slot (l.map (·.Slot))∧r=([],93))∨(H63 x.Slot (l.map (·.Slot))∧∃ q,He6 l x q∧((¬ FitC s boxes q x.Slot∧r=([],94))∨(FitC s boxes q x.Slot∧r=(q,0))))))))))
theorem shut_spec {s:Gw} {boxes:List Gd} {l:List Stowed} {o:List Int} (h:Jd1 s boxes l) {x:Stowed} {size:Int} (hx:G65 s x.Slot size):Wp (Zw (Hq.mk s boxes l o x)) (fun r=>r=true ↔ Hb2 s o x.Slot):=by
  have hs:=Gda h.ship
  obtain⟨m,c,hm,hc,_⟩:=hx.col
  have hcl:Hb2 s o x.Slot ↔ (0≤Jt s c∧(c.Deck=true ↔ Jt s c∈o)):=by
    constructor
    · rintro⟨m',c',e1,e2,e3⟩
      have:m'=m:=by omega
      subst this
      rw [hc] at e2; cases e2
      exact e3
    · exact fun e=>⟨m,c,hm,hc,e⟩
  unfold Zw
  show Wp (bnd (Qv s x.Slot.G4) _) _
  rw [hm]
  refine Gu (G75 hc (fun x hx=>by have:=hs.rows x hx; omega) (by have:=hs.covs; omega)) ?_
  by_cases hk:0≤Jt s c
  · rw [decide_eq_true hk]
    simp only [cond_true,Bool.true_and]
    refine H4 (Y9 rfl hc (Gn (Gu (Ha6 _ _) (Gn ?_))))
    rw [hcl,beq_iff_eq,Bool.eq_iff_iff,Ha7]
    exact⟨fun h=>⟨hk,h⟩,fun h=>h.2⟩
  · rw [decide_eq_false hk]
    refine H4 (Gn (H4 (Gn (Gn (H31 fun hh=>hk (hcl.1 hh).1)))))
theorem met_spec {s:Gw} {boxes:List Gd} {l:List Stowed} {o:List Int} {x:Stowed}:Wp (G0e (Hq.mk s boxes l o x)) (fun r=>r=true ↔ MetP l x.Slot):=by
  have h:=H3b (p:=fun y:Stowed=>decide (H5f x.Slot y.Slot)) (f:=fun z0=>R9 z0 (Hq.mk s boxes l o x)) (xs:=l) (fun y _=>by
    unfold R9
    exact Yq (Gu (wp_dec (slot_meet x.Slot y.Slot)) (Gn rfl)))
  have e:Q2 l (fun z0=>R9 z0 (Hq.mk s boxes l o x))=some (J34 (fun y:Stowed=>decide (H5f x.Slot y.Slot)) l):=h
  unfold G0e R5
  refine H4 (Gu e (Gn (Gn ?_)))
  rw [H5a,List.any_eq_true]
  exact⟨fun⟨y,hy,h⟩=>⟨y,hy,of_decide_eq_true h⟩,fun⟨y,hy,h⟩=>⟨y,hy,decide_eq_true h⟩⟩
theorem put_spec {F:Nat} {s:Gw} {boxes:List Gd} {l:List Stowed} {o:List Int} (h:Jd1 s boxes l) (hO:Ys s o) (hF:20≤F) {x:Stowed} {b:Gd} (hb:G31 boxes x.Gd=some b) (hz:b.Size=20∨b.Size=40) (hx:x.Gd ∉ l.map (·.Gd)) :
    Wp (Ga2 F s boxes l o x) (PutR s boxes l o x b.Size):=by
  have hs:=Gda h.ship
  have hl:=h.len
  unfold Ga2
  refine Gu (h.checked hO) (H7 (fun h=>by cases h) (fun _=>Gu (J73 boxes x.Gd) ?_))
  rw [hb]
  refine H7 (fun hh=>?_) (fun _=>Gu (find_no hx) (H7 (fun hh=>by simp at hh) (fun _=>?_)))
  · simp only [Bool.not_true,Bool.false_or,Bool.and_eq_true,decide_eq_true_eq] at hh
    omega
  refine H4 (wp_mono (Q05 s x.Slot b.Size) (fun r15 h15=>H7 (fun hh=>Gn (.inl ⟨fun hk=>?_,rfl⟩)) (fun hh=>?_)))
  · rw [h15.2 hk] at hh; cases hh
  have hslot:G65 s x.Slot b.Size:=h15.1 (by simpa using hh)
  have htier : -1000000≤x.Slot.Tier∧x.Slot.Tier≤1000000:=by
    obtain⟨m,c,_,hc,ht⟩:=hslot.col
    have:=hs.tiers c (List.mem_of_getElem? hc)
    have:=hslot.tier
    omega
  obtain⟨q,hq,hins⟩:=result_spec (F:=F) (p:=Hq.mk s boxes l o x) (by show l.length≤1000; omega) (by show l.length < F; omega)
  have hql:q.length≤1000000:=by
    obtain⟨pre,post,e1,e2,_⟩:=hins
    have:l=pre++post:=e1
    rw [e2]
    have h2:=congrArg List.length this
    simp only [List.length_append,List.length_cons] at h2 ⊢
    omega
  refine Q8 (by decide) ?_
  rw [show (4:Int).toNat=4 from rfl]
  refine H51 (fun i _=>(1≤i→¬ Hb2 s o x.Slot)∧(2≤i→¬ MetP l x.Slot)∧(3≤i→H63 x.Slot (l.map (·.Slot)))∧(4≤i→FitC s boxes q x.Slot)) ⟨fun h=>by omega,fun h=>by omega,fun h=>by omega,fun h=>by omega⟩ (fun i u nx hi hI hnx=>?_) (fun u hI=>?_)
  · obtain⟨i1,i2,i3,i4⟩:=hI
    refine Zt (fun _=>(1≤i+1→¬ Hb2 s o x.Slot)∧(2≤i+1→¬ MetP l x.Slot)∧(3≤i+1→H63 x.Slot (l.map (·.Slot)))∧(4≤i+1→FitC s boxes q x.Slot)) (fun K hK=>?_) (fun j hj=>hnx _ hj)
    refine H7 (fun h0=>?_) (fun h0=>H7 (fun h1=>?_) (fun h1=>H7 (fun h2=>?_) (fun h2=>H7 (fun h3=>?_) (fun h3=>?_))))
    · have h0:=of_decide_eq_true h0
      refine H4 (wp_mono (shut_spec h hslot) (fun r hr=>H7 (fun hh=>Qb ⟨by omega,by omega⟩ (Gn (.inr ⟨hslot,.inl ⟨hr.1 hh,?_⟩⟩))) (fun hh=>hK _ ⟨fun _ hk=>?_,fun h=>by omega,fun h=>by omega,fun h=>by omega⟩)))
      · rw [h0]; rfl
      · rw [hr.2 hk] at hh; cases hh
    · have h0:=of_decide_eq_false h0
      have h1:=of_decide_eq_true h1
      refine H4 (wp_mono met_spec (fun r hr=>H7 (fun hh=>Qb ⟨by omega,by omega⟩ (Gn (.inr ⟨hslot,.inr ⟨i1 (by omega),.inl ⟨hr.1 hh,?_⟩⟩⟩))) (fun hh=>hK _ ⟨fun _=>i1 (by omega),fun _ hk=>?_,fun h=>by omega,fun h=>by omega⟩)))
      · rw [h1]; rfl
      · rw [hr.2 hk] at hh; cases hh
    · have h2:=of_decide_eq_true h2
      unfold G1f
      refine H4 (Gu (Q03 l (by omega)) (H4 (wp_mono (slot_held x.Slot (l.map (·.Slot)) htier) (fun r hr=>Gn (H7 (fun hh=>Qb ⟨by omega,by omega⟩ (Gn (.inr ⟨hslot,.inr ⟨i1 (by omega),.inr ⟨i2 (by omega),.inl ⟨fun hk=>?_,?_⟩⟩⟩⟩))) (fun hh=>hK _ ⟨fun _=>i1 (by omega),fun _=>i2 (by omega),fun _=>hr.1 (by simpa using hh),fun h=>by omega⟩))))))
      · rw [hr.2 hk] at hh; cases hh
      · rw [h2]; rfl
    · have h3:=of_decide_eq_true h3
      obtain⟨m,c,hm,hc,_⟩:=hslot.col
      have hfc:FitC s boxes q x.Slot ↔ He7 boxes q m c:=by
        refine⟨fun hf=>hf m c hm hc,fun hf m' c' e1 e2=>?_⟩
        have:m'=m:=by omega
        subst this
        rw [hc] at e2; cases e2
        exact hf
      unfold G33
      refine H4 (Gu hq ?_)
      show Wp (bnd (G66 s boxes q x.Slot.G4) _) _
      rw [hm]
      refine H4 (wp_mono (stow_fits hc hql) (fun r hr=>Gn (H7 (fun hh=>Qb ⟨by omega,by omega⟩ (Gn (.inr ⟨hslot,.inr ⟨i1 (by omega),.inr ⟨i2 (by omega),.inr ⟨i3 (by omega),q,hins,.inl ⟨fun hk=>?_,?_⟩⟩⟩⟩⟩))) (fun hh=>hK _ ⟨fun _=>i1 (by omega),fun _=>i2 (by omega),fun _=>i3 (by omega),fun _=>hfc.2 (hr.1 (by simpa using hh))⟩))))
      · rw [hr.2 (hfc.1 hk)] at hh; cases hh
      · rw [h3]; rfl
    · have a0:=of_decide_eq_false h0
      have a1:=of_decide_eq_false h1
      have a2:=of_decide_eq_false h2
      have a3:=of_decide_eq_false h3
      omega
  · obtain⟨i1,i2,i3,i4⟩:=hI
    exact Gu hq (Gn (.inr ⟨hslot,.inr ⟨i1 (by omega),.inr ⟨i2 (by omega),.inr ⟨i3 (by omega),q,hins,.inr ⟨i4 (by omega),rfl⟩⟩⟩⟩⟩))
end Go.Proofs.YtknalejjpofoaaaGreat
set_option maxRecDepth 100000
set_option linter.unusedVariables false
namespace Go.Proofs.YtknalejjpofoaaaGreat
open Go.RowKit
theorem J9c {a b:Int} (h:Ge6 a b):Ge6 b a:=by
 unfold Ge6 at h ⊢
 omega
theorem J7b {a b:Slot} (h:H5f a b):H5f b a:=⟨h.1.symm,h.2.1.symm,J9c h.2.2⟩
theorem H37 {l q:List Stowed} {x:Stowed} (h:He6 l x q):q.Perm (x::l):=by
 obtain⟨pre,post,rfl,rfl,_⟩:=h
 exact List.perm_middle
theorem J33 {l q:List Stowed} {x:Stowed} (h:He6 l x q) (hs:l.Pairwise (fun a b=>a.Gd < b.Gd)) (hx:x.Gd ∉ l.map (·.Gd)):q.Pairwise (fun a b=>a.Gd < b.Gd):=by
 obtain⟨pre,post,rfl,rfl,h1,h2⟩:=h
 obtain⟨s1,s2,s3⟩:=List.pairwise_append.1 hs
 refine List.pairwise_append.2 ⟨s1,List.pairwise_cons.2 ⟨fun y hy=>?_,s2⟩,fun a ha b hb=>?_⟩
 ·have hne:x.Gd≠y.Gd:=fun e=>hx (List.mem_map.2 ⟨y,List.mem_append.2 (.inr hy),e.symm⟩)
  cases post with
  | nil=>cases hy
  | cons z r=>
   have h3:=h2 z rfl
   rcases List.mem_cons.1 hy with rfl | hy
   ·omega
   ·have:=(List.pairwise_cons.1 s2).1 y hy
    omega
 ·rcases List.mem_cons.1 hb with rfl | hb
  ·exact h1 a ha
  ·exact s3 a ha b hb
theorem Hd3 {a b:List Stowed} (hp:a.Perm b) (ha:a.Pairwise (fun x y=>x.Gd < y.Gd)) (hb:b.Pairwise (fun x y=>x.Gd < y.Gd)):a=b:=
 List.Perm.eq_of_pairwise (le:=fun x y:Stowed=>x.Gd < y.Gd) (fun x y _ _ h1 h2=>by omega) ha hb hp
theorem held_mono {l q:List Slot} {x:Slot} (h:H63 x l) (hs:∀ y∈l,y∈q):H63 x q:=by
 rcases h with h | h | ⟨h0,h1,h2⟩
 ·exact .inl h
 ·exact .inr (.inl (hs _ h))
 ·exact .inr (.inr ⟨h0,hs _ h1,hs _ h2⟩)
theorem right_ins {s:Gw} {boxes:List Gd} {l q:List Stowed} {x:Stowed} {b:Gd} (h:Ri s boxes l) (hb:G31 boxes x.Gd=some b) (hslot:G65 s x.Slot b.Size) (hmet:¬ MetP l x.Slot) (hheld:H63 x.Slot (l.map (·.Slot))) (hins:He6 l x q) (hx:x.Gd ∉ l.map (·.Gd)) (hfit:FitC s boxes q x.Slot):Ri s boxes q:=by
 have hp:=H37 hins
 have hmem:∀ y,y∈q ↔ y=x∨y∈l:=fun y=>by rw [hp.mem_iff,List.mem_cons]
 have hsl:∀ y∈l.map (·.Slot),y∈q.map (·.Slot):=fun y hy=>by
  obtain⟨z,hz,e⟩:=List.mem_map.1 hy
  exact List.mem_map.2 ⟨z,(hmem z).2 (.inr hz),e⟩
 refine⟨fun y hy=>?_,J33 hins h.sorted hx,?_,fun m c hc=>?_⟩
 ·rcases (hmem y).1 hy with rfl | hy
  ·exact⟨b,hb,hslot,held_mono hheld hsl⟩
  ·obtain⟨b',h1,h2,h3⟩:=h.each y hy
   exact⟨b',h1,h2,held_mono h3 hsl⟩
 ·have ha:=h.apart
  obtain⟨pre,post,rfl,rfl,_⟩:=hins
  obtain⟨s1,s2,s3⟩:=List.pairwise_append.1 ha
  refine List.pairwise_append.2 ⟨s1,List.pairwise_cons.2 ⟨fun y hy hm=>hmet ⟨y,List.mem_append.2 (.inr hy),J7b hm⟩,s2⟩,fun a ha b hb=>?_⟩
  rcases List.mem_cons.1 hb with rfl | hb
  ·exact fun hm=>hmet ⟨a,List.mem_append.2 (.inl ha),hm⟩
  ·exact s3 a ha b hb
 ·by_cases he:x.Slot.G4=(m:Int)
  ·exact hfit m c he hc
  ·have:=h.fits m c hc
   obtain⟨pre,post,rfl,rfl,_⟩:=hins
   unfold He7 at this ⊢
   rw [Ha2,Ha2,Q25 he,Q25 he,Int.add_zero,Int.add_zero]
   exact this
theorem chain {s:Gw} {boxes:List Gd} {l:List Stowed} (h:Ri s boxes l) {t:Int} (h0:0≤t):∀ (n:Nat) (z:Stowed),z∈l→z.Slot.Tier=t+(n:Int)+1 →
  (∃ w∈l,w.Slot=⟨z.Slot.G4,t,z.Slot.Half⟩)∨(z.Slot.Half=0∧(∃ w∈l,w.Slot=⟨z.Slot.G4,t,1⟩)∧∃ w∈l,w.Slot=⟨z.Slot.G4,t,2⟩):=by
 intro n
 induction n with
 | zero=>
  intro z hz ht
  obtain⟨_,_,_,hh⟩:=h.each z hz
  have e:z.Slot.Tier - 1=t:=by omega
  rcases hh with hh | hh | ⟨hz0,h1,h2⟩
  ·omega
  ·obtain⟨w,hw,ew⟩:=G41 hh
   rw [e] at ew
   exact .inl ⟨w,hw,ew⟩
  ·obtain⟨w,hw,ew⟩:=G41 h1
   obtain⟨v,hv,ev⟩:=G41 h2
   rw [e] at ew ev
   exact .inr ⟨hz0,⟨w,hw,ew⟩,⟨v,hv,ev⟩⟩
 | succ n ih=>
  intro z hz ht
  obtain⟨_,_,_,hh⟩:=h.each z hz
  have one:∀ w∈l,∀ half,w.Slot=⟨z.Slot.G4,z.Slot.Tier - 1,half⟩→half≠0→∃ v∈l,v.Slot=⟨z.Slot.G4,t,half⟩:=fun w hw half ew hne=>by
   have:=ih w hw (by rw [ew]; simp only; omega)
   rw [ew] at this
   rcases this with h | ⟨h,_⟩
   ·exact h
   ·exact(hne h).elim
  rcases hh with hh | hh | ⟨hz0,h1,h2⟩
  ·omega
  ·obtain⟨w,hw,ew⟩:=G41 hh
   have:=ih w hw (by rw [ew]; simp only; omega)
   rw [ew] at this
   exact this
  ·obtain⟨w,hw,ew⟩:=G41 h1
   obtain⟨v,hv,ev⟩:=G41 h2
   exact .inr ⟨hz0,one w hw 1 ew (by decide),one v hv 2 ev (by decide)⟩
theorem size_of {s:Gw} {x:Slot} {size:Int} (h:G65 s x size):size=20∨size=40:=by
 have:=h.half
 unfold H5b at this
 split at this
 ·exact .inr (by assumption)
 ·split at this
  ·exact .inl (by assumption)
  ·cases this
end Go.Proofs.YtknalejjpofoaaaGreat
