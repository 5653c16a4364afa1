/-
 Between two states of a plan: what is lifted can be taken,and put. What is open behind a cover's closing.
-/
import Derived.Test.YtknalejjpofoaaaGreatPlanV
set_option maxRecDepth 100000
set_option linter.unusedVariables false
namespace Go.Proofs.YtknalejjpofoaaaGreat
open Go.RowKit

theorem Q18 {boxes:List Gd} {m half:Int} (p:Stowed→Bool):∀ (l:List Stowed),G4a boxes (l.filter p) m half≤G4a boxes l m half:=by
 intro l
 induction l with
 | nil=>exact Int.le_refl _
 | cons x r ih=>
  unfold G4a at *
  have h0:=(Jcf (boxes:=boxes) (column:=m) (half:=half) (n:=0) (x:=x)).1
  rw [List.foldl_cons,Ha3 r]
  rw [List.filter_cons]
  split
  ·rw [List.foldl_cons,Ha3 (r.filter p)]
   omega
  ·omega
theorem put_ok {s:Gw} {boxes:List Gd} {l:List Stowed} {o:List Int} {x:Stowed} {b:Gd} {r:List Stowed×Int} (h:Jd1 s boxes l) (hl:l.length≤9) (hb:G31 boxes x.Gd=some b) (hx:x.Gd ∉ l.map (·.Gd)) (hr:PutR s boxes l o x b.Size r) (h0:r.2=0) :
  G65 s x.Slot b.Size∧¬ Hb2 s o x.Slot∧He6 l x r.1∧Jd1 s boxes r.1:=by
 rcases hr with ⟨_,e⟩ | ⟨g0,⟨_,e⟩ | ⟨g1,⟨_,e⟩ | ⟨g2,⟨_,e⟩ | ⟨g3,q,hins,⟨_,e⟩ | ⟨g4,e⟩⟩⟩⟩⟩
 ·rw [e] at h0; exact absurd h0 (by decide)
 ·rw [e] at h0; exact absurd h0 (by decide)
 ·rw [e] at h0; exact absurd h0 (by decide)
 ·rw [e] at h0; exact absurd h0 (by decide)
 ·rw [e] at h0; exact absurd h0 (by decide)
 ·rw [e]
  have hlen:q.length=l.length+1:=by
   have:=(H37 hins).length_eq
   simpa using this
  exact⟨g0,g1,hins,h.ship,right_ins h.right hb g0 g2 g3 hins hx g4,by show q.length≤10; omega⟩
theorem G40 {l:List Stowed} (h:l.Pairwise (fun a b=>a.Gd < b.Gd)):l.Nodup:=h.imp (fun {a b} h e=>by subst e; omega)
theorem sub_filter {l q:List Stowed} (hl:l.Pairwise (fun a b=>a.Gd < b.Gd)) (hq:q.Pairwise (fun a b=>a.Gd < b.Gd)) (hs:∀ y∈q,y∈l):q=l.filter (fun y=>decide (y∈q)):=by
 refine Hd3 ((List.perm_ext_iff_of_nodup (G40 hq) ((G40 hl).sublist List.filter_sublist)).2 fun y=>?_) hq (hl.sublist List.filter_sublist)
 rw [List.mem_filter,decide_eq_true_eq]
 exact⟨fun h=>⟨hs y h,h⟩,fun h=>h.2⟩
theorem Q02 {boxes:List Gd} {m half:Int} {l q:List Stowed} (hl:l.Pairwise (fun a b=>a.Gd < b.Gd)) (hq:q.Pairwise (fun a b=>a.Gd < b.Gd)) (hs:∀ y∈q,y∈l):G4a boxes q m half≤G4a boxes l m half:=by
 rw [sub_filter hl hq hs]
 exact Q18 _ l
theorem pair_apart {l:List Stowed} (h:l.Pairwise (fun a b=>¬ H5f b.Slot a.Slot)) {x y:Stowed} (hx:x∈l) (hy:y∈l) (hne:x≠y):¬ H5f x.Slot y.Slot:=by
 induction l with
 | nil=>cases hx
 | cons z r ih=>
  obtain⟨h1,h2⟩:=List.pairwise_cons.1 h
  rcases List.mem_cons.1 hx with e1 | hx2 <;> rcases List.mem_cons.1 hy with e2 | hy2
  ·exact(hne (e1.trans e2.symm)).elim
  ·subst e1; exact fun hm=>h1 y hy2 (J7b hm)
  ·subst e2; exact h1 x hx2
  ·exact ih h2 hx2 hy2
structure G12 (s:Gw) (boxes:List Gd) (before after:List Stowed) (set:List Int):Prop where
 ship:LimOk s
 bef:Ri s boxes before
 aft:Ri s boxes after
 lb:before.length≤9
 la:after.length≤9
 least:He5 s before after set
section
variable {s:Gw} {boxes:List Gd} {before after l:List Stowed} {set:List Int}
theorem G50 (hs:l.Pairwise (fun a b=>a.Gd < b.Gd)) {x:Stowed} (hx:x∈l):Y1 l x.Gd=(x.Slot,true):=by
 have h1:(Y1 l x.Gd).2=true:=Q1d.2 (List.mem_map.2 ⟨x,hx,rfl⟩)
 obtain⟨y,hy,e1,e2⟩:=H81 h1
 have:=Haa hs hy hx e1
 subst this
 exact Prod.ext e2 h1
theorem G12.swap (h:G12 s boxes before after set) (hl:He5 s after before set):G12 s boxes after before set:=⟨h.ship,h.aft,h.bef,h.la,h.lb,hl⟩
theorem G12.stays (h:G12 s boxes before after set) {x:Stowed} (hx:x∈before) (hn:x.Gd ∉ set):x∈after:=by
 have he:Y1 before x.Gd=Y1 after x.Gd:=Classical.byContradiction fun e=>hn (h.least.seeds before (by simp) x hx e)
 rw [G50 h.bef.sorted hx] at he
 obtain⟨y,hy,e1,e2⟩:=H81 (l:=after) (id:=x.Gd) (by rw [← he])
 rw [← he] at e2
 have:y=x:=by
  cases y; cases x
  simp only at e1 e2
  subst e1 e2
  rfl
 exact this ▸ hy
theorem G12.stays2 (h:G12 s boxes before after set) {x:Stowed} (hx:x∈after) (hn:x.Gd ∉ set):x∈before:=by
 have he:Y1 before x.Gd=Y1 after x.Gd:=Classical.byContradiction fun e=>hn (h.least.seeds after (by simp) x hx e)
 rw [G50 h.aft.sorted hx] at he
 obtain⟨y,hy,e1,e2⟩:=H81 (l:=before) (id:=x.Gd) (by rw [he])
 rw [he] at e2
 have:y=x:=by
  cases y; cases x
  simp only at e1 e2
  subst e1 e2
  rfl
 exact this ▸ hy
theorem G12.over (h:G12 s boxes before after set) {x y:Stowed} (hx:x∈before) (hy:y∈before) (hm:x.Gd∈set) (ho:Gc1 y.Slot x.Slot):y.Gd∈set:=
 h.least.closed x.Gd hm y.Gd ⟨before,by simp,by rw [G50 h.bef.sorted hx],.inl ⟨y,hy,rfl,by rw [G50 h.bef.sorted hx]; exact ho⟩⟩
theorem G12.upon (h:G12 s boxes before after set) {x y:Stowed} (hx:x∈before∨x∈after) (hy:y∈before∨y∈after) (hm:x.Gd∈set) (ho:upon s x.Slot y.Slot):y.Gd∈set:=by
 have hy2:∃ st2∈[before,after],y∈st2:=by
  rcases hy with hy | hy
  ·exact⟨before,by simp,hy⟩
  ·exact⟨after,by simp,hy⟩
 obtain⟨st2,h2,hy2⟩:=hy2
 rcases hx with hx | hx
 ·exact h.least.closed x.Gd hm y.Gd ⟨before,by simp,by rw [G50 h.bef.sorted hx],.inr ⟨st2,h2,y,hy2,rfl,by rw [G50 h.bef.sorted hx]; exact ho⟩⟩
 ·exact h.least.closed x.Gd hm y.Gd ⟨after,by simp,by rw [G50 h.aft.sorted hx],.inr ⟨st2,h2,y,hy2,rfl,by rw [G50 h.aft.sorted hx]; exact ho⟩⟩
structure Way1 (s:Gw) (boxes:List Gd) (before:List Stowed) (set:List Int) (l:List Stowed):Prop where
 sta:Jd1 s boxes l
 sub:∀ x∈l,x∈before
 keep:∀ x∈before,x.Gd ∉ set→x∈l
structure Way2 (s:Gw) (boxes:List Gd) (after:List Stowed) (set:List Int) (l:List Stowed):Prop where
 sta:Jd1 s boxes l
 sub:∀ x∈l,x∈after
 keep:∀ x∈after,x.Gd ∉ set→x∈l
theorem G12.start (h:G12 s boxes before after set):Way1 s boxes before set before:=⟨⟨h.ship,h.bef,by have:=h.lb; omega⟩,fun _ hx=>hx,fun _ hx _=>hx⟩
theorem Way1.take (h:Way1 s boxes before set l) {pre post:List Stowed} {x:Stowed} (e:l=pre++x::post) (hx:x.Gd∈set) (ho:H0c l x.Slot=[]):Way1 s boxes before set (pre++post):=by
 subst e
 have hlen:(pre++x::post).length=(pre++post).length+1:=by simp only [List.length_append,List.length_cons]; omega
 refine⟨⟨h.sta.ship,Q0a h.sta.right ho,by have:=h.sta.len; omega⟩,fun z hz=>h.sub z (mem_mid hz),fun z hz hn=>?_⟩
 have:=h.keep z hz hn
 simp only [List.mem_append,List.mem_cons] at this ⊢
 rcases this with hz | rfl | hz
 ·exact .inl hz
 ·exact(hn hx).elim
 ·exact .inr hz
theorem Way1.turn (h:G12 s boxes before after set) (h1:Way1 s boxes before set l) (hd:∀ x∈l,x.Gd ∉ set):Way2 s boxes after set l:=
 ⟨h1.sta,fun x hx=>h.stays (h1.sub x hx) (hd x hx),fun x hx hn=>h1.keep x (h.stays2 hx hn) hn⟩
theorem Way2.done (h:G12 s boxes before after set) (h2:Way2 s boxes after set l) (hd:∀ x∈after,x.Gd∈set→x∈l):l=after:=by
 refine Hd3 ((List.perm_ext_iff_of_nodup (G40 h2.sta.right.sorted) (G40 h.aft.sorted)).2 fun y=>⟨h2.sub y,fun hy=>?_⟩) h2.sta.right.sorted h.aft.sorted
 by_cases hm:y.Gd∈set
 ·exact hd y hy hm
 ·exact h2.keep y hy hm
theorem Way2.put {F:Nat} {o:List Int} (h:G12 s boxes before after set) (h2:Way2 s boxes after set l) (hO:Ys s o) (hF:20≤F) {x:Stowed} (hx:x∈after) (hn:x ∉ l) (hns:¬ Hb2 s o x.Slot)
  (hbel:∀ z∈after,z.Slot.G4=x.Slot.G4→z.Slot.Tier < x.Slot.Tier→z∈l) :
  Wp (Ga2 F s boxes l o x) (fun r=>r.2=0∧He6 l x r.1∧Way2 s boxes after set r.1):=by
 obtain⟨b,hb,hslot,hheld⟩:=h.aft.each x hx
 have hll:l.length≤8:=by
  have hnd:=G40 h2.sta.right.sorted
  have:=(List.nodup_cons.2 ⟨hn,hnd⟩).length_le_of_subset (l₂:=after) (fun y hy=>by
   rcases List.mem_cons.1 hy with rfl | hy
   ·exact hx
   ·exact h2.sub y hy)
  have:=h.la
  simp only [List.length_cons] at *
  omega
 have hxb:x.Gd ∉ l.map (·.Gd):=fun hm=>by
  obtain⟨y,hy,e⟩:=List.mem_map.1 hm
  have:=Haa h.aft.sorted (h2.sub y hy) hx e
  exact hn (this ▸ hy)
 refine wp_mono (put_spec h2.sta hO hF hb (size_of hslot) hxb) (fun r hr=>?_)
 have hmet:¬ MetP l x.Slot:=fun⟨y,hy,hm⟩=>by
  have hya:=h2.sub y hy
  have hne:x≠y:=fun e=>hn (e ▸ hy)
  exact absurd hm (pair_apart h.aft.apart hx hya hne)
 have hheld2:H63 x.Slot (l.map (·.Slot)):=by
  have key:∀ half,below (after.map (·.Slot)) x.Slot half→below (l.map (·.Slot)) x.Slot half:=fun half hbw=>by
   obtain⟨z,hz,e⟩:=G41 hbw
   exact List.mem_map.2 ⟨z,hbel z hz (by rw [e]) (by rw [e]; show x.Slot.Tier - 1 < x.Slot.Tier; omega),e⟩
  rcases hheld with g | g | ⟨g0,g1,g2⟩
  ·exact .inl g
  ·exact .inr (.inl (key _ g))
  ·exact .inr (.inr ⟨g0,key _ g1,key _ g2⟩)
 have h0:r.2=0:=by
  rcases hr with ⟨g,_⟩ | ⟨_,⟨g,_⟩ | ⟨_,⟨g,_⟩ | ⟨_,⟨g,_⟩ | ⟨_,q,hins,⟨g,_⟩ | ⟨_,e⟩⟩⟩⟩⟩
  ·exact(g hslot).elim
  ·exact(hns g).elim
  ·exact(hmet g).elim
  ·exact(g hheld2).elim
  ·refine(g fun m c e1 e2=>?_).elim
   have hq:=J33 hins h2.sta.right.sorted hxb
   have hsub:∀ y∈q,y∈after:=fun y hy=>by
    rcases List.mem_cons.1 ((H37 hins).mem_iff.1 hy) with rfl | hy
    ·exact hx
    ·exact h2.sub y hy
   have:=h.aft.fits m c e2
   unfold He7 at this ⊢
   have a1:=Q02 (boxes:=boxes) (m:=(m:Int)) (half:=1) h.aft.sorted hq hsub
   have a2:=Q02 (boxes:=boxes) (m:=(m:Int)) (half:=2) h.aft.sorted hq hsub
   rcases this with h | ⟨h,h'⟩
   ·exact .inl h
   ·exact .inr ⟨by omega,by omega⟩
  ·rw [e]
 obtain⟨_,_,hins,hS⟩:=put_ok h2.sta (by omega) hb hxb hr h0
 have hmem:∀ y,y∈r.1 ↔ y=x∨y∈l:=fun y=>by rw [(H37 hins).mem_iff,List.mem_cons]
 exact⟨h0,hins,hS,fun y hy=>by
  rcases (hmem y).1 hy with rfl | hy
  ·exact hx
  ·exact h2.sub y hy,fun y hy hny=>(hmem y).2 (.inr (h2.keep y hy hny))⟩
end
end Go.Proofs.YtknalejjpofoaaaGreat
set_option maxRecDepth 100000
namespace Go.Proofs.YtknalejjpofoaaaGreat
open Go.RowKit

def H0b (o:List Int) (k:Int):List Int:=o.filter (fun a=>!decide (a=k))
theorem shutL_ok {s:Gw} {o:List Int} {k:Int} (h:Ys s o):Ys s (H0b o k):=⟨fun y hy=>h.mem y (List.mem_filter.1 hy).1,h.sorted.sublist List.filter_sublist⟩
theorem J7a {o:List Int} {k a:Int}:a∈H0b o k ↔ a∈o∧a≠k:=by
 unfold H0b
 rw [List.mem_filter]
 simp
theorem close_eq {F:Nat} {s:Gw} {boxes:List Gd} {l:List Stowed} {o:List Int} (h:Jd1 s boxes l) (hO:Ys s o) (hF:20≤F) {k:Nat} (hk:k < s.Covers.length) :
  Gc3 F s boxes l o (k:Int)=some (H0b o (k:Int),0):=by
 have hs:=Gda h.ship
 have hcl:=h.ship.covs.len
 have hol:=hO.len
 refine Yq ?_
 unfold Gc3
 refine Gu (h.checked hO) (H7 (fun h=>by cases h) (fun _=>H7 (fun h=>?_) (fun _=>?_)))
 ·simp only [Bool.or_eq_true,decide_eq_true_eq] at h; omega
 refine H4 (wp_mono (J9d hO.sorted (by omega) (by omega)) (fun r hr=>?_))
 obtain⟨n,h1,h2,h3,h4,h5⟩:=hr
 refine H7 (fun hf=>?_) (fun hf=>?_)
 ·have hn:¬ o[n]? = some (k:Int):=fun e=>by rw [h5.2 e] at hf; cases hf
  have e:Q3 o=some o:=by
   unfold Q3
   refine Hf1 (fun b hb=>?_)
   cases b with
   | true=>rw [hb rfl]; rfl
   | false=>
    show need _ _=_
    unfold need
    rw [J2b (by simp only [List.length_nil]; omega)]
    rfl
  refine Gu e (Gn ?_)
  have:H0b o (k:Int)=o:=by
   unfold H0b
   refine List.filter_eq_self.2 fun a ha=>?_
   have:a≠(k:Int):=fun e2=>by
    subst e2
    obtain⟨j,hj,e3⟩:=List.mem_iff_getElem.1 ha
    have hp:=List.pairwise_iff_getElem.1 hO.sorted
    rcases Nat.lt_trichotomy j n with g | g | g
    ·have:=h3 o[j] (List.mem_iff_getElem.2 ⟨j,by rw [List.length_take]; omega,by rw [List.getElem_take]⟩)
     rw [e3] at this
     omega
    ·subst g
     exact hn (by rw [List.getElem?_eq_getElem hj,e3])
    ·have hnl:n < o.length:=by omega
     have g1:=hp n j hnl hj g
     have g2:=h4 o[n] (List.mem_iff_getElem.2 ⟨0,by rw [List.length_drop]; omega,by rw [List.getElem_drop]; simp⟩)
     omega
   simpa using this
  rw [this]
 ·have hf:o[n]? = some (k:Int):=h5.1 (by simpa using hf)
  have hlt:=(List.getElem?_eq_some_iff.1 hf).1
  have hg:=(List.getElem?_eq_some_iff.1 hf).2
  have e:G0d o r.1=some (o.eraseIdx n):=by
   unfold G0d
   rw [h1,decide_eq_true (show (0:Int)≤(n:Int) by omega),decide_eq_true (show (n:Int) < (o.length:Int) by omega),decide_eq_true (show o.length≤100000 by omega),show ((n:Int)).toNat=n by omega]
   rfl
  refine Gu e (Gn ?_)
  have:H0b o (k:Int)=o.eraseIdx n:=by
   have hs2:=hO.sorted
   have ho:=List.take_append_drop n o
   rw [List.drop_eq_getElem_cons hlt,hg] at ho
   rw [← ho] at hs2
   obtain⟨s1,s2,s3⟩:=List.pairwise_append.1 hs2
   rw [List.eraseIdx_eq_take_drop_succ]
   unfold H0b
   conv=>lhs; rw [← ho]
   rw [List.filter_append,List.filter_cons,if_neg (by simp)]
   congr 1
   ·refine List.filter_eq_self.2 fun a ha=>?_
    have:=s3 a ha (k:Int) (List.mem_cons_self ..)
    have:a≠(k:Int):=by omega
    simpa using this
   ·refine List.filter_eq_self.2 fun a ha=>?_
    have:=(List.pairwise_cons.1 s2).1 a ha
    have:a≠(k:Int):=by omega
    simpa using this
  rw [this]
theorem Way1.len {s:Gw} {boxes:List Gd} {before l:List Stowed} {set:List Int} (h:Way1 s boxes before set l):l.length≤before.length:=
 (G40 h.sta.right.sorted).length_le_of_subset (fun y hy=>h.sub y hy)
theorem same_stow (l:List Stowed):R8 l l=some true:=by
 refine Yq ?_
 unfold R8
 refine H7 (fun h=>((of_decide_eq_true h) rfl).elim) (fun _=>?_)
 refine J8 (fun _ _=>True) trivial (fun pre y post u nx e _ hnx=>?_) (fun u _=>Gn rfl)
 refine Y9 (x:=y) rfl (by rw [e]; simp) (H7 (fun h=>?_) (fun _=>hnx _ trivial))
 rw [decide_eq_true (rfl:y=y)] at h
 cases h
theorem wp_jpI {α β:Type} {Q:β→Prop} {m:(α→Option β)→Option β} {k:α→Option β} (P:α→Prop) (hk:∀ a,P a→Wp (k a) Q) (hm:∀ K:α→Option β,(∀ a,P a→Wp (K a) Q)→Wp (m K) Q):Wp (jp m k) Q:=hm k hk
section
variable {s:Gw} {boxes:List Gd} {before after:List Stowed} {set:List Int}
end
end Go.Proofs.YtknalejjpofoaaaGreat
