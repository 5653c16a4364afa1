/-
 The two phases of a call: what is lifted is taken,and put.
-/
import Derived.Test.YtkcdjcgifgdanaaGreatCallP
set_option linter.unusedSimpArgs false
set_option linter.unnecessarySimpa false
set_option maxRecDepth 100000
set_option linter.unusedVariables false
namespace Go.Proofs.YtkcdjcgifgdanaaGreat
open Go.RowKit

theorem G62 {α β:Type} {Q:β→Prop} {c:Bool} {m:Option α} {x d:α} {k:α→Option β} (hc:c=true) (hm:m=some x) (h:Wp (k x) Q):Wp (bnd (bif c then m else some d) k) Q:=by
 subst hc hm
 exact h
theorem G1b {α β:Type} {Q:β→Prop} {c:Bool} {m:Option α} {d:α} {k:α→Option β} (hc:c=false) (h:Wp (k d) Q):Wp (bnd (bif c then m else some d) k) Q:=by
 subst hc
 exact h
/-- What is open behind a cover's closing. -/
def Hcd (o:List Int) (k:Int):List Int:=o.filter (fun a=>!decide (a=k))
theorem shutL_ok {s:Gw} {o:List Int} {k:Int} (h:Zm s o):Zm s (Hcd o k):=⟨fun y hy=>h.mem y (List.mem_filter.1 hy).1,h.sorted.sublist List.filter_sublist⟩
theorem mem_shutL {o:List Int} {k a:Int}:a∈Hcd o k ↔ a∈o∧a≠k:=by
 unfold Hcd
 rw [List.mem_filter]
 simp
theorem close_eq {F:Nat} {s:Gw} {boxes:List Gd} {l:List Stowed} {o:List Int} (h:Sta s boxes l) (hO:Zm s o) (hF:20≤F) {k:Nat} (hk:k < s.Covers.length) :
  G84 F s boxes l o (k:Int)=some (Hcd o (k:Int),0):=by
 have hs:=G6e h.ship
 have hcl:=h.ship.covs.len
 have hol:=hO.len
 refine Yn ?_
 unfold G84
 refine Gu (h.checked hO) (H3 (fun h=>by cases h) (fun _=>H3 (fun h=>?_) (fun _=>?_)))
 ·simp only [Bool.or_eq_true,decide_eq_true_eq] at h; omega
 refine H0 (wp_mono (J1d hO.sorted (by omega) (by omega)) (fun r hr=>?_))
 obtain⟨n,h1,h2,h3,h4,h5⟩:=hr
 refine H3 (fun hf=>?_) (fun hf=>?_)
 ·have hn:¬ o[n]? = some (k:Int):=fun e=>by rw [h5.2 e] at hf; cases hf
  have e:Jv o=some o:=by
   unfold Jv
   refine H7d (fun b hb=>?_)
   cases b with
   | true=>rw [hb rfl]; rfl
   | false=>
    show need _ _=_
    unfold need
    rw [room8L (by simp only [List.length_nil]; omega)]
    rfl
  refine Gu e (Gh ?_)
  have:Hcd o (k:Int)=o:=by
   unfold Hcd
   refine List.filter_eq_self.2 fun a ha=>?_
   have:a≠(k:Int):=fun e2=>by
    subst e2
    obtain⟨j,hj,e3⟩:=List.mem_iff_getElem.1 ha
    have hp:=List.pairwise_iff_getElem.1 hO.sorted
    rcases Nat.lt_trichotomy j n with g | g | g
    ·have:=h3 o[j] (List.mem_iff_getElem.2 ⟨j,by rw [List.length_take]; omega,by rw [List.getElem_take]⟩)
     rw [e3] at this
     omega
    ·subst g
     exact hn (by rw [List.getElem?_eq_getElem hj,e3])
    ·have hnl:n < o.length:=by omega
     have g1:=hp n j hnl hj g
     have g2:=h4 o[n] (List.mem_iff_getElem.2 ⟨0,by rw [List.length_drop]; omega,by rw [List.getElem_drop]; simp⟩)
     omega
   simpa using this
  rw [this]
 ·have hf:o[n]? = some (k:Int):=h5.1 (by simpa using hf)
  have hlt:=(List.getElem?_eq_some_iff.1 hf).1
  have hg:=(List.getElem?_eq_some_iff.1 hf).2
  have e:Zf o r.1=some (o.eraseIdx n):=by
   unfold Zf
   rw [h1,decide_eq_true (show (0:Int)≤(n:Int) by omega),decide_eq_true (show (n:Int) < (o.length:Int) by omega),decide_eq_true (show o.length≤100000 by omega),show ((n:Int)).toNat=n by omega]
   rfl
  refine Gu e (Gh ?_)
  have:Hcd o (k:Int)=o.eraseIdx n:=by
   have hs2:=hO.sorted
   have ho:=List.take_append_drop n o
   rw [List.drop_eq_getElem_cons hlt,hg] at ho
   rw [← ho] at hs2
   obtain⟨s1,s2,s3⟩:=List.pairwise_append.1 hs2
   rw [List.eraseIdx_eq_take_drop_succ]
   unfold Hcd
   conv=>lhs; rw [← ho]
   rw [List.filter_append,List.filter_cons,if_neg (by simp)]
   congr 1
   ·refine List.filter_eq_self.2 fun a ha=>?_
    have:=s3 a ha (k:Int) (List.mem_cons_self ..)
    have:a≠(k:Int):=by omega
    simpa using this
   ·refine List.filter_eq_self.2 fun a ha=>?_
    have:=(List.pairwise_cons.1 s2).1 a ha
    have:a≠(k:Int):=by omega
    simpa using this
  rw [this]
/-- A box that cannot be taken, or is not there. -/
def H6a (s:Gw) (l:List Stowed) (o:List Int) (id:Int):Prop:=∀ x∈l,x.Gd=id→G8c l x.Slot≠[]∨H3e s o x.Slot
theorem take_all {s:Gw} {boxes:List Gd} {l:List Stowed} {o:List Int} (h:Sta s boxes l) (hO:Zm s o) (id:Int) :
  Wp (G3b s boxes l o id) (fun r=>(r.2≠0∧H6a s l o id)∨(r.2=0∧∃ pre x post,l=pre++x::post∧x.Gd=id∧r.1=pre++post∧G8c l x.Slot=[]∧¬ H3e s o x.Slot)):=by
 by_cases hm:∃ x∈l,x.Gd=id
 ·obtain⟨x,hx,rfl⟩:=hm
  obtain⟨v,hv,hc⟩:=free_spec h hO hx
  have hst:G8c l x.Slot≠[]∨H3e s o x.Slot→H6a s l o x.Gd:=fun hh y hy e=>by
   rw [H89 h.right.sorted hy hx e]; exact hh
  refine wp_mono (take_spec h hx hv) (fun r hr=>?_)
  obtain⟨h1,h2⟩:=hr
  rcases hc with ⟨e,hh⟩ | ⟨e,_,hh⟩ | ⟨e,h3,h4⟩
  ·exact .inl ⟨by omega,hst (.inl hh)⟩
  ·exact .inl ⟨by omega,hst (.inr hh)⟩
  ·obtain⟨pre,post,e1,e2⟩:=h2 e
   exact .inr ⟨by omega,pre,x,post,e1,rfl,e2,h3,h4⟩
 ·have habove:G20 l id=some ([],6):=by
   have:=h.len
   rw [J72 l id (by omega)]
   have:H09 l id=none:=by
    unfold H09
    refine List.find?_eq_none.2 fun z hz h=>?_
    exact hm ⟨z,hz,by simpa using h⟩
   unfold aboveR
   rw [this]
  have hfree:G1a s boxes l o id=some 6:=by
   refine Yn ?_
   unfold G1a
   exact Gu (h.checked hO) (H3 (fun h=>by cases h) (fun _=>Gu habove (H3 (fun _=>Gh rfl) (fun h=>absurd h (by decide)))))
  unfold G3b
  exact Gu hfree (H3 (fun _=>Gh (.inl ⟨by show (6:Int)≠0; decide,fun x hx e=>(hm ⟨x,hx,e⟩).elim⟩)) (fun h=>absurd h (by decide)))
theorem J7e {o q:List Int} {k:Int} (ho:o.Pairwise (· < ·)) (hm:∀ a,a∈q ↔ a∈o∨a=k) (hk:k ∉ o):o.length < q.length:=by
 have:(k::o).Nodup:=List.nodup_cons.2 ⟨hk,G7d ho⟩
 have:=this.length_le_of_subset (l₂:=q) (fun a ha=>(hm a).2 (by
  rcases List.mem_cons.1 ha with h | h
  ·exact .inr h
  ·exact .inl h))
 rw [List.length_cons] at this
 omega
theorem G47 (l:List Int) (n:Int):Hy l n=some (decide (n∈l)):=by
 refine Yn ?_
 unfold Hy
 refine J0 (fun pre _=>n ∉ pre) (fun h=>(List.not_mem_nil h).elim) (fun pre y post u nx e hI hnx=>H3 (fun h=>Gh ?_) (fun h=>hnx _ ?_)) (fun u hI=>Gh (decide_eq_false hI).symm)
 ·have h:=of_decide_eq_true h
  exact(decide_eq_true (by rw [e,h]; simp)).symm
 ·have h:=of_decide_eq_false h
  rw [List.mem_append,List.mem_singleton]
  exact fun hh=>hh.elim hI (fun e=>h e.symm)
/-- A lifted box is, or will be, in the hold under a cover. -/
def Wnt (s:Gw) (before after:List Stowed) (set:List Int) (k:Int):Prop:=∃ x,(x∈before∨x∈after)∧x.Gd∈set∧∃ (m:Nat) (c:G4),x.Slot.G4=(m:Int)∧s.Columns[m]? = some c∧c.Deck=false∧Qd s c=k
theorem wanted_spec {s:Gw} (hS:H6d s) {before after:List Stowed} (hb:∀ x∈before,He9 s x.Slot) (ha:∀ x∈after,He9 s x.Slot) (set:List Int) {k:Nat} {x:G9} (hk:s.Covers[k]? = some x) :
  Wp (Ro s before after set (k:Int)) (fun r=>r=true ↔ Wnt s before after set (k:Int)):=by
 have inner:∀ (q:List Stowed) (nx:Unit→Option Bool),(∀ x∈q,He9 s x.Slot)→(∀ y∈q,y∈before∨y∈after)→((∀ y∈q,¬ (y.Gd∈set∧∃ (m:Nat) (c:G4),y.Slot.G4=(m:Int)∧s.Columns[m]? = some c∧c.Deck=false∧Qd s c=(k:Int)))→Wp (nx ()) (fun r=>r=true ↔ Wnt s before after set (k:Int))) →
   Wp (each (fun y38 i38 (s38:Unit) nx38=>
    Rx s.Columns y38.Slot.G4 fun y44=>
    bnd (Hy set y38.Gd) fun r47=>
    bnd (bif (r47&&(!y44.Deck)) then Rx s.Covers (k:Int) some else some default) fun y48=>
    bnd (bif ((r47&&(!y44.Deck))&&(decide (y44.Bay=y48.Bay))) then Rx s.Covers (k:Int) some else some default) fun y49=>
    bnd (bif ((r47&&(!y44.Deck))&&(decide (y44.Bay=y48.Bay))) then Hy y49.Rows y44.Row else some default) fun r50=>
    bif (((r47&&(!y44.Deck))&&(decide (y44.Bay=y48.Bay)))&&r50) then
    (some true)
    else
    (nx38 ()))
   (fun(s38:Unit)=>nx ()) q 0 ()) (fun r=>r=true ↔ Wnt s before after set (k:Int)):=fun q nx hq hqm hnx=>by
  refine J0 (fun pre _=>∀ y∈pre,¬ (y.Gd∈set∧∃ (m:Nat) (c:G4),y.Slot.G4=(m:Int)∧s.Columns[m]? = some c∧c.Deck=false∧Qd s c=(k:Int))) (fun y hy=>(List.not_mem_nil hy).elim) (fun pre y post u nx2 e hI hnx2=>?_) (fun u hI=>hnx hI)
  have hy:y∈q:=by rw [e]; simp
  obtain⟨m,c,hm,hc⟩:=hq y hy
  refine Qt hm hc (Gu (G47 set y.Gd) ?_)
  have next:¬ (y.Gd∈set∧c.Deck=false∧Qd s c=(k:Int))→Wp (nx2 ()) (fun r=>r=true ↔ Wnt s before after set (k:Int)):=fun hn=>hnx2 _ (G6d hI fun⟨h1,m',c',e1,e2,e3,e4⟩=>hn (by
   have:m'=m:=by omega
   subst this
   rw [hc] at e2; cases e2
   exact⟨h1,e3,e4⟩))
  by_cases h1:(decide (y.Gd∈set)&&(!c.Deck))=true
  ·refine G62 h1 (H85 hk some) ?_
   rw [h1]
   simp only [Bool.true_and]
   have h1':y.Gd∈set∧c.Deck=false:=by simpa using h1
   by_cases h2:decide (c.Bay=x.Bay)=true
   ·refine G62 h2 (H85 hk some) (G62 h2 (G47 _ _) ?_)
    rw [h2]
    simp only [Bool.true_and]
    have hcov:c.Row∈x.Rows ↔ Qd s c=(k:Int):=by
     rw [← Gfc hS hk]
     unfold G96
     rw [decide_eq_true (of_decide_eq_true h2).symm,Bool.true_and,List.any_eq_true]
     exact⟨fun h=>⟨c.Row,h,decide_eq_true rfl⟩,fun⟨r,hr,e⟩=>of_decide_eq_true e ▸ hr⟩
    refine H3 (fun h=>Gh ⟨fun _=>⟨y,hqm y hy,h1'.1,m,c,hm,hc,h1'.2,hcov.1 (of_decide_eq_true h)⟩,fun _=>rfl⟩) (fun h=>next fun hh=>of_decide_eq_false h (hcov.2 hh.2.2))
   ·have h2:decide (c.Bay=x.Bay)=false:=by simpa using h2
    refine G1b h2 (G1b h2 ?_)
    rw [h2]
    refine H3 (fun h=>by cases h) (fun _=>next fun hh=>?_)
    have:=(Gfc hS hk).2 hh.2.2
    unfold G96 at this
    rw [Bool.and_eq_true] at this
    have:=of_decide_eq_true this.1
    exact of_decide_eq_false h2 this.symm
  ·have h1:(decide (y.Gd∈set)&&(!c.Deck))=false:=by simpa using h1
   refine G1b h1 ?_
   rw [h1]
   simp only [Bool.false_and]
   refine G1b rfl (G1b rfl (H3 (fun h=>by cases h) (fun _=>next fun hh=>?_)))
   rw [decide_eq_true hh.1,hh.2.1] at h1
   cases h1
 unfold Ro
 rw [each]
 refine inner before _ hb (fun y hy=>.inl hy) (fun h1=>?_)
 rw [each]
 refine inner after _ ha (fun y hy=>.inr hy) (fun h2=>?_)
 rw [each]
 exact Gh (Gb8 fun⟨y,hy,h3,h4⟩=>by
  rcases hy with hy | hy
  ·exact h1 y hy ⟨h3,h4⟩
  ·exact h2 y hy ⟨h3,h4⟩)
theorem has_max (l:List Stowed) (hne:l≠[]):∃ x∈l,∀ y∈l,y.Slot.Tier≤x.Slot.Tier:=by
 induction l with
 | nil=>exact(hne rfl).elim
 | cons z r ih=>
  by_cases hr:r=[]
  ·subst hr
   exact⟨z,by simp,fun y hy=>by rw [List.mem_singleton] at hy; rw [hy]; exact Int.le_refl _⟩
  ·obtain⟨x,hx,hm⟩:=ih hr
   by_cases hz:z.Slot.Tier≤x.Slot.Tier
   ·exact⟨x,List.mem_cons_of_mem _ hx,fun y hy=>by
     rcases List.mem_cons.1 hy with rfl | hy
     ·exact hz
     ·exact hm y hy⟩
   ·exact⟨z,by simp,fun y hy=>by
     rcases List.mem_cons.1 hy with rfl | hy
     ·exact Int.le_refl _
     ·have:=hm y hy; omega⟩
/-- Whether a slot is on deck. -/
def G30 (s:Gw) (x:Slot):Bool:=match s.Columns[x.G4.toNat]? with
 | some c=>c.Deck
 | none=>false
theorem H64 {s:Gw} {x:Slot} {m:Nat} {c:G4} (e1:x.G4=(m:Int)) (e2:s.Columns[m]? = some c):G30 s x=c.Deck:=by
 unfold G30
 rw [show x.G4.toNat=m by omega,e2]
theorem J01 {s:Gw} {x y:Slot} (e:y.G4=x.G4):G30 s y=G30 s x:=by
 unfold G30
 rw [e]
/-- Where nothing can be opened nor taken any more, all lifted boxes are taken. -/
theorem all_taken {s:Gw} {boxes:List Gd} {before after l:List Stowed} {set:List Int} {o:List Int} (h:Zx s boxes before after set) (h1:H68 s boxes before set l) (hop:∀ k:Nat,k < s.Covers.length→Wnt s before after set (k:Int)→G59 s l (k:Int)→(k:Int)∈o) (hst:∀ id∈set,H6a s l o id):∀ x∈l,x.Gd ∉ set:=by
 have hcl:∀ x∈l,∀ y∈l,x.Gd∈set→G8d y.Slot x.Slot→y.Gd∈set:=fun x hx y hy hm ho=>h.over (h1.sub x hx) (h1.sub y hy) hm ho
 -- the highest of some boxes that are lifted, among those of a kind that is the same within a column
 have top:∀ p:Stowed→Bool,(∀ x∈l,∀ y∈l,y.Slot.G4=x.Slot.G4→p x=true→p y=true)→(∃ x∈l,x.Gd∈set∧p x=true)→∃ x∈l,x.Gd∈set∧p x=true∧G8c l x.Slot=[]:=fun p hp ⟨x0,hx0,hm0,hp0⟩=>by
  obtain⟨x,hx,hmax⟩:=has_max (l.filter (fun y=>decide (y.Gd∈set)&&p y)) (List.ne_nil_of_mem (List.mem_filter.2 ⟨hx0,by simp [hm0,hp0]⟩))
  obtain⟨hxl,hxp⟩:=List.mem_filter.1 hx
  have hxp:x.Gd∈set∧p x=true:=by simpa using hxp
  refine⟨x,hxl,hxp.1,hxp.2,?_⟩
  refine List.eq_nil_iff_forall_not_mem.2 fun b hb=>?_
  obtain⟨y,hy,_,ho⟩:=H81.1 hb
  have:=hmax y (List.mem_filter.2 ⟨hy,by simp [hcl x hxl y hy hxp.1 ho,hp x hxl y hy ho.1 hxp.2]⟩)
  have:=ho.2.1
  omega
 have noDeck:¬ ∃ x∈l,x.Gd∈set∧G30 s x.Slot=true:=fun hex=>by
  obtain⟨x,hx,hm,hd,ho⟩:=top (fun x=>G30 s x.Slot) (fun x _ y _ e hh=>by rw [J01 e]; exact hh) hex
  rcases hst x.Gd hm x hx rfl with hh | ⟨m,c,e1,e2,e3,_⟩
  ·exact hh ho
  ·rw [H64 e1 e2,e3] at hd; cases hd
 intro x0 hx0 hm0
 obtain⟨x,hx,hm,hd,ho⟩:=top (fun x=>!G30 s x.Slot) (fun x _ y _ e hh=>by rw [J01 e]; exact hh) ⟨x0,hx0,hm0,by
  cases hq:G30 s x0.Slot with
  | false=>rfl
  | true=>exact(noDeck ⟨x0,hx0,hm0,hq⟩).elim⟩
 rcases hst x.Gd hm x hx rfl with hh | ⟨m,c,e1,e2,e3,e4,e5⟩
 ·exact hh ho
 ·obtain⟨k,ek,hk⟩:∃ k:Nat,Qd s c=(k:Int)∧k < s.Covers.length:=by
   unfold Qd at e4 ⊢
   rcases G03 (fun x=>G96 x c) s.Covers with ⟨g1,_⟩ | ⟨m,x,g1,g2,_⟩
   ·rw [g1] at e4; omega
   ·exact⟨m,g1,(List.getElem?_eq_some_iff.1 g2).1⟩
  refine e5 (ek ▸ hop k hk ⟨x,.inl (h1.sub x hx),hm,m,c,e1,e2,e3,ek⟩ (fun y hy m1 c1 f1 f2 f3 f4=>?_))
  have hu:upon s x.Slot y.Slot:=⟨m,c,m1,c1,e1,e2,f1,f2,e3,f3,e4,by rw [f4,ek]⟩
  have hys:=h.upon (.inl (h1.sub x hx)) (.inl (h1.sub y hy)) hm hu
  exact noDeck ⟨y,hy,hys,by rw [H64 f1 f2]; exact f3⟩
end Go.Proofs.YtkcdjcgifgdanaaGreat
