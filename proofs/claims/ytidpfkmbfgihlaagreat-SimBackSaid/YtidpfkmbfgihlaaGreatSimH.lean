/-
 What the chapter's statements make: a ship,boxes,a state,and a simulator with the other boxes on the quay. SimBack: what was done can be undone.
-/
import Derived.Test.YtidpfkmbfgihlaaGreatSimE
set_option maxRecDepth 100000
set_option linter.unusedVariables false
namespace Go.Proofs.YtidpfkmbfgihlaaGreat
open Go.RowKit

theorem Yda:Yk=some true:=by kernel_rfl
def Q7e (l:List Stowed) (b:Box):Bool:=!(l.any fun x=>decide (x.Box=b.ID))
def J9c (l:List Stowed) (boxes:List Box):List Int:=(boxes.filter (Q7e l)).map (·.ID)
theorem J3a {l:List Stowed} {b:Box}:Q7e l b=true ↔ b.ID ∉ l.map (·.Box):=by
 unfold Q7e
 rw [Bool.not_eq_true',← Bool.not_eq_true,List.any_eq_true,List.mem_map]
 exact not_congr ⟨fun⟨x,hx,e⟩=>⟨x,hx,of_decide_eq_true e⟩,fun⟨x,hx,e⟩=>⟨x,hx,decide_eq_true e⟩⟩
theorem Y7e {s:Gk} {boxes:List Box} {l:List Stowed} (hB:Jbf boxes) (hr:Yv s boxes l):l.length+(J9c l boxes).length=boxes.length:=by
 have h1:=(List.filter_append_perm (Q7e l) boxes).length_eq
 have hnd:(boxes.map (·.ID)).Nodup:=G2f (List.pairwise_map.2 hB.asc)
 have hp:(l.map (·.Box)).Perm ((boxes.filter (fun b=>!Q7e l b)).map (·.ID)):=by
  refine(List.perm_ext_iff_of_nodup (J1b hr.sorted) (hnd.sublist (List.filter_sublist.map _))).2 fun i=>?_
  rw [List.mem_map,List.mem_map]
  constructor
  ·rintro⟨x,hx,rfl⟩
   obtain⟨b,hb,_⟩:=hr.each x hx
   refine⟨b,List.mem_filter.2 ⟨Yd3 hb,?_⟩,G61 hb⟩
   rw [Bool.not_eq_true',← Bool.not_eq_true,J3a,G61 hb]
   exact fun h=>h (List.mem_map.2 ⟨x,hx,rfl⟩)
  ·rintro⟨b,hb,rfl⟩
   have h2:=(List.mem_filter.1 hb).2
   rw [Bool.not_eq_true',← Bool.not_eq_true,J3a,Classical.not_not] at h2
   exact List.mem_map.1 h2
 have h2:=hp.length_eq
 rw [List.length_map,List.length_map] at h2
 unfold J9c
 rw [List.length_map]
 rw [List.length_append] at h1
 omega
theorem R73 {l:List Stowed} {boxes:List Box} (hB:Jbf boxes):(J9c l boxes).Pairwise (· < ·):=List.pairwise_map.2 (hB.asc.filter _)
theorem R77 {l:List Stowed} {boxes:List Box} {i:Int}:i∈J9c l boxes ↔ ∃ b∈boxes,b.ID=i∧i ∉ l.map (·.Box):=by
 unfold J9c
 rw [List.mem_map]
 constructor
 ·rintro⟨b,hb,rfl⟩
  exact⟨b,(List.mem_filter.1 hb).1,rfl,J3a.1 (List.mem_filter.1 hb).2⟩
 ·rintro⟨b,hb,rfl,h⟩
  exact⟨b,List.mem_filter.2 ⟨hb,J3a.2 h⟩,rfl⟩
theorem Y52 (places:List Ha) (covers:Int) (drops:List Gu) (hp:∀ p∈places,Jb0 p) (hd:∀ x∈drops,Qbd x) :
  Wp (Qs places covers drops) (fun r=>Jbf r.2.1∧∃ t:St,t.l=r.2.2.1∧t.o=[]∧Good r.1 r.2.1 t∧H2d r.1 r.2.1 r.2.2.2 t∧r.2.2.2.lifts=0):=by
 unfold Qs
 refine H5 (wp_mono (Rfc places covers hp) (fun s hBu=>?_))
 have hL:=Y53 hBu
 have hs:=G76 hL
 refine H5 (wp_mono (R91 hs hd (most:=8) (by decide)) (fun r5 h5=>?_))
 obtain⟨g1,g2,g3⟩:=h5
 have hB:Jbf r5.1:=by rw [g1]; exact Y64 (by rw [List.length_take]; omega)
 refine Y3 (fun pre st=>Yv s r5.1 st∧st.length≤pre.length) ⟨J72,Nat.le_refl _⟩ (fun pre y post st nx e hI hnx=>?_) (fun l hI=>?_)
 ·obtain⟨h1,h2⟩:=hI
  have hpl:pre.length < 8:=by have:=congrArg List.length e; simp only [List.length_append,List.length_cons] at this; omega
  refine G7c (fun j=>Yv s r5.1 j∧j.length≤pre.length+1) (fun K hK=>?_) (fun j hj=>hnx _ ⟨hj.1,by rw [List.length_append,List.length_singleton]; exact hj.2⟩)
  refine H2 (Y95 (by omega)) (G06 (Ga7 (by rw [List.length_singleton]; omega) (by omega)) (H5 (H03 (by decide) ?_)))
  by_cases hc:y.Box.tmod 10=0
  ·rw [decide_eq_true hc]
   refine H5 (wp_mono (H68 hs.right hs.tier (by simp only [List.length_append,List.length_singleton]; omega)) (fun v hv=>Hr (fun h=>hK _ ⟨hv.1 (by simpa using h),?_⟩) (fun h=>hK _ ⟨h1,by omega⟩)))
   simp only [List.length_append,List.length_singleton]; omega
  ·rw [decide_eq_false hc]
   exact H5 (Gj (hK _ ⟨h1,by omega⟩))
 ·obtain⟨h1,h2⟩:=hI
  have hll:l.length≤8:=by omega
  have hfew:=hB.few
  refine Y3 (fun pre (a:List Int)=>a=(pre.filter (Q7e l)).map (·.ID)) rfl (fun pre y post a nx e hI hnx=>?_) (fun a hI=>?_)
  ·have hpl:pre.length < 8:=by have:=congrArg List.length e; simp only [List.length_append,List.length_cons] at this; omega
   have hal:a.length≤pre.length:=by rw [hI,List.length_map]; exact List.length_filter_le _ _
   refine G7c (fun j=>j=((pre++[y]).filter (Q7e l)).map (·.ID)) (fun K hK=>?_) (fun j hj=>hnx _ hj)
   refine H2 (Q1c (p:=fun x=>decide (x.Box=y.ID)) (fun x _=>rfl)) (Hr (fun h=>?_) (fun h=>hK _ ?_))
   ·refine G06 (Ga7 (by rw [List.length_singleton]; omega) (by omega)) (hK _ ?_)
    rw [hI,List.filter_append,List.map_append,List.filter_cons_of_pos (by exact h)]
    rfl
   ·rw [hI,List.filter_append,List.map_append,List.filter_cons_of_neg (by rw [Bool.not_eq_true]; exact h)]
    simp
  ·have ha:a=J9c l r5.1:=hI
   subst ha
   have hnum:=Y7e hB h1
   have hbox:∀ i∈J9c l r5.1,∃ b,Qj r5.1 i=some b∧(b.Size=20∨b.Size=40):=fun i hi=>by
    obtain⟨b,hb,rfl,_⟩:=R77.1 hi
    exact⟨b,R83 hB.asc hb,hB.size b hb⟩
   have hdis:∀ i∈J9c l r5.1,i ∉ l.map (·.Box):=fun i hi=>by
    obtain⟨_,_,_,h⟩:=R77.1 hi
    exact h
   refine H5 (wp_mono (Rdc hL h1 (by omega) (by omega) hbox (R73 hB) hdis) (fun r70 h70=>Gj ⟨hB,⟨l,[],J9c l r5.1⟩,rfl,rfl,?_,h70.2.1,h70.2.2⟩))
   exact⟨hL,h1,Qef,fun k hk=>(by cases hk),hbox,R73 hB,hdis,hnum,hB.few⟩
end Go.Proofs.YtidpfkmbfgihlaaGreat
set_option maxRecDepth 100000
set_option linter.unusedVariables false
namespace Go.Proofs.YtidpfkmbfgihlaaGreat
open Go.RowKit

theorem Re4 (l:List Stowed):Q3 l l=some true:=by
 refine G83 ?_
 unfold Q3
 refine Hr (fun h=>((of_decide_eq_true h) rfl).elim) (fun _=>?_)
 refine Y3 (fun _ _=>True) trivial (fun pre y post u nx e _ hnx=>?_) (fun u _=>Gj rfl)
 refine Yg (x:=y) rfl (by rw [e]; simp) (Hr (fun h=>?_) (fun _=>hnx _ trivial))
 rw [decide_eq_true (rfl:y=y)] at h
 cases h
structure R34 (x:Hd):Prop where
 kind:Byte x.Kind
 box:Byte x.Box
 column:Byte x.G2
 tier:Byte x.Tier
 half:Byte x.Half
 cover:Byte x.G8
structure Y00 (s:Gk) (x:Move):Prop where
 kind:0≤x.Kind∧x.Kind≤4
 lift:x.Kind=2∨x.Kind=3→x.G8=0
 cover:x.Kind=1∨x.Kind=4→x.Box=0∧x.Slot=⟨0,0,0⟩∧0≤x.G8∧x.G8≤(s.Covers.length:Int)
theorem Q31 {z n:Int} (hz:0≤z) (hn:0 < n):0≤z.tmod n∧z.tmod n < n:=by
 rw [Int.tmod_eq_emod_of_nonneg hz]
 exact⟨Int.emod_nonneg _ (by omega),Int.emod_lt_of_pos _ hn⟩
theorem Y50 {s:Gk} {boxes:List Box} {m:Gb} {t:St} (hG:Good s boxes t) (hR:H2d s boxes m t) {y:Hd} (hy:R34 y):Wp (Yp y s boxes m) (Y00 s):=by
 obtain⟨⟨k1,k2⟩,⟨b1,b2⟩,⟨c1,c2⟩,⟨t1,t2⟩,⟨h1,h2⟩,⟨o1,o2⟩⟩:=hy
 have hcl:=hG.ship.covs.len
 have hsome:=hG.ship.some
 have hsm:=G76 hG.ship
 unfold Yp
 refine H5 (H03 (by decide) ?_)
 have hv:=Q31 (n:=5) k1 (by decide)
 generalize y.Kind.tmod 5=v3 at hv
 refine G7c (fun j=>Y00 s (Move.mk v3 j.1 (Slot.mk j.2.1 j.2.2.1 j.2.2.2.1) j.2.2.2.2)) (fun K hK=>?_) (fun j hj=>Gj hj)
 refine G7c (fun j=>j=true ↔ (v3=1∨v3=4)) (fun K' hK'=>Hr (fun h=>hK' _ ?_) (fun h=>hK' _ ?_)) (fun j hj=>?_)
 ·rw [h]; exact⟨fun _=>.inl (of_decide_eq_true h),fun _=>rfl⟩
 ·rw [decide_eq_true_eq]
  exact⟨.inr,fun g=>g.resolve_left (of_decide_eq_false h)⟩
 refine Hr (fun h=>?_) (fun h=>?_)
 ·have hm:=Q31 (z:=y.G8) (n:=(s.Covers.length:Int)+1) o1 (by omega)
  refine R1 (by omega) (R1 (by omega) (H5 (H03 (by omega) (hK _ ⟨by show 0≤v3∧v3≤4; omega,fun g=>?_,fun _=>⟨rfl,rfl,hm.1,?_⟩⟩))))
  ·have g:v3=2∨v3=3:=g
   have:=hj.1 h
   omega
  ·show y.G8.tmod ((s.Covers.length:Int)+1)≤_
   omega
 have hn:¬ (v3=1∨v3=4):=fun g=>by rw [hj.2 g] at h; cases h
 have ok:∀ (a b c d:Int),Y00 s (Move.mk v3 a (Slot.mk b c d) 0):=fun a b c d=>⟨by show 0≤v3∧v3≤4; omega,fun _=>rfl,fun g=>(hn g).elim⟩
 refine Hr (fun h2'=>?_) (fun h2'=>Hr (fun h3=>?_) (fun h3=>hK _ (ok _ _ _ _)))
 ·refine G7c (fun j=>0≤j.2.2.1∧j.2.2.1≤1000000) (fun K2 hK2=>?_) (fun j hj2=>H5 (H03 (by decide) (Hr (fun _=>R1 (by omega) (hK _ (ok _ _ _ _))) (fun _=>hK _ (ok _ _ _ _)))))
  refine H2 (R68 hG hR) (Hr (fun hl=>?_) (fun _=>hK2 _ ⟨Int.le_refl _,by show (0:Int)≤1000000; decide⟩))
  have hl:=of_decide_eq_true hl
  have hm:=Q31 (z:=y.Box) (n:=(t.l.length:Int)) b1 hl
  obtain⟨q,hq⟩:∃ q:Nat,y.Box.tmod (t.l.length:Int)=(q:Int):=⟨_,(Int.toNat_of_nonneg hm.1).symm⟩
  have hql:q < t.l.length:=by omega
  refine R1 (by omega) (H5 (H03 (by omega) (Yg hq (List.getElem?_eq_getElem hql) (hK2 _ ?_))))
  obtain⟨b,_,hs,_⟩:=hG.right.each t.l[q] (List.getElem_mem hql)
  obtain⟨i,c,_,hc,ht⟩:=hs.col
  have:=hsm.tiers c (List.mem_of_getElem? hc)
  have:=hs.tier
  show 0≤t.l[q].Slot.Tier∧t.l[q].Slot.Tier≤1000000
  omega
 ·refine G7c (fun j=>True) (fun K2 hK2=>?_) (fun j _=>?_)
  ·refine H2 (Y65 hG hR) (Hr (fun hl=>?_) (fun _=>hK2 _ trivial))
   have hl:=of_decide_eq_true hl
   have hm:=Q31 (z:=y.Box) (n:=(t.a.length:Int)) b1 hl
   obtain⟨q,hq⟩:∃ q:Nat,y.Box.tmod (t.a.length:Int)=(q:Int):=⟨_,(Int.toNat_of_nonneg hm.1).symm⟩
   have hql:q < t.a.length:=by omega
   exact R1 (by omega) (H5 (H03 (by omega) (Yg hq (List.getElem?_eq_getElem hql) (hK2 _ trivial))))
  ·refine R1 (by omega) (H5 (H03 (by omega) (R1 (by omega) (H5 (H03 (by decide) (H2 (Hb1 boxes j) (Hr (fun _=>?_) (fun _=>hK _ (ok _ _ _ _)))))))))
   exact H5 (H03 (by decide) (hK _ (ok _ _ _ _)))
def H0c:List Move→Int
 | []=>0
 | x::r=>G7d x+H0c r
theorem J1f (x:Move):∀ l:List Move,H0c (l++[x])=H0c l+G7d x
 | []=>by show G7d x+0=0+G7d x; omega
 | y::r=>by
  show G7d y+H0c (r++[x])=G7d y+H0c r+G7d x
  rw [J1f x r]; omega
theorem Q88 (x:Move):0≤G7d x∧G7d x≤1:=by unfold G7d; split <;> omega
theorem J40:∀ l:List Move,0≤H0c l∧H0c l≤(l.length:Int)
 | []=>⟨Int.le_refl _,Int.le_refl _⟩
 | x::r=>by
  have h1:=J40 r
  have h2:=Q88 x
  show 0≤G7d x+H0c r∧G7d x+H0c r≤_
  rw [List.length_cons]; omega
inductive Path (s:Gk) (boxes:List Box) (t0:St):List Move→St→Prop
 | nil:Path s boxes t0 [] t0
 | snoc {xs:List Move} {t:St} {x:Move}:Path s boxes t0 xs t→Good s boxes t→Can s boxes t x→Path s boxes t0 (xs++[x]) (nxt t x)
theorem Path.inv {s:Gk} {boxes:List Box} {t0:St} {l:List Move} {t:St} (h:Path s boxes t0 l t):(l=[]∧t=t0)∨∃ xs t1 x,l=xs++[x]∧Path s boxes t0 xs t1∧Good s boxes t1∧Can s boxes t1 x∧t=nxt t1 x:=by
 cases h with
 | nil=>exact .inl ⟨rfl,rfl⟩
 | snoc h1 h2 h3=>exact .inr ⟨_,_,_,rfl,h1,h2,h3,rfl⟩
theorem Q99:∀ (n:Nat) (xs:List Move) (x:Move),H2a n (xs++[x])=(((n+xs.length:Nat):Int),x)::H2a n xs
 | n,[],x=>rfl
 | n,a::r,x=>by
  show H2a (n+1) (r++[x])++[((n:Int),a)]=_
  rw [Q99 (n+1) r x]
  show (((n+1+r.length:Nat):Int),x)::(H2a (n+1) r++[((n:Int),a)])=_
  rw [show n+1+r.length=n+(a::r).length by rw [List.length_cons]; omega]
  rfl
theorem R7d {F:Nat} (hF:40≤F) (places:List Ha) (covers:Int) (drops:List Gu) (steps:List Hd) (hp:∀ p∈places,Jb0 p) (hd:∀ x∈drops,Qbd x) (hst:∀ x∈steps,R34 x) :
  Yw F places covers drops steps=some true:=by
 refine G83 ?_
 unfold Yw
 refine H2 Yda (Hr (fun h=>by cases h) (fun _=>?_))
 refine H5 (wp_mono (Y52 places covers drops hp hd) (fun r7 h7=>?_))
 obtain⟨hB,t0,htl,hto,hG0,hR0,hlf⟩:=h7
 refine H5 (Had (m:=min steps.length 30) (by omega) (by omega) ?_)
 have hlen:(steps.take (min steps.length 30)).length≤30:=by rw [List.length_take]; omega
 have hst':∀ x∈steps.take (min steps.length 30),R34 x:=fun x hx=>hst x (List.mem_of_mem_take hx)
 generalize steps.take (min steps.length 30)=st at hlen hst'
 refine Y3 (fun pre q=>∃ t,Path r7.1 r7.2.1 t0 q.1 t∧Good r7.1 r7.2.1 t∧H2d r7.1 r7.2.1 q.2 t∧q.2.lifts=H0c q.1∧q.1.length≤pre.length) ⟨t0,.nil,hG0,hR0,hlf,Nat.le_refl _⟩ (fun pre y post q nx e hI hnx=>?_) (fun q hI=>?_)
 ·obtain⟨t,hP,hG,hR,hl,hq⟩:=hI
  have hpl:pre.length < 30:=by have:=congrArg List.length e; simp only [List.length_append,List.length_cons] at this; omega
  have hb:=J40 q.1
  refine G7c (fun j=>∃ t,Path r7.1 r7.2.1 t0 j.1 t∧Good r7.1 r7.2.1 t∧H2d r7.1 r7.2.1 j.2 t∧j.2.lifts=H0c j.1∧j.1.length≤(pre++[y]).length) (fun K hK=>?_) (fun j hj=>hnx _ hj)
  refine H5 (wp_mono (Y50 hG hR (hst' y (by rw [e]; simp))) (fun x hx=>?_))
  refine H5 (wp_mono (Y27 hG hR (by omega) x) (fun r hr=>?_))
  rcases hr with ⟨hc,h0,hR',hl'⟩ | ⟨hc,h0,he⟩
  ·refine Hr (fun _=>?_) (fun h=>absurd h0 (of_decide_eq_false h))
   refine G06 (Ga7 (by rw [List.length_singleton]; omega) (by omega)) (hK _ ⟨nxt t x,.snoc hP hG hc,hc.step hG,hR',?_,?_⟩)
   ·show r.2.lifts=H0c (q.1++[x])
    rw [J1f]; omega
   ·simp only [List.length_append,List.length_singleton]; omega
  ·refine Hr (fun h=>absurd (of_decide_eq_true h) h0) (fun _=>hK _ ⟨t,hP,hG,by rw [he]; exact hR,by rw [he]; exact hl,by simp only [List.length_append,List.length_singleton]; omega⟩)
 ·obtain⟨t,hP,hG,hR,hl,hq⟩:=hI
  have hb:=J40 q.1
  refine H2 (show Z0 q.2=some q.2.lifts from rfl) (H2 (show Zp q.1=some () from rfl) ?_)
  have hback:Y5 F q.1=some (H2a 0 q.1):=by
   unfold Y5
   rw [decide_eq_true (show q.1.length < F∧q.1.length≤9223372036854775807 by omega),cond_true]
  refine H2 hback ?_
  refine Y3 (fun pre m=>∃ xs t,H2a 0 q.1=pre++H2a 0 xs∧Path r7.1 r7.2.1 t0 xs t∧Good r7.1 r7.2.1 t∧H2d r7.1 r7.2.1 m t∧0≤m.lifts∧m.lifts+H0c xs=2*q.2.lifts) ⟨q.1,t,rfl,hP,hG,hR,by omega,by omega⟩ (fun pre y post m nx e hI hnx=>?_) (fun m hI=>?_)
  ·obtain⟨xs,t,e1,hP,hG,hR,hl0,hl2⟩:=hI
   have e2:H2a 0 xs=y::post:=List.append_cancel_left (e1.symm.trans e)
   rcases hP.inv with ⟨rfl,_⟩ | ⟨xs1,t1,x,rfl,hP1,hG1,hC1,rfl⟩
   ·cases e2
   ·rw [Q99] at e2 e1
    have e3:y.2=x:=by rw [← (List.cons.inj e2).1]
    have hk:1≤x.Kind∧x.Kind≤4:=by
     rcases hC1 with h | h | h | h <;> omega
    have hw:IntKind.u8.wrap (5 - x.Kind)=5 - x.Kind:=by
     show (5 - x.Kind) % 256=_
     exact Int.emod_eq_of_lt (by omega) (by omega)
    obtain⟨hC2,hN2⟩:=hC1.back hG1
    rw [J1f] at hl2
    have hb1:=J40 xs1
    have hb2:=Q88 x
    have hm:0≤m.lifts∧m.lifts≤1000000:=by omega
    rw [e3,hw]
    refine H5 (wp_mono (Y27 hG hR hm (opp x)) (fun r hr=>?_))
    rcases hr with ⟨hc,h0,hR',hl'⟩ | ⟨hc,h0,he⟩
    ·refine Hr (fun h=>absurd h0 (of_decide_eq_true h)) (fun _=>hnx _ ⟨xs1,t1,?_,hP1,hG1,by rw [← hN2]; exact hR',?_,?_⟩)
     ·rw [e1,← (List.cons.inj e2).1]; simp
     ·have:=Q88 (opp x)
      omega
     ·have:G7d (opp x)=G7d x:=by
       unfold G7d
       show (if 5 - x.Kind=2∨5 - x.Kind=3 then (1:Int) else 0)=_
       by_cases h:x.Kind=2∨x.Kind=3
       ·rw [if_pos h,if_pos (by omega)]
       ·rw [if_neg h,if_neg (by omega)]
      rw [hl',this]; omega
    ·exact(hc hC2).elim
  ·obtain⟨xs,t,e1,hP,hG,hR,hl0,hl2⟩:=hI
   have hnil:xs=[]:=by
    have h5:=congrArg List.length e1
    rw [List.length_append,Gab 0 xs] at h5
    exact List.eq_nil_of_length_eq_zero (by omega)
   subst hnil
   rcases hP.inv with ⟨_,rfl⟩ | ⟨_,_,_,e2,_⟩
   ·have hl2:m.lifts+0=2*q.2.lifts:=hl2
    refine H2 (R68 hG hR) ?_
    rw [htl]
    refine H2 (Re4 _) (H2 (Yc5 hG hR) ?_)
    rw [hto]
    refine H2 (show Z0 m=some m.lifts from rfl) (H5 (R1 (by omega) (Gj (Gj ?_))))
    show (true&&decide (m.lifts=2*q.2.lifts))=true
    rw [Bool.true_and,decide_eq_true_eq]
    omega
   ·have:=congrArg List.length e2
    rw [List.length_append] at this
    simp at this
theorem Rf1 (places:List Ha) (covers:Int) (drops:List Gu) (steps:List Hd) (hp:∀ p∈places,Jb0 p) (hd:∀ x∈drops,Qbd x) (hst:∀ x∈steps,R34 x) :
  Yw 60 places covers drops steps=some true:=R7d (by decide) places covers drops steps hp hd hst
end Go.Proofs.YtidpfkmbfgihlaaGreat
