/-
 MovesCalls: the parts of a state and their orders. MovesCalls: the reference's lifts,in order.
-/
import Derived.Test.YteogacmpgdpjlaaGreatLawT
set_option maxRecDepth 100000
set_option linter.unusedVariables false
namespace Go.Proofs.YteogacmpgdpjlaaGreat
open Go.RowKit

section
variable {s:H8} {boxes:List H2} {l:List G6} {lifted:List Int} {bay:Int} {deck:Bool}
theorem R0.slots (h:R0 s boxes l):l.Pairwise (fun a b=>Ga2 a b < 0∨Ga2 b a < 0):=h.apart.imp (fun {a b} h=>by
 rw [Gb2,Gb2]
 refine Classical.byContradiction fun hn=>h ⟨by omega,by omega,.inl (by omega)⟩)
theorem R0.part (h:R0 s boxes l) (hl:l.length≤1000):G45 s l lifted bay deck=some (Gb5 Ga2 (l.filter (Qw s lifted bay deck))):=by
 unfold G45
 have h1:(l.all (fun x=>(Ga5 s x).isSome))=true:=List.all_eq_true.2 (fun x hx=>by
  obtain⟨b,_,hb,_⟩:=h.each x hx
  obtain⟨m,c,e1,e2,_⟩:=hb.col
  unfold Ga5
  rw [decide_eq_true (by omega),cond_true,show x.Slot.G4.toNat=m by omega,e2]
  rfl)
 rw [h1,decide_eq_true hl,decide_eq_true (h.slots.filter (Qw s lifted bay deck))]
 rfl
theorem R0.apart2 (h:R0 s boxes l):∀ a∈l.filter (Qw s lifted bay deck),∀ b∈l.filter (Qw s lifted bay deck),¬ Ga2 a b < 0→¬ Ga2 b a < 0→a=b:=fun a ha b hb n1 n2=>by
 obtain⟨i,hi,rfl⟩:=List.mem_iff_getElem.1 ha
 obtain⟨j,hj,rfl⟩:=List.mem_iff_getElem.1 hb
 have hp:=List.pairwise_iff_getElem.1 (h.slots.filter (Qw s lifted bay deck))
 rcases Nat.lt_trichotomy i j with g | g | g
 ·exact((hp i j hi hj g).elim n1 n2).elim
 ·subst g; rfl
 ·exact((hp j i hj hi g).elim n2 n1).elim
end
theorem Q3d {α:Type} {c c':α→α→Int} {x:α}:∀ (rp mid:List α),(∀ y∈rp,c x y < 0 ↔ c' x y < 0)→J40 c x rp mid=J40 c' x rp mid
 | [],mid,_=>rfl
 | p::rp,mid,h=>by
  unfold J40
  by_cases hp:c x p < 0
  ·rw [if_pos hp,if_pos ((h p (List.mem_cons_self ..)).1 hp)]
   exact Q3d rp (p::mid) (fun y hy=>h y (List.mem_cons_of_mem _ hy))
  ·rw [if_neg hp,if_neg (fun g=>hp ((h p (List.mem_cons_self ..)).2 g))]
theorem J88 {α:Type} {c c':α→α→Int}:∀ (t d:List α),(∀ x∈t,∀ y∈d,c x y < 0 ↔ c' x y < 0)→t.Pairwise (fun y x=>c x y < 0 ↔ c' x y < 0)→H0e c d t=H0e c' d t
 | [],d,_,_=>rfl
 | x::t,d,h1,h2=>by
  unfold H0e
  rw [Q3d (c':=c') d.reverse [] (fun y hy=>h1 x (List.mem_cons_self ..) y (List.mem_reverse.1 hy))]
  obtain⟨g1,g2⟩:=List.pairwise_cons.1 h2
  refine J88 t _ (fun z hz y hy=>?_) g2
  have hm:=(J36 c' x d.reverse []).mem_iff.1 hy
  rw [List.reverse_reverse,List.mem_append,List.mem_singleton] at hm
  rcases hm with hm | rfl
  ·exact h1 z (List.mem_cons_of_mem _ hz) y hm
  ·exact g1 z hz
theorem isrt_congr {α:Type} {c c':α→α→Int} {l:List α} (h:l.Pairwise (fun y x=>c x y < 0 ↔ c' x y < 0)):Gb5 c l=Gb5 c' l:=J88 l [] (fun x _ y hy=>(List.not_mem_nil hy).elim) h
def acmp (a b:G6):Int:=H9e b.Slot.Tier a.Slot.Tier
theorem above_cmp (a b:G6):G17 a b=some (acmp a b):=by
 simp only [G17,J8e,bnd]; rfl
theorem sort_stable {F:Nat} {x:List G6} {cmp:G6→G6→Option Int} {c:G6→G6→Int} (hc:∀ a b,cmp a b=some (c a b)) (hF:30≤F) (hl:x.length≤19):R2 F x cmp=some (Gb5 c x):=by
 unfold R2 Yh
 obtain⟨F,rfl⟩:∃ m,F=m+1:=⟨F - 1,by omega⟩
 rw [loop]
 generalize loop _ F=k
 simp only
 rw [decide_eq_false (by omega),cond_false]
 have:=isortM_eq (F:=F+1) hc (data:=x) (b:=(x.length:Int)) rfl (by omega) (by omega)
 rw [show Qc (F+1) x 0 (x.length:Int) cmp=some (Gb5 c x) from this]
 simp only [bnd]
 rw [loop]
 generalize loop _ F=k2
 rw [decide_eq_false (by omega),cond_false]
/-- From above: the highest tier first, then the slot. -/
def J8c (a b:G6):Int:=orI [H9e b.Slot.Tier a.Slot.Tier,scmp a.Slot b.Slot]
theorem H1c (a b:G6):J8c a b < 0 ↔ b.Slot.Tier < a.Slot.Tier∨(a.Slot.Tier=b.Slot.Tier∧(a.Slot.G4 < b.Slot.G4∨(a.Slot.G4=b.Slot.G4∧a.Slot.Half < b.Slot.Half))):=by
 unfold J8c
 rw [He0,He0,G99,H11,Jfa]
 simp only [orI,Int.lt_irrefl,and_false,or_false]
 omega
theorem Q43:Q50 J8c where
 asym x y:=by rw [H1c,H1c]; omega
 ntrans x y z:=by rw [H1c,H1c,H1c]; omega
theorem above_eq {F:Nat} {ys:List G6} (hu:∀ a∈ys,∀ b∈ys,¬ Ga2 a b < 0→¬ Ga2 b a < 0→a=b) (hF:30≤F) (hl:ys.length≤19):G3b F (Gb5 Ga2 ys)=some (Gb5 J8c ys):=by
 unfold G3b
 rw [sort_stable above_cmp hF (by rw [J13]; exact hl)]
 show some (Gb5 acmp (Gb5 Ga2 ys))=_
 congr 1
 rw [isrt_congr (c':=J8c) ((Ga3 J63 ys).imp (fun {y x} h=>by
  have h:¬ Ga2 x y < 0:=h
  rw [Gb2] at h
  unfold acmp
  rw [G99,H1c]
  omega))]
 exact Jd9 Q43 (fun a ha b hb n1 n2=>hu a ha b hb (by rw [H1c] at n1 n2; rw [Gb2]; omega) (by rw [H1c] at n1 n2; rw [Gb2]; omega)) (G95 Ga2 ys)
/-- The moves of boxes, and of covers. -/
def mvB (kind:Int) (x:G6):Move:=Move.mk kind x.H2 x.Slot 0
def mvC (kind:Int) (k:Int):Move:=Move.mk kind 0 (Slot.mk 0 0 0) k
theorem He8 {kind:Int} {l:List G6} {p:List Move} (h:p.length+l.length≤1000000):G35 kind l p=some (p++l.map (mvB kind)):=by
 refine G38 ?_
 unfold G35
 refine Q3 (fun pre st=>st=p++pre.map (mvB kind)) (by simp) (fun pre y post st nx e hI hnx=>?_) (fun st hI=>Gn hI)
 subst hI
 have hp:pre.length < l.length:=by rw [e]; simp
 refine Qy (H06 (by rw [List.length_append,List.length_map,List.length_singleton]; omega) (by omega)) (hnx _ ?_)
 rw [List.map_append,List.append_assoc]; rfl
theorem Je2 {kind:Int} {l:List Int} {p:List Move} (h:p.length+l.length≤1000000):G77 kind l p=some (p++l.map (mvC kind)):=by
 refine G38 ?_
 unfold G77
 refine Q3 (fun pre st=>st=p++pre.map (mvC kind)) (by simp) (fun pre y post st nx e hI hnx=>?_) (fun st hI=>Gn hI)
 subst hI
 have hp:pre.length < l.length:=by rw [e]; simp
 refine Qy (H06 (by rw [List.length_append,List.length_map,List.length_singleton]; omega) (by omega)) (hnx _ ?_)
 rw [List.map_append,List.append_assoc]; rfl
/-- The order of the boxes of a part, by the kind of move. -/
def cK (kind:Int):G6→G6→Int:=bif decide (kind=2) then J8c else Ga2
theorem H62 (kind:Int):Q50 (cK kind):=by
 unfold cK
 cases decide (kind=2)
 ·exact J63
 ·exact Q43
theorem cK_total (kind:Int) {a b:G6} (n1:¬ cK kind a b < 0) (n2:¬ cK kind b a < 0):¬ Ga2 a b < 0∧¬ Ga2 b a < 0:=by
 unfold cK at n1 n2
 cases hk:decide (kind=2) with
 | false=>rw [hk,cond_false] at n1 n2; exact⟨n1,n2⟩
 | true=>
  rw [hk,cond_true] at n1 n2
  rw [H1c] at n1 n2
  rw [Gb2,Gb2]
  omega
theorem slot_less (a b:Slot):Zc a b=some (decide (scmp a b < 0)):=by
 unfold Zc
 have h:=Jfa a b
 by_cases h1:a.G4=b.G4
 ·rw [decide_eq_false (by omega:¬ a.G4≠b.G4),cond_false]
  by_cases h2:a.Tier=b.Tier
  ·rw [decide_eq_false (by omega:¬ a.Tier≠b.Tier),cond_false]
   congr 1; rw [decide_eq_decide,h]; omega
  ·rw [decide_eq_true (by omega:a.Tier≠b.Tier),cond_true]
   congr 1; rw [decide_eq_decide,h]; omega
 ·rw [decide_eq_true (by omega:a.G4≠b.G4),cond_true]
  congr 1; rw [decide_eq_decide,h]; omega
theorem ref_compare (a b:Slot):∃ r,Zh a b=some r∧(r < 0 ↔ scmp a b < 0):=by
 unfold Zh
 rw [slot_less,slot_less]
 by_cases h1:scmp a b < 0
 ·rw [decide_eq_true h1]; exact⟨-1,rfl,by omega⟩
 ·rw [decide_eq_false h1]
  by_cases h2:scmp b a < 0
  ·rw [decide_eq_true h2]; exact⟨1,rfl,by omega⟩
  ·rw [decide_eq_false h2]; exact⟨0,rfl,by omega⟩
theorem ref_earlier (kind:Int) (a b:G6):Zg a b (decide (kind=2))=some (decide (cK kind a b < 0)):=by
 unfold Zg cK
 have he:=H1c a b
 have hp:=Gb2 a b
 have hs:=Jfa a.Slot b.Slot
 by_cases h1:a.Slot.Tier=b.Slot.Tier
 ·rw [decide_eq_false (by omega:¬ a.Slot.Tier≠b.Slot.Tier),cond_false]
  obtain⟨r,e,hr⟩:=ref_compare a.Slot b.Slot
  rw [e]
  show some (decide (r < 0))=_
  congr 1
  rw [decide_eq_decide,hr]
  cases decide (kind=2)
  ·rw [cond_false,hp,hs]; omega
  ·rw [cond_true,he,hs]; omega
 ·rw [decide_eq_true (by omega:a.Slot.Tier≠b.Slot.Tier),cond_true]
  congr 1
  cases decide (kind=2)
  ·rw [cond_false,beq_false,Bool.eq_iff_iff,Bool.not_eq_true',decide_eq_false_iff_not,decide_eq_true_eq,hp]; omega
  ·rw [cond_true,beq_true,decide_eq_decide,he]; omega
theorem ref_among (l:List Int) (n:Int):Y2 l n=some (l.any (fun y=>decide (n=y))):=by
 unfold Y2
 have key:∀ (l:List Int) (i:Nat),each (fun(y17:Int) (_:Nat) (_:Unit) nx17=>bif decide (y17=n) then some true else nx17 ()) (fun(_:Unit)=>some false) l i ()=some (l.any (fun y=>decide (n=y))):=by
  intro l
  induction l with
  | nil=>intro i; rfl
  | cons x r ih=>
   intro i
   rw [each,List.any_cons,ih]
   by_cases h:x=n
   ·rw [decide_eq_true h,decide_eq_true h.symm]; rfl
   ·rw [decide_eq_false h,decide_eq_false (fun e=>h e.symm)]; rfl
 exact key l 0
end Go.Proofs.YteogacmpgdpjlaaGreat
set_option maxRecDepth 100000
set_option linter.unusedVariables false
namespace Go.Proofs.YteogacmpgdpjlaaGreat
open Go.RowKit

section
variable {s:H8} {boxes:List H2} {l:List G6} {lifted:List Int} {bay:Int} {deck:Bool}
theorem pick30 {β:Type} {Q:β→Prop} {y:G6} {used:List Bool} {i:Nat} {u:Bool} {c:G4} {K1 K2:Option β} (hc:Ga5 s y=some c) (hu:used[i]? = some u)
  (h1:¬ (u=false∧Qw s lifted bay deck y=true)→Wp K1 Q) (h2:u=false→Qw s lifted bay deck y=true→Wp K2 Q) :
  Wp (Jc s.Columns y.Slot.G4 fun y56=>
    Jc used (i:Int) fun y60=>
    bnd (bif (!((y60||(decide (y56.Bay≠bay)))||(!(y56.Deck==deck)))) then Y2 lifted y.H2 else some default) fun r61=>
    bif (((y60||(decide (y56.Bay≠bay)))||(!(y56.Deck==deck)))||(!r61)) then K1 else K2) Q:=by
 have hin:Qw s lifted bay deck y=((decide (c.Bay=bay)&&(c.Deck==deck))&&lifted.any (fun z=>decide (y.H2=z))):=by unfold Qw; rw [hc]
 unfold Ga5 at hc
 by_cases h0:0≤y.Slot.G4
 ·rw [decide_eq_true h0,cond_true] at hc
  refine G43 (m:=y.Slot.G4.toNat) (by omega) hc (G43 rfl hu ?_)
  rw [show decide (c.Bay≠bay)=!(decide (c.Bay=bay)) by by_cases h:c.Bay=bay <;> simp [h]]
  cases hq:((u||!(decide (c.Bay=bay)))||!(c.Deck==deck)) with
  | true=>
   refine H5 (Hm (fun h=>by cases h) (fun _=>Gn (Hm (fun _=>h1 (fun⟨a,b⟩=>?_)) (fun h=>by cases h))))
   rw [hin] at b
   simp only [Bool.and_eq_true] at b
   rw [a,b.1.1,b.1.2] at hq; cases hq
  | false=>
   simp only [Bool.or_eq_false_iff,Bool.not_eq_false'] at hq
   obtain⟨⟨q1,q2⟩,q3⟩:=hq
   refine H5 (Hm (fun _=>⟨_,ref_among lifted y.H2,?_⟩) (fun h=>by cases h))
   rw [q2,q3] at hin
   refine Hm (fun h=>h1 (fun⟨a,b⟩=>?_)) (fun h=>h2 q1 ?_)
   ·rw [hin] at b
    simp only [Bool.and_self,Bool.true_and] at b
    rw [b] at h; cases h
   ·rw [hin]
    simpa using h
 ·rw [decide_eq_false h0,cond_false] at hc; cases hc
theorem R0.col (h:R0 s boxes l) {x:G6} (hx:x∈l):∃ c,Ga5 s x=some c:=by
 obtain⟨b,_,hb,_⟩:=h.each x hx
 obtain⟨m,c,e1,e2,_⟩:=hb.col
 refine⟨c,?_⟩
 unfold Ga5
 rw [decide_eq_true (by omega),cond_true,show x.Slot.G4.toNat=m by omega,e2]
theorem R0.at (h:R0 s boxes l) {i j:Nat} {x:G6} (hi:l[i]? = some x) (hj:l[j]? = some x):i=j:=by
 obtain⟨a1,a2⟩:=List.getElem?_eq_some_iff.1 hi
 obtain⟨b1,b2⟩:=List.getElem?_eq_some_iff.1 hj
 have hp:=List.pairwise_iff_getElem.1 h.sorted
 rcases Nat.lt_trichotomy i j with g | g | g
 ·have:=hp i j a1 b1 g; rw [a2,b2] at this; omega
 ·exact g
 ·have:=hp j i b1 a1 g; rw [a2,b2] at this; omega
/-- The boxes that were told, in order; the others come later. -/
structure LInvU (s:H8) (lifted:List Int) (bay:Int) (deck:Bool) (kind:Int) (l done:List G6) (used:List Bool):Prop where
 len:used.length=l.length
 sorted:done.Pairwise (fun a b=>cK kind a b < 0)
 sub:∀ x∈done,x∈l∧Qw s lifted bay deck x=true
 mark:∀ (i:Nat) x,l[i]? = some x→Qw s lifted bay deck x=true→(used[i]? = some true ↔ x∈done)
 rest:∀ x∈l,Qw s lifted bay deck x=true→x ∉ done→∀ d∈done,cK kind d x < 0
theorem LInvU.dlen {kind:Int} {done:List G6} {used:List Bool} (h:LInvU s lifted bay deck kind l done used):done.length≤l.length:=by
 have hn:done.Nodup:=by
  rw [List.nodup_iff_pairwise_ne]
  exact h.sorted.imp (fun h e=>by subst e; exact(H62 kind).asym _ _ h h)
 exact hn.length_le_of_subset (fun x hx=>(h.sub x hx).1)
theorem J2f {F:Nat} {kind:Int} (h:R0 s boxes l) (hl:l.length≤14) (hF:30≤F):Jz F s l lifted bay deck kind=some ((Gb5 (cK kind) (l.filter (Qw s lifted bay deck))).map (mvB kind)):=by
 refine G38 ?_
 unfold Jz
 refine Gy (natOfI (n:=l.length) rfl) (Qy (decide_eq_true ⟨by omega,by unfold maxLen; omega,by omega⟩) ?_)
 refine wp_loop (fun st:List Move×List Bool=>∃ done,st.1=done.map (mvB kind)∧LInvU s lifted bay deck kind l done st.2) (fun st=>l.length - st.1.length)
  ⟨[],rfl,⟨by simp,List.Pairwise.nil,fun x hx=>(List.not_mem_nil hx).elim,fun i x hi _=>⟨fun h=>(by
   rw [List.getElem?_replicate] at h
   split at h
   ·cases h
   ·cases h),fun h=>(List.not_mem_nil h).elim⟩,fun x _ _ _ d hd=>(List.not_mem_nil hd).elim⟩⟩ (by simp only [List.length_nil]; omega) (fun st nx hI hnx=>?_)
 obtain⟨out,used⟩:=st
 obtain⟨done,ho,hI⟩:=hI
 simp only at ho hI hnx ⊢
 subst ho
 have hdl:=hI.dlen
 -- boxes that may come next
 let cand:G6→Prop:=fun x=>Qw s lifted bay deck x=true∧x ∉ done
 refine Q3 (fun pre (b:Int)=>(b = -1∧∀ x∈pre,¬ cand x)∨(∃ (m:Nat) (x:G6),b=(m:Int)∧l[m]? = some x∧cand x∧∀ y∈pre,cand y→¬ cK kind y x < 0)) (.inl ⟨rfl,fun x hx=>(List.not_mem_nil hx).elim⟩) (fun pre y post b nx2 e hJ hnx2=>?_) (fun b hJ=>?_)
 ·have hy:l[pre.length]? = some y:=by rw [e]; simp
  have hpl:pre.length < l.length:=by rw [e]; simp
  obtain⟨c,hc⟩:=h.col (List.mem_of_getElem? hy)
  obtain⟨u,hu⟩:∃ u,used[pre.length]? = some u:=⟨_,List.getElem?_eq_getElem (by rw [hI.len]; exact hpl)⟩
  have hcand:(u=false∧Qw s lifted bay deck y=true) ↔ cand y:=by
   constructor
   ·intro ⟨a,b⟩
    refine⟨b,fun hd=>?_⟩
    have:=(hI.mark pre.length y hy b).2 hd
    rw [hu,a] at this; cases this
   ·intro ⟨a,b⟩
    refine⟨?_,a⟩
    cases u with
    | false=>rfl
    | true=>exact(b ((hI.mark pre.length y hy a).1 hu)).elim
  refine G82 (fun b:Int=>(b = -1∧∀ x∈pre++[y],¬ cand x)∨(∃ (m:Nat) (x:G6),b=(m:Int)∧l[m]? = some x∧cand x∧∀ z∈pre++[y],cand z→¬ cK kind z x < 0)) (fun K hK=>?_) (fun j hj=>hnx2 _ hj)
  refine pick30 hc hu (fun hn=>hK _ ?_) (fun a1 a2=>?_)
  ·have hn:¬ cand y:=fun hh=>hn (hcand.2 hh)
   rcases hJ with ⟨j1,j2⟩ | ⟨m,x,j1,j2,j3,j4⟩
   ·exact .inl ⟨j1,Q1 (P:=fun x:G6=>¬ cand x) j2 hn⟩
   ·exact .inr ⟨m,x,j1,j2,j3,Q1 (P:=fun z:G6=>cand z→¬ cK kind z x < 0) j4 (fun hh=>(hn hh).elim)⟩
  ·have hcy:=hcand.1 ⟨a1,a2⟩
   have hirr:¬ cK kind y y < 0:=fun hh=>(H62 kind).asym _ _ hh hh
   rcases hJ with ⟨j1,j2⟩ | ⟨m,x,j1,j2,j3,j4⟩
   ·subst j1
    rw [decide_eq_true (by omega:(-1:Int) < 0)]
    refine H5 (Hm (fun h=>by cases h) (fun _=>Gn (H5 (Hm (fun h=>by cases h) (fun _=>Gn (Hm (fun _=>hK _ (.inr ⟨pre.length,y,rfl,hy,hcy,Q1 (P:=fun z:G6=>cand z→¬ cK kind z y < 0) (fun z hz hcz=>(j2 z hz hcz).elim) (fun _=>hirr)⟩)) (fun h=>by cases h)))))))
   ·subst j1
    rw [decide_eq_false (by omega:¬ (m:Int) < 0)]
    refine H5 (Hm (fun _=>G43 rfl j2 (Gn (H5 (Hm (fun _=>⟨_,ref_earlier kind y x,?_⟩) (fun h=>by cases h))))) (fun h=>by cases h))
    show Wp (bif (false||decide (cK kind y x < 0)) then K (pre.length:Int) else K (m:Int)) _
    rw [Bool.false_or]
    refine Hm (fun hlt=>hK _ (.inr ⟨pre.length,y,rfl,hy,hcy,Q1 (P:=fun z:G6=>cand z→¬ cK kind z y < 0) (fun z hz hcz hzy=>?_) (fun _=>hirr)⟩)) (fun hge=>hK _ (.inr ⟨m,x,rfl,j2,j3,Q1 (P:=fun z:G6=>cand z→¬ cK kind z x < 0) j4 (fun _=>of_decide_eq_false hge)⟩))
    -- z before y before x
    have hlt:=of_decide_eq_true hlt
    exact(H62 kind).ntrans y x z ((H62 kind).asym _ _ hlt) (j4 z hz hcz) hzy
 ·rcases hJ with ⟨j1,j2⟩ | ⟨m,x,j1,j2,j3,j4⟩
  ·subst j1
   rw [decide_eq_true (by omega:(-1:Int) < 0),cond_true]
   refine Gn ?_
   congr 1
   have hmem:∀ x,x∈done ↔ x∈l.filter (Qw s lifted bay deck):=fun x=>by
    rw [List.mem_filter]
    refine⟨fun hx=>hI.sub x hx,fun⟨hx,hp⟩=>Classical.byContradiction fun hn=>j2 x hx ⟨hp,hn⟩⟩
   have hsrt:=Ga3 (H62 kind) (l.filter (Qw s lifted bay deck))
   have hnd:done.Nodup:=by
    rw [List.nodup_iff_pairwise_ne]
    exact hI.sorted.imp (fun h e=>by subst e; exact(H62 kind).asym _ _ h h)
   have hnd2:(Gb5 (cK kind) (l.filter (Qw s lifted bay deck))).Nodup:=by
    refine((G95 (cK kind) _).nodup_iff).2 ?_
    rw [List.nodup_iff_pairwise_ne]
    exact(h.sorted.filter _).imp (fun h e=>by rw [e] at h; omega)
   refine List.Perm.eq_of_pairwise (le:=leOf (cK kind)) (fun a b ha hb h1 h2=>?_) (hI.sorted.imp (fun h=>(H62 kind).asym _ _ h)) hsrt ((List.perm_ext_iff_of_nodup hnd hnd2).2 (fun x=>(hmem x).trans (Ga4 (c:=cK kind)).symm))
   have:=cK_total kind h2 h1
   exact h.apart2 a ((hmem a).1 ha) b (Ga4.1 hb) this.1 this.2
  ·subst j1
   rw [decide_eq_false (by omega:¬ (m:Int) < 0),cond_false]
   have hml:m < l.length:=(List.getElem?_eq_some_iff.1 j2).1
   obtain⟨u,hu⟩:∃ u,used[m]? = some u:=⟨_,List.getElem?_eq_getElem (by rw [hI.len]; exact hml)⟩
   refine G43 rfl hu (G43 rfl j2 (G43 rfl j2 ?_))
   have hxm:x∈l:=List.mem_of_getElem? j2
   have hI':LInvU s lifted bay deck kind l (done++[x]) (used.set m true):=by
    refine⟨by rw [List.length_set]; exact hI.len,H1b hI.sorted (fun d hd=>hI.rest x hxm j3.1 j3.2 d hd),Q1 hI.sub ⟨hxm,j3.1⟩,fun i z hi hp=>?_,fun z hz hp hn d hd=>?_⟩
    ·rw [List.getElem?_set,List.mem_append,List.mem_singleton]
     by_cases him:m=i
     ·subst him
      rw [j2] at hi; cases hi
      rw [if_pos rfl,if_pos (by rw [hI.len]; exact hml)]
      exact⟨fun _=>.inr rfl,fun _=>rfl⟩
     ·rw [if_neg him,hI.mark i z hi hp]
      exact⟨.inl,fun hh=>hh.elim (fun g=>g) (fun g=>by subst g; exact(him (h.at j2 hi)).elim)⟩
    ·rw [List.mem_append,List.mem_singleton,not_or] at hn
     rcases List.mem_append.1 hd with hd | hd
     ·exact hI.rest z hz hp hn.1 d hd
     ·rw [List.mem_singleton] at hd
      subst hd
      refine Classical.byContradiction fun g=>hn.2 ?_
      have:=cK_total kind (j4 z hz ⟨hp,hn.1⟩) g
      exact h.apart2 z (List.mem_filter.2 ⟨hz,hp⟩) d (List.mem_filter.2 ⟨hxm,j3.1⟩) this.1 this.2
   have hdl2:=hI'.dlen
   rw [List.length_append,List.length_singleton] at hdl2
   refine Qy (H06 (by rw [List.length_map,List.length_singleton]; omega) (by omega)) (hnx _ ⟨done++[x],by rw [List.map_append]; rfl,?_⟩ ?_)
   ·show LInvU s lifted bay deck kind l (done++[x]) (used.set (m:Int).toNat true)
    rw [show (m:Int).toNat=m by omega]; exact hI'
   ·simp only [List.length_append,List.length_map,List.length_singleton]; omega
end
end Go.Proofs.YteogacmpgdpjlaaGreat
