/-
 What is reached for,of the states that the chapter's statements make. What the functions of the chapter on blocked boxes return,of the states that its statements make. BlockTells: what the functions of the chapter on blocked boxes return,of any state that is right.
-/
import Derived.Test.YthcpolfodgjekaaGreatStowC
set_option maxRecDepth 100000
set_option linter.unusedVariables false
namespace Go.Proofs.YthcpolfodgjekaaGreat
open Go.RowKit
theorem G64.mem {s:H2} {l:List Stowed} {ids r:List Int} (h:G64 s l ids r) (hi:∀ a∈ids,a∈l.map (·.Gg)):∀ a∈r,a∈l.map (·.Gg):=
 h.least (·∈l.map (·.Gg)) (fun a b _ hp=>by
  obtain⟨x,_,_,y,hy,e,_⟩:=hp
  exact List.mem_map.2 ⟨y,hy,e⟩) hi
theorem G64.mono {s:H2} {l:List Stowed} {ids ids' r r':List Int} (h:G64 s l ids r) (h':G64 s l ids' r') (hi:∀ a∈ids,a∈ids'):∀ a∈r,a∈r':=
 h.least (·∈r') (fun a b ha hp=>h'.closed a ha b hp) (fun a ha=>h'.seeds a (hi a ha))
theorem G64.len {s:H2} {l:List Stowed} {ids r:List Int} (h:G64 s l ids r) (hi:∀ a∈ids,a∈l.map (·.Gg)):r.length≤l.length:=by
 have:=(H93 h.sorted).length_le_of_subset (fun a ha=>h.mem hi a ha)
 simpa using this
end Go.Proofs.YthcpolfodgjekaaGreat
set_option maxRecDepth 100000
set_option linter.unusedVariables false
namespace Go.Proofs.YthcpolfodgjekaaGreat
open Go.RowKit
/-! ### Boxes with a call at which they leave -/
/-! ### Who is in the way -/
def G16 (boxes:List Gg) (id:Int):Int:=match G3a boxes id with
 | some b=>b.Discharge
 | none=>0
theorem Gb9 (boxes:List Gg) (id:Int):Jp boxes id=some (G16 boxes id):=by
 unfold Jp G16
 rw [J65]
 cases G3a boxes id <;> rfl
def RcS (s:H2) (l:List Stowed) (ids:List Int) (b:Int):Prop:=∀ C:Int→Prop,(∀ a b,C a→Pl s l a b→C b)→(∀ a∈ids,C a)→C b
theorem G64.iff {s:H2} {l:List Stowed} {ids r:List Int} (h:G64 s l ids r) {b:Int}:b∈r ↔ RcS s l ids b:=
 ⟨fun hb C h1 h2=>h.least C h1 h2 b hb,fun hb=>hb (·∈r) (fun a b ha hp=>h.closed a ha b hp) h.seeds⟩
theorem RcS.one {s:H2} {l:List Stowed} {ids:List Int} {b:Int}:RcS s l ids b ↔ ∃ a∈ids,RcS s l [a] b:=by
 constructor
 ·intro h
  refine h (fun b=>∃ a∈ids,RcS s l [a] b) (fun a b ⟨c,hc,hr⟩ hp=>⟨c,hc,fun C h1 h2=>h1 a b (hr C h1 h2) hp⟩) (fun a ha=>⟨a,ha,fun C _ h2=>h2 a (by simp)⟩)
 ·rintro⟨a,ha,h⟩ C h1 h2
  exact h C h1 (fun b hb=>by rw [List.mem_singleton] at hb; rw [hb]; exact h2 a ha)
theorem RcS.step {s:H2} {l:List Stowed} {ids:List Int} {a b:Int} (h:RcS s l ids a) (hp:Pl s l a b):RcS s l ids b:=fun C h1 h2=>h1 a b (h C h1 h2) hp
theorem RcS.G0a {s:H2} {l:List Stowed} {ids:List Int} {b:Int} (h:RcS s l ids b) (hi:∀ a∈ids,a∈l.map (·.Gg)):b∈l.map (·.Gg):=
 h (·∈l.map (·.Gg)) (fun a b _ hp=>by
  obtain⟨x,_,_,y,hy,e,_⟩:=hp
  exact List.mem_map.2 ⟨y,hy,e⟩) hi
open Classical in
noncomputable def J70 (s:H2) (boxes:List Gg) (l:List Stowed) (id:Int):List Int:=
 (l.filter (fun x=>decide (x.Gg≠id∧G16 boxes x.Gg < G16 boxes id∧RcS s l [x.Gg] id))).map (·.Gg)
theorem mem_blkL {s:H2} {boxes:List Gg} {l:List Stowed} {id b:Int}:b∈J70 s boxes l id ↔ b∈l.map (·.Gg)∧b≠id∧G16 boxes b < G16 boxes id∧RcS s l [b] id:=by
 unfold J70
 simp only [List.mem_map,List.mem_filter,decide_eq_true_eq]
 constructor
 ·rintro⟨x,⟨hx,h⟩,rfl⟩
  exact⟨⟨x,hx,rfl⟩,h⟩
 ·rintro⟨⟨x,hx,rfl⟩,h⟩
  exact⟨x,⟨hx,h⟩,rfl⟩
theorem block_on (l:List Stowed) (id:Int):Ge4 l id=some (decide (id∈l.map (·.Gg))):=by
 have h:=H74 (p:=fun y:Stowed=>decide (y.Gg=id)) (f:=fun z0=>G9a z0 id) (xs:=l) (fun y _=>rfl)
 have e:Ro l (fun z0=>G9a z0 id)=some (H9c (fun y:Stowed=>decide (y.Gg=id)) l):=h
 unfold Ge4 R1
 refine Zz (Hs (H1 e (Gt (Gt ?_))))
 rw [Hce,Bool.eq_iff_iff,List.any_eq_true,decide_eq_true_eq,List.mem_map]
 exact⟨fun⟨y,hy,h⟩=>⟨y,hy,of_decide_eq_true h⟩,fun⟨y,hy,h⟩=>⟨y,hy,decide_eq_true h⟩⟩
end Go.Proofs.YthcpolfodgjekaaGreat
set_option maxRecDepth 100000
set_option linter.unusedVariables false
namespace Go.Proofs.YthcpolfodgjekaaGreat
open Go.RowKit

theorem contains_iff {o:List Int} {v:Int}:o.any (fun y=>decide (v=y))=true ↔ v∈o:=by
 rw [List.any_eq_true]
 exact⟨fun⟨y,hy,h⟩=>by rw [of_decide_eq_true h]; exact hy,fun h=>⟨v,h,decide_eq_true rfl⟩⟩
structure PreT (F:Nat) (s:H2) (boxes:List Gg) (l:List Stowed):Prop where
 hp:∀ c∈s.Columns,c.Plugs.length≤1048576
 hr:∀ x∈s.Covers,x.Rows.length≤1000000
 hc:s.Covers.length≤1000000
 hb:∀ b∈boxes,0≤b.Size∧b.Size≤255
 len:l.length≤14
 hF:40≤F
theorem PreT.right {F:Nat} {s:H2} {boxes:List Gg} {l:List Stowed} (h:PreT F s boxes l):∃ b,Rk s boxes l=some b∧Q9 F s boxes l=some b∧(b=true ↔ H0a s∧Gcc s boxes l):=by
 have hl:=h.len
 obtain⟨a,ha,ha'⟩:=prog_stow (boxes:=boxes) (l:=l) h.hp (fun x hx=>by have:=h.hr x hx; omega) (by omega)
 obtain⟨b,hb,hb'⟩:=ref_stow (F:=F) (boxes:=boxes) (l:=l) h.hp (fun x hx=>by have:=h.hr x hx; omega) h.hb (by omega)
 have:a=b:=by
  have:=ha'.trans hb'.symm
  cases a <;> cases b <;> simp_all
 subst this
 exact⟨a,ha,hb,ha'⟩
structure BdT (F:Nat) (s:H2) (boxes:List Gg) (l:List Stowed):Prop where
 pre:PreT F s boxes l
 ship:H0a s
 ok:Gcc s boxes l
theorem BdT.len {F:Nat} {s:H2} {boxes:List Gg} {l:List Stowed} (h:BdT F s boxes l):l.length≤14:=h.pre.len
theorem BdT.rightM {F:Nat} {s:H2} {boxes:List Gg} {l:List Stowed} (h:BdT F s boxes l):Rk s boxes l=some true:=by
 obtain⟨b,h1,h2,h3⟩:=h.pre.right
 rw [h1,h3.2 ⟨h.ship,h.ok⟩]
theorem BdT.both {F:Nat} {s:H2} {boxes:List Gg} {l:List Stowed} {ids:List Int} (h:BdT F s boxes l) (hi:∀ a∈ids,a∈l.map (·.Gg)) :
  ∃ r,Z3 F s boxes l ids=some r∧Qv F s boxes l ids=some r∧r.2=0∧G64 s l ids r.1:=by
 have hl:=h.len
 have hF:=h.pre.hF
 obtain⟨r,h1,h2⟩:=prog_reach (F:=F) (ids:=ids) (boxes:=boxes) (l:=l) h.pre.hp h.pre.hr h.pre.hc (by omega) (by omega)
 obtain⟨r',h1',h2'⟩:=ref_reach (F:=F) (ids:=ids) (boxes:=boxes) (l:=l) h.pre.hp h.pre.hr h.pre.hc h.pre.hb (by omega) (by omega)
 have e:=J2b.eq h2 h2'
 subst e
 rcases h2 with ⟨k,_⟩ | ⟨_,_,k⟩
 ·exact(k ⟨h.ship,h.ok⟩).elim
 ·rcases k with ⟨k,_⟩ | ⟨_,k⟩
  ·exact(k hi).elim
  ·exact⟨r,h1,h1',k⟩
theorem BdT.reach {F:Nat} {s:H2} {boxes:List Gg} {l:List Stowed} {ids:List Int} (h:BdT F s boxes l) (hi:∀ a∈ids,a∈l.map (·.Gg)):Wp (Z3 F s boxes l ids) (fun r=>r.2=0∧G64 s l ids r.1):=by
 obtain⟨r,h1,_,h2⟩:=h.both hi
 exact⟨r,h1,h2⟩
theorem BdT.refR {F:Nat} {s:H2} {boxes:List Gg} {l:List Stowed} {ids:List Int} (h:BdT F s boxes l) (hi:∀ a∈ids,a∈l.map (·.Gg)):Wp (Qv F s boxes l ids) (fun r=>r.2=0∧G64 s l ids r.1):=by
 obtain⟨r,_,h1,h2⟩:=h.both hi
 exact⟨r,h1,h2⟩
theorem inOne {l:List Stowed} {x:Stowed} (hx:x∈l):∀ a∈[x.Gg],a∈l.map (·.Gg):=fun a ha=>by
 rw [List.mem_singleton] at ha; rw [ha]; exact List.mem_map.2 ⟨x,hx,rfl⟩
theorem H9b {α R:Type} {Q:R→Prop} {c:Prop} {st:List Int} {y:Int} {M:Option α} {g:α→Bool} {nx:List Int→Option R} (hst:st.length≤1000000) (hM:Wp M (fun r=>g r=true ↔ c)) (ht:c→Wp (nx (st++[y])) Q) (hf:¬ c→Wp (nx st) Q) :
  Wp (jp (fun kj=>bnd M fun r=>bif g r then (need (decide ((st.length+[y].length)*8≤140737488355328∧st.length+[y].length≤maxLen)) <| kj (st++[y])) else kj st) fun j=>nx j) Q:=by
 refine Haa (fun j=>(c∧j=st++[y])∨(¬ c∧j=st)) (fun K hK=>Hs (wp_mono hM (fun r hr=>J3 (fun h=>G0b (room8 hst) (hK _ (.inl ⟨hr.1 h,rfl⟩))) (fun h=>hK _ (.inr ⟨fun hc=>(by rw [hr.2 hc] at h; cases h),rfl⟩))))) (fun j hj=>?_)
 rcases hj with ⟨h,rfl⟩ | ⟨h,rfl⟩
 ·exact ht h
 ·exact hf h

/-! ### The program -/
theorem blocked1T {F:Nat} {s:H2} {boxes:List Gg} {l:List Stowed} (h:BdT F s boxes l) {x:Stowed} (hx:x∈l) (d id:Int) :
  Wp (G4e F x.Gg s boxes l d id) (fun r=>r=true ↔ G16 boxes x.Gg < d∧RcS s l [x.Gg] id):=by
 unfold G4e
 refine Hs (wp_mono (h.reach (inOne hx)) (fun r hr=>H1 (Gb9 boxes x.Gg) ?_))
 by_cases hd:G16 boxes x.Gg < d
 ·rw [decide_eq_true hd]
  simp only [cond_true,Bool.true_and]
  refine H1 (J4d _ _) (Gt ?_)
  rw [contains_iff,hr.2.iff]
  exact⟨fun h=>⟨hd,h⟩,fun h=>h.2⟩
 ·rw [decide_eq_false hd]
  exact Hs (Gt (Gt (Y0 fun h=>hd h.1)))
theorem blockedT {F:Nat} {s:H2} {boxes:List Gg} {l:List Stowed} (h:BdT F s boxes l) (id:Int):G43 F s boxes l id=some (J70 s boxes l id):=by
 have hl:=h.len
 refine Zz ?_
 unfold G43
 refine H1 (Gb9 boxes id) ?_
 unfold J70
 classical
 refine G49 (p:=fun x:Stowed=>decide (x.Gg≠id∧G16 boxes x.Gg < G16 boxes id∧RcS s l [x.Gg] id)) (f:=(·.Gg)) (by omega) (fun y i st nx hy hst ht hf=>?_) (Gt rfl)
 refine H9b (c:=y.Gg≠id∧G16 boxes y.Gg < G16 boxes id∧RcS s l [y.Gg] id) hst ?_ (fun hc=>ht (decide_eq_true hc)) (fun hc=>hf (decide_eq_false hc))
 by_cases hne:y.Gg≠id
 ·rw [decide_eq_true hne]
  simp only [cond_true,Bool.true_and]
  exact wp_mono (blocked1T h hy _ _) (fun b hb=>by rw [hb]; exact⟨fun h=>⟨hne,h⟩,fun h=>h.2⟩)
 ·rw [decide_eq_false hne]
  exact Gt (Y0 fun h=>hne h.1)
theorem BlockersT {F:Nat} {s:H2} {boxes:List Gg} {l:List Stowed} (h:BdT F s boxes l) :
  Wp (Yh F s boxes l) (fun r=>r.2=0∧r.1.Pairwise (· < ·)∧∀ id,id∈r.1 ↔ ∃ x∈l,G16 boxes x.Gg < G16 boxes id∧RcS s l [x.Gg] id):=by
 have hl:=h.len
 unfold Yh
 refine H1 h.rightM (J3 (fun h=>by cases h) (fun _=>?_))
 refine Qi (fun pre m=>∃ L:List Int,Ho.l m=tally L∧L.length≤pre.length*14∧∀ id,id∈L ↔ ∃ x∈pre,G16 boxes x.Gg < G16 boxes id∧RcS s l [x.Gg] id) ⟨[],rfl,by simp,fun id=>⟨fun h=>(List.not_mem_nil h).elim,fun⟨x,hx,_⟩=>(List.not_mem_nil hx).elim⟩⟩ (fun pre y post m nx e hI hnx=>?_) (fun m hI=>?_)
 ·obtain⟨L,hL,hLl,hLm⟩:=hI
  have hy:y∈l:=by rw [e]; simp
  have hpl:pre.length < l.length:=by rw [e]; simp
  have hyi:∀ a∈[y.Gg],a∈l.map (·.Gg):=fun a ha=>by rw [List.mem_singleton] at ha; rw [ha]; exact List.mem_map.2 ⟨y,hy,rfl⟩
  refine Hs (wp_mono (h.reach hyi) (fun r hr=>?_))
  have hrl:=hr.2.len hyi
  refine Qi (fun pr m=>∃ L2:List Int,Ho.l m=tally (L++L2)∧L2.length≤pr.length∧∀ id,id∈L2 ↔ id∈pr∧G16 boxes y.Gg < G16 boxes id) ⟨[],by rw [List.append_nil]; exact hL,Nat.le_refl _,fun id=>⟨fun h=>(List.not_mem_nil h).elim,fun h=>(List.not_mem_nil h.1).elim⟩⟩ (fun pr z po m nx2 e2 hJ hnx2=>?_) (fun m hJ=>?_)
  ·obtain⟨L2,j1,j2,j3⟩:=hJ
   have hprl:pr.length < r.1.length:=by rw [e2]; simp
   refine Haa (fun m=>∃ L2:List Int,Ho.l m=tally (L++L2)∧L2.length≤(pr++[z]).length∧∀ id,id∈L2 ↔ id∈pr++[z]∧G16 boxes y.Gg < G16 boxes id) (fun K hK=>?_) (fun j hj=>hnx2 _ hj)
   refine H1 (Gb9 boxes z) (H1 (Gb9 boxes y.Gg) (J3 (fun hh=>?_) (fun hh=>hK _ ⟨L2,j1,?_,fun id=>?_⟩)))
   ·have hh:=of_decide_eq_true hh
    have hb:=get_b j1 z
    rw [List.length_append] at hb
    refine Hs (Gt (G3e ⟨by omega,by omega⟩ (hK _ ⟨L2++[z],?_,?_,fun id=>?_⟩)))
    ·rw [← List.append_assoc]; exact put_l j1 z
    ·simp only [List.length_append,List.length_singleton]; omega
    ·rw [List.mem_append,List.mem_append,j3,List.mem_singleton]
     constructor
     ·rintro(⟨a,b⟩ | rfl)
      ·exact⟨.inl a,b⟩
      ·exact⟨.inr rfl,hh⟩
     ·rintro⟨a | a,b⟩
      ·exact .inl ⟨a,b⟩
      ·exact .inr a
   ·simp only [List.length_append,List.length_singleton]; omega
   ·have hh:=of_decide_eq_false hh
    rw [j3,List.mem_append,List.mem_singleton]
    constructor
    ·exact fun⟨a,b⟩=>⟨.inl a,b⟩
    ·rintro⟨a | rfl,b⟩
     ·exact⟨a,b⟩
     ·exact(hh b).elim
  ·obtain⟨L2,j1,j2,j3⟩:=hJ
   refine hnx _ ⟨L++L2,j1,?_,fun id=>?_⟩
   ·simp only [List.length_append,List.length_singleton]; omega
   ·rw [List.mem_append,hLm,j3,hr.2.iff]
    constructor
    ·rintro(⟨x,hx,h⟩ | ⟨h1,h2⟩)
     ·exact⟨x,List.mem_append.2 (.inl hx),h⟩
     ·exact⟨y,by simp,h2,h1⟩
    ·rintro⟨x,hx,h⟩
     rcases List.mem_append.1 hx with hx | hx
     ·exact .inl ⟨x,hx,h⟩
     ·rw [List.mem_singleton] at hx; subst hx
      exact .inr ⟨h.2,h.1⟩
 ·obtain⟨L,hL,hLl,hLm⟩:=hI
  have hn:((Ho.l m).map (·.1)).Nodup:=by rw [hL]; exact J96 L
  have hmk:∀ a,a∈(Ho.l m).map (·.1) ↔ a∈L:=fun a=>by rw [hL]; exact⟨tally_sub L a,tally_sup L a⟩
  have hkl:(Ho.l m).length≤L.length:=by
   have:=hn.length_le_of_subset (fun a ha=>(hmk a).1 ha)
   rwa [List.length_map] at this
  have hse:G84 ((Ho.l m).map (·.1))=some (G78 ((Ho.l m).map (·.1))):=by
   unfold G84
   rw [decide_eq_true (show ((Ho.l m).map (·.1)).length < 4611686018427387904 by rw [List.length_map]; omega)]
   rfl
  have hpm:=Gb7 ((Ho.l m).map (·.1))
  refine G0b (decide_eq_true ⟨by omega,by simp only [maxLen]; omega⟩) (H1 hse (Gt ⟨rfl,?_,fun id=>?_⟩))
  ·have hnd:(G78 ((Ho.l m).map (·.1))).Nodup:=hpm.nodup_iff.2 hn
   exact(List.pairwise_and_iff.2 ⟨G93 _,hnd⟩).imp (fun {a b} h=>by have h1:=h.1; have h2:=h.2; omega)
  ·show id∈G78 _ ↔ _
   rw [hpm.mem_iff,hmk,hLm]

def MinD (boxes:List Gg) (l:List Stowed) (n:Int):Prop:=(∀ x∈l,n≤G16 boxes x.Gg)∧∃ x∈l,G16 boxes x.Gg=n
theorem MinD.eq {boxes:List Gg} {l:List Stowed} {n m:Int} (h:MinD boxes l n) (h':MinD boxes l m):n=m:=by
 obtain⟨h1,x,hx,e⟩:=h
 obtain⟨k1,y,hy,e'⟩:=h'
 have a:=h1 y hy
 have b:=k1 x hx
 omega
def levL (boxes:List Gg) (l:List Stowed) (n:Int):List Int:=(l.filter (fun x=>decide (G16 boxes x.Gg=n))).map (·.Gg)
theorem J47 {boxes:List Gg} {l:List Stowed} {n:Int}:∀ a∈levL boxes l n,a∈l.map (·.Gg):=fun a ha=>by
 obtain⟨x,hx,e⟩:=List.mem_map.1 ha
 exact List.mem_map.2 ⟨x,(List.mem_filter.1 hx).1,e⟩
def LevP (s:H2) (boxes:List Gg) (l:List Stowed) (r:Int×List Int×List Int×Int):Prop:=
 ∃ n rr,MinD boxes l n∧G64 s l (levL boxes l n) rr∧r=(n,levL boxes l n,rr.filter (fun b=>decide (n < G16 boxes b)),0)
theorem LevP.eq {s:H2} {boxes:List Gg} {l:List Stowed} {r r':Int×List Int×List Int×Int} (h:LevP s boxes l r) (h':LevP s boxes l r'):r=r':=by
 obtain⟨n,q,h1,h2,rfl⟩:=h
 obtain⟨n',q',k1,k2,rfl⟩:=h'
 obtain rfl:=h1.eq k1
 rw [h2.eq k2]
theorem LeavingT {F:Nat} {s:H2} {boxes:List Gg} {l:List Stowed} (h:BdT F s boxes l) (hne:l≠[]):Wp (Z4 F s boxes l) (LevP s boxes l):=by
 have hl:=h.len
 obtain⟨x0,r0,rfl⟩:∃ x0 r0,l=x0::r0:=by
  cases l with
  | nil=>exact(hne rfl).elim
  | cons x r=>exact⟨x,r,rfl⟩
 unfold Z4
 refine H1 h.rightM (J3 (fun h=>by cases h) (fun _=>J3 (fun h=>?_) (fun _=>?_)))
 ·have:=of_decide_eq_true h; simp only [List.length_cons] at this; omega
 refine G58 (m:=0) rfl rfl (H1 (Gb9 boxes x0.Gg) ?_)
 refine Qi (fun pre n=>n≤G16 boxes x0.Gg∧(∀ x∈pre,n≤G16 boxes x.Gg)∧∃ x∈x0::r0,G16 boxes x.Gg=n) ⟨Int.le_refl _,fun x hx=>(List.not_mem_nil hx).elim,x0,by simp,rfl⟩ (fun pre y post n nx e hI hnx=>?_) (fun n hI=>?_)
 ·obtain⟨i0,i1,x,hx,i2⟩:=hI
  refine H1 (Gb9 boxes y.Gg) (hnx _ ⟨by omega,Qn (P:=fun x:Stowed=>min n (G16 boxes y.Gg)≤G16 boxes x.Gg) (fun z hz=>by have:=i1 z hz; omega) (by omega),?_⟩)
  rcases Int.le_total n (G16 boxes y.Gg) with hh | hh
  ·exact⟨x,hx,by omega⟩
  ·exact⟨y,by rw [e]; simp,by omega⟩
 obtain⟨_,i1,i2⟩:=hI
 refine G49 (p:=fun x:Stowed=>decide (G16 boxes x.Gg=n)) (f:=(·.Gg)) (by omega) (fun y i st nx hy hst ht hf=>H9b (c:=G16 boxes y.Gg=n) hst ⟨_,Gb9 boxes y.Gg,by simp⟩ (fun hc=>ht (decide_eq_true hc)) (fun hc=>hf (decide_eq_false hc))) ?_
 refine Hs (wp_mono (h.reach (ids:=levL boxes (x0::r0) n) J47) (fun r hr=>?_))
 have hrl:=hr.2.len J47
 have hrm:=hr.2.mem J47
 refine G49 (p:=fun b:Int=>decide (n < G16 boxes b)) (f:=fun b=>b) (by omega) (fun y i st nx hy hst ht hf=>H9b (c:=G16 boxes y≠n) hst ⟨_,Gb9 boxes y,by simp⟩ (fun hc=>ht (decide_eq_true ?_)) (fun hc=>hf (decide_eq_false (by omega)))) (Gt ⟨n,r.1,⟨i1,i2⟩,hr.2,by rw [List.map_id']; rfl⟩)
 obtain⟨z,hz,e⟩:=List.mem_map.1 (hrm y hy)
 have:=i1 z hz
 rw [e] at this
 omega
end Go.Proofs.YthcpolfodgjekaaGreat
