/-
 MovesCalls: the covers that are needed.
-/
import Derived.Test.YteogacmpgdpjlaaGreatMovU
set_option maxRecDepth 100000
set_option linter.unusedVariables false
namespace Go.Proofs.YteogacmpgdpjlaaGreat
open Go.RowKit

theorem bits_len (n:Nat) (h:n≤12):∃ r,G8b (IntKind.u64.wrap (n:Int))=some r:=by
 have hall:(List.range 13).all (fun n=>(G8b (IntKind.u64.wrap (n:Int))).isSome)=true:=by kernel_rfl
 have:=List.all_eq_true.1 hall n (List.mem_range.2 (by omega))
 exact Option.isSome_iff_exists.1 this

theorem sort_int {F:Nat} {x:List Int} {cmp:Int→Int→Option Int} {c:Int→Int→Int} (hc:∀ a b,cmp a b=some (c a b)) (hF:20≤F) (hl:x.length≤12):G21 F x cmp=some (Gb5 c x):=by
 unfold G21
 obtain⟨F,rfl⟩:∃ m,F=m+1:=⟨F - 1,by omega⟩
 obtain⟨r,hr⟩:=bits_len _ hl
 rw [hr]
 simp only [bnd]
 unfold G05
 rw [loop]
 generalize loop _ F=k
 simp only
 rw [J19 (by omega),decide_eq_true (by omega),cond_true]
 have:=isortM_eq (F:=F+1) hc (data:=x) (b:=(x.length:Int)) rfl (by omega) (by omega)
 rw [show Y9 (F+1) x 0 (x.length:Int) cmp=some (Gb5 c x) from this]
 rfl
theorem cmpI_order:Q50 H9e where
 asym x y:=by rw [G99,G99]; omega
 ntrans x y z:=by rw [G99,G99,G99]; omega
section
variable {s:H8} {boxes:List H2} {l before after:List G6} {lifted:List Int} {bay:Int}
/-- A box that is lifted out of the hold of a bay is under a cover. -/
def Hb7 (s:H8) (lifted:List Int) (bay:Int) (sts:List (List G6)) (k:Int):Prop:=∃ st∈sts,∃ x∈st,Qw s lifted bay false x=true∧∃ c,Ga5 s x=some c∧Rs s c=k∧0≤k
theorem colOf_at {x:G6} {c:G4} (h:Ga5 s x=some c):∃ m:Nat,x.Slot.G4=(m:Int)∧s.Columns[m]? = some c:=by
 unfold Ga5 at h
 by_cases h0:0≤x.Slot.G4
 ·rw [decide_eq_true h0,cond_true] at h
  exact⟨x.Slot.G4.toNat,by omega,h⟩
 ·rw [decide_eq_false h0,cond_false] at h; cases h
theorem He5 {c:G4} {k:Int} (h:Rs s c=k) (h0:0≤k):∃ (m:Nat) (x:Ge),k=(m:Int)∧s.Covers[m]? = some x∧x.Bay=c.Bay:=by
 unfold Rs at h
 rcases H60 (fun x=>J8d x c) s.Covers with ⟨e,_⟩ | ⟨m,x,e1,e2,e3,_⟩
 ·omega
 ·refine⟨m,x,by omega,e2,?_⟩
  unfold J8d at e3
  simp only [Bool.and_eq_true,decide_eq_true_eq] at e3
  exact e3.1
theorem inPart_at {x:G6} {c:G4} {deck:Bool} (h:Ga5 s x=some c):Qw s lifted bay deck x=true ↔ c.Bay=bay∧c.Deck=deck∧lifted.any (fun y=>decide (x.H2=y))=true:=by
 unfold Qw
 rw [h]
 simp only [Bool.and_eq_true,decide_eq_true_eq,beq_iff_eq,and_assoc]
theorem needed_spec {F:Nat} (h1:R0 s boxes before) (h2:R0 s boxes after) (l1:before.length≤14) (l2:after.length≤14) (hr:∀ x∈s.Covers,x.Rows.length≤1000000) (hcov:s.Covers.length≤12) (hF:30≤F) :
  Wp (G55 F s before after lifted bay) (fun r=>r.Pairwise (· < ·)∧r.length≤12∧∀ k,k∈r ↔ Hb7 s lifted bay [before,after] k):=by
 unfold G55
 have hlen:∀ {out:List Int},out.Nodup→(∀ k∈out,0≤k∧k < (s.Covers.length:Int))→out.length≤12:=fun {out} hn hb=>by
  have:=hn.length_le_of_subset (l₂:=(List.range s.Covers.length).map (fun i:Nat=>(i:Int))) (fun k hk=>by
   have:=hb k hk
   exact List.mem_map.2 ⟨k.toNat,List.mem_range.2 (by omega),by omega⟩)
  rw [List.length_map,List.length_range] at this
  omega
 refine Q3 (fun pre out=>out.Nodup∧(∀ k∈out,0≤k∧k < (s.Covers.length:Int))∧∀ k,k∈out ↔ Hb7 s lifted bay pre k) ⟨List.nodup_nil,fun k hk=>(List.not_mem_nil hk).elim,fun k=>⟨fun hk=>(List.not_mem_nil hk).elim,fun⟨st,hst,_⟩=>(List.not_mem_nil hst).elim⟩⟩ (fun pre y post out nx e hI hnx=>?_) (fun out hI=>?_)
 ·obtain⟨i1,i2,i3⟩:=hI
  have hy:R0 s boxes y∧y.length≤14:=by
   have:y∈[before,after]:=by rw [e]; simp
   simp only [List.mem_cons,List.not_mem_nil,or_false] at this
   rcases this with rfl | rfl
   ·exact⟨h1,l1⟩
   ·exact⟨h2,l2⟩
  refine Gy (hy.1.part (by omega)) ?_
  refine Q3 (fun pre2 out2=>out2.Nodup∧(∀ k∈out2,0≤k∧k < (s.Covers.length:Int))∧∀ k,k∈out2 ↔ (Hb7 s lifted bay pre k∨∃ x∈pre2,∃ c,Ga5 s x=some c∧Rs s c=k∧0≤k))
   ⟨i1,i2,fun k=>(i3 k).trans ⟨.inl,fun h=>h.elim (fun g=>g) (fun⟨x,hx,_⟩=>(List.not_mem_nil hx).elim)⟩⟩ (fun pre2 x post2 out2 nx2 e2 hJ hnx2=>?_) (fun out2 hJ=>hnx _ ⟨hJ.1,hJ.2.1,fun k=>(hJ.2.2 k).trans ?_⟩)
  ·obtain⟨j1,j2,j3⟩:=hJ
   have hxm:x∈y.filter (Qw s lifted bay false):=Ga4.1 (by rw [e2]; simp)
   obtain⟨hxy,hxp⟩:=List.mem_filter.1 hxm
   obtain⟨c,hc⟩:=hy.1.col hxy
   obtain⟨m,hm,hcm⟩:=colOf_at hc
   refine G82 (fun out3=>out3.Nodup∧(∀ k∈out3,0≤k∧k < (s.Covers.length:Int))∧∀ k,k∈out3 ↔ (Hb7 s lifted bay pre k∨∃ z∈pre2++[x],∃ c,Ga5 s z=some c∧Rs s c=k∧0≤k)) (fun K hK=>?_) (fun j hj=>hnx2 _ hj)
   have hold:∀ k,(Hb7 s lifted bay pre k∨∃ z∈pre2++[x],∃ c,Ga5 s z=some c∧Rs s c=k∧0≤k) ↔ (k∈out2∨(Rs s c=k∧0≤k)):=fun k=>by
    rw [j3 k]
    constructor
    ·rintro(g | ⟨z,hz,c',g1,g2⟩)
     ·exact .inl (.inl g)
     ·rcases List.mem_append.1 hz with hz | hz
      ·exact .inl (.inr ⟨z,hz,c',g1,g2⟩)
      ·rw [List.mem_singleton] at hz
       subst hz
       rw [hc] at g1; cases g1
       exact .inr g2
    ·rintro((g | ⟨z,hz,g⟩) | g)
     ·exact .inl g
     ·exact .inr ⟨z,List.mem_append.2 (.inl hz),g⟩
     ·exact .inr ⟨x,by simp,c,hc,g⟩
   rw [hm]
   refine Gy (J7a hcm hr (by omega)) ?_
   by_cases h0:0≤Rs s c
   ·rw [decide_eq_true h0]
    refine H5 (Hm (fun _=>⟨_,containsI out2 (Rs s c),?_⟩) (fun h=>by cases h))
    have hany:(out2.any (fun z=>decide (Rs s c=z)))=true ↔ Rs s c∈out2:=by
     rw [List.any_eq_true]
     exact⟨fun⟨z,hz,g⟩=>(of_decide_eq_true g) ▸ hz,fun g=>⟨_,g,decide_eq_true rfl⟩⟩
    refine Hm (fun h=>?_) (fun h=>?_)
    ·have hn:Rs s c ∉ out2:=fun g=>by
      rw [hany.2 g] at h; cases h
     have hl12:=hlen j1 j2
     obtain⟨q,xq,hq,hxq,_⟩:=He5 rfl h0
     have hql:=(List.getElem?_eq_some_iff.1 hxq).1
     refine Qy (H06 (by rw [List.length_singleton]; omega) (by omega)) (hK _ ⟨Q37 j1 hn,Q1 j2 ⟨h0,by omega⟩,fun k=>?_⟩)
     rw [hold k,List.mem_append,List.mem_singleton]
     exact⟨fun g=>g.imp (fun g=>g) (fun g=>⟨g.symm,by omega⟩),fun g=>g.imp (fun g=>g) (fun g=>g.1.symm)⟩
    ·have hin:Rs s c∈out2:=hany.1 (by simpa using h)
     refine hK _ ⟨j1,j2,fun k=>?_⟩
     rw [hold k]
     exact⟨.inl,fun g=>g.elim (fun g=>g) (fun g=>g.1 ▸ hin)⟩
   ·rw [decide_eq_false h0]
    refine H5 (Hm (fun h=>by cases h) (fun _=>Gn (Hm (fun h=>by cases h) (fun _=>hK _ ⟨j1,j2,fun k=>?_⟩))))
    rw [hold k]
    exact⟨.inl,fun g=>g.elim (fun g=>g) (fun g=>by omega)⟩
  ·constructor
   ·rintro(⟨st,hst,g⟩ | ⟨x,hx,c,g⟩)
    ·exact⟨st,List.mem_append.2 (.inl hst),g⟩
    ·obtain⟨hxy,hxp⟩:=List.mem_filter.1 (Ga4.1 hx)
     exact⟨y,by simp,x,hxy,hxp,c,g⟩
   ·rintro⟨st,hst,x,hx,hp,c,g⟩
    rcases List.mem_append.1 hst with hst | hst
    ·exact .inl ⟨st,hst,x,hx,hp,c,g⟩
    ·rw [List.mem_singleton] at hst
     subst hst
     exact .inr ⟨x,Ga4.2 (List.mem_filter.2 ⟨hx,hp⟩),c,g⟩
 ·obtain⟨i1,i2,i3⟩:=hI
  have hl12:=hlen i1 i2
  have hs:G54 F out (fun z0 z1=>Qj z0 z1)=some (Gb5 H9e out):=by
   unfold G54
   rw [sort_int J8e (by omega) hl12]; rfl
  refine Gy hs (Gn ⟨?_,by rw [J13]; exact hl12,fun k=>Ga4.trans (i3 k)⟩)
  have hn:(Gb5 H9e out).Nodup:=(G95 H9e out).nodup_iff.2 i1
  exact(List.pairwise_and_iff.2 ⟨Ga3 cmpI_order out,hn⟩).imp (fun {a b} h=>by
   have h1:¬ H9e b a < 0:=h.1
   have h2:a≠b:=h.2
   rw [G99] at h1
   omega)
theorem ref_uses (h:R0 s boxes l) (k:Int):∃ r,Z9 s l lifted k=some r∧(r=true ↔ ∃ x∈l,lifted.any (fun y=>decide (x.H2=y))=true∧∃ c,Ga5 s x=some c∧c.Deck=false∧Rs s c=k):=by
 unfold Z9
 refine Q3 (fun pre _=>∀ x∈pre,¬ (lifted.any (fun y=>decide (x.H2=y))=true∧∃ c,Ga5 s x=some c∧c.Deck=false∧Rs s c=k)) (fun x hx=>(List.not_mem_nil hx).elim) (fun pre y post u nx e hI hnx=>?_) (fun u hI=>Gn (Y1 fun⟨x,hx,g⟩=>hI x hx g))
 have hym:y∈l:=by rw [e]; simp
 obtain⟨c,hc⟩:=h.col hym
 obtain⟨m,hm,hcm⟩:=colOf_at hc
 have hnext:¬ (lifted.any (fun z=>decide (y.H2=z))=true∧∃ c,Ga5 s y=some c∧c.Deck=false∧Rs s c=k)→Wp (nx ()) _:=fun hn=>hnx _ (Q1 (P:=fun x:G6=>¬ (lifted.any (fun z=>decide (x.H2=z))=true∧∃ c,Ga5 s x=some c∧c.Deck=false∧Rs s c=k)) hI hn)
 refine Gy (ref_among lifted y.H2) ?_
 rw [hm]
 cases ha:lifted.any (fun z=>decide (y.H2=z)) with
 | false=>
  refine H5 (Hm (fun h=>by cases h) (fun _=>Gn (H5 (Hm (fun h=>by cases h) (fun _=>Gn (Hm (fun h=>by cases h) (fun _=>hnext (fun hh=>by rw [ha] at hh; cases hh.1))))))))
 | true=>
  refine H5 (Hm (fun _=>G43 rfl hcm (Gn ?_)) (fun h=>by cases h))
  cases hd:c.Deck with
  | true=>
   refine H5 (Hm (fun h=>by cases h) (fun _=>Gn (Hm (fun h=>by cases h) (fun _=>hnext (fun⟨_,c',g1,g2,_⟩=>by rw [hc] at g1; cases g1; rw [hd] at g2; cases g2)))))
  | false=>
   refine H5 (Hm (fun _=>⟨_,Ja8 hcm,?_⟩) (fun h=>by cases h))
   refine Hm (fun h=>Gn ⟨fun _=>⟨y,hym,ha,c,hc,hd,of_decide_eq_true h⟩,fun _=>rfl⟩) (fun h=>hnext (fun⟨_,c',g1,_,g3⟩=>by rw [hc] at g1; cases g1; exact of_decide_eq_false h g3))
theorem ref_covers {kind:Int} (h1:R0 s boxes before) (h2:R0 s boxes after) (hcov:s.Covers.length≤12) :
  Wp (Qh s before after lifted bay kind) (fun r=>∃ ks:List Int,r=ks.map (mvC kind)∧ks.Pairwise (· < ·)∧∀ k,k∈ks ↔ Hb7 s lifted bay [before,after] k):=by
 unfold Qh
 refine Q3 (fun pre (out:List Move)=>∃ ks:List Int,out=ks.map (mvC kind)∧ks.Pairwise (· < ·)∧ks.length≤pre.length∧∀ k,k∈ks ↔ (Hb7 s lifted bay [before,after] k∧k < (pre.length:Int))) ⟨[],rfl,List.Pairwise.nil,Nat.le_refl _,fun k=>⟨fun hk=>(List.not_mem_nil hk).elim,fun⟨⟨_,_,_,_,_,_,_,_,g⟩,g2⟩=>by simp at g2; omega⟩⟩ (fun pre y post out nx e hI hnx=>?_) (fun out hI=>?_)
 ·obtain⟨ks,rfl,i1,i2,i3⟩:=hI
  have hy:s.Covers[pre.length]? = some y:=by rw [e]; simp
  have hpl:pre.length < s.Covers.length:=by rw [e]; simp
  obtain⟨r1,e1,g1⟩:=ref_uses (lifted:=lifted) h1 (pre.length:Int)
  obtain⟨r2,e2,g2⟩:=ref_uses (lifted:=lifted) h2 (pre.length:Int)
  refine G82 (fun out:List Move=>∃ ks:List Int,out=ks.map (mvC kind)∧ks.Pairwise (· < ·)∧ks.length≤(pre++[y]).length∧∀ k,k∈ks ↔ (Hb7 s lifted bay [before,after] k∧k < ((pre++[y]).length:Int))) (fun K hK=>?_) (fun j hj=>hnx _ hj)
  rw [List.length_append,List.length_singleton] at hK
  -- what it is to be used
  have huse:Hb7 s lifted bay [before,after] (pre.length:Int) ↔ (y.Bay=bay∧(r1=true∨r2=true)):=by
   constructor
   ·rintro⟨st,hst,x,hx,hp,c,hc,hk,h0⟩
    obtain⟨m,xc,em,hxc,hb⟩:=He5 hk h0
    have:m=pre.length:=by omega
    subst this
    rw [hy] at hxc; cases hxc
    obtain⟨p1,p2,p3⟩:=(inPart_at hc).1 hp
    refine⟨hb.trans p1,?_⟩
    simp only [List.mem_cons,List.not_mem_nil,or_false] at hst
    rcases hst with rfl | rfl
    ·exact .inl (g1.2 ⟨x,hx,p3,c,hc,p2,hk⟩)
    ·exact .inr (g2.2 ⟨x,hx,p3,c,hc,p2,hk⟩)
   ·rintro⟨hb,hr⟩
    have go:∀ st∈[before,after],(∃ x∈st,lifted.any (fun y=>decide (x.H2=y))=true∧∃ c,Ga5 s x=some c∧c.Deck=false∧Rs s c=(pre.length:Int))→Hb7 s lifted bay [before,after] (pre.length:Int):=fun st hst ⟨x,hx,p3,c,hc,p2,hk⟩=>by
     obtain⟨m,xc,em,hxc,hb2⟩:=He5 hk (by omega)
     have:m=pre.length:=by omega
     subst this
     rw [hy] at hxc; cases hxc
     exact⟨st,hst,x,hx,(inPart_at hc).2 ⟨hb2.symm.trans hb,p2,p3⟩,c,hc,hk,by omega⟩
    exact hr.elim (fun g=>go before (by simp) (g1.1 g)) (fun g=>go after (by simp) (g2.1 g))
  have hyes:Hb7 s lifted bay [before,after] (pre.length:Int)→Wp (need (decide (((ks.map (mvC kind)).length+[(Move.mk kind 0 (Slot.mk 0 0 0) (pre.length:Int))].length)*48≤140737488355328∧(ks.map (mvC kind)).length+[(Move.mk kind 0 (Slot.mk 0 0 0) (pre.length:Int))].length≤maxLen)) <| K (ks.map (mvC kind)++[(Move.mk kind 0 (Slot.mk 0 0 0) (pre.length:Int))])) _:=fun hu=>
   Qy (H06 (by rw [List.length_map,List.length_singleton]; omega) (by omega)) (hK _ ⟨ks++[(pre.length:Int)],by rw [List.map_append]; rfl,H1b i1 (fun a ha=>((i3 a).1 ha).2),by rw [List.length_append,List.length_singleton]; omega,fun k=>by
    rw [List.mem_append,List.mem_singleton,i3 k]
    constructor
    ·rintro(⟨g,g2⟩ | rfl)
     ·exact⟨g,by omega⟩
     ·exact⟨hu,by omega⟩
    ·rintro⟨g,g2⟩
     by_cases hk:k=(pre.length:Int)
     ·exact .inr hk
     ·exact .inl ⟨g,by omega⟩⟩)
  have hno:¬ Hb7 s lifted bay [before,after] (pre.length:Int)→Wp (K (ks.map (mvC kind))) _:=fun hu=>
   hK _ ⟨ks,rfl,i1,by omega,fun k=>(i3 k).trans ⟨fun⟨g,g2⟩=>⟨g,by omega⟩,fun⟨g,g2⟩=>⟨g,by
    by_cases hk:k=(pre.length:Int)
    ·exact(hu (hk ▸ g)).elim
    ·omega⟩⟩⟩
  by_cases hb:y.Bay=bay
  ·rw [decide_eq_true hb]
   refine H5 (Hm (fun _=>⟨r1,e1,?_⟩) (fun h=>by cases h))
   cases r1 with
   | true=>
    exact H5 (Hm (fun h=>by cases h) (fun _=>Gn (Hm (fun _=>hyes (huse.2 ⟨hb,.inl rfl⟩)) (fun h=>by cases h))))
   | false=>
    refine H5 (Hm (fun _=>⟨r2,e2,?_⟩) (fun h=>by cases h))
    exact Hm (fun h=>hyes (huse.2 ⟨hb,.inr h⟩)) (fun h=>hno (fun g=>(huse.1 g).2.elim (fun g=>by cases g) (fun g=>by
     have h:r2=false:=h
     rw [h] at g; cases g)))
  ·rw [decide_eq_false hb]
   exact H5 (Hm (fun h=>by cases h) (fun _=>Gn (H5 (Hm (fun h=>by cases h) (fun _=>Gn (Hm (fun h=>by cases h) (fun _=>hno (fun g=>hb (huse.1 g).1))))))))
 ·obtain⟨ks,e,i1,_,i3⟩:=hI
  refine Gn ⟨ks,e,i1,fun k=>(i3 k).trans ⟨fun g=>g.1,fun g=>⟨g,?_⟩⟩⟩
  obtain⟨_,_,_,_,_,c,_,hk,h0⟩:=g
  obtain⟨m,xc,em,hxc,_⟩:=He5 hk h0
  have:=(List.getElem?_eq_some_iff.1 hxc).1
  omega
end
end Go.Proofs.YteogacmpgdpjlaaGreat
