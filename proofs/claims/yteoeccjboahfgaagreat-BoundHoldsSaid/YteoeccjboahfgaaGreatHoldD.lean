/-
 The examples of chapter 27. BoundHolds: the law's plain mathematics.
-/
import Derived.Test.YteoeccjboahfgaaGreatXD
import Derived.Test.YteoeccjboahfgaaGreatHoldC
set_option maxRecDepth 100000
namespace Go.Proofs.YteoeccjboahfgaaGreat
open Go.RowKit
theorem awake27:Yb 60=some true:=by kernel_rfl
end Go.Proofs.YteoeccjboahfgaaGreat
#print axioms Go.Proofs.YteoeccjboahfgaaGreat.awake27
set_option maxRecDepth 100000
namespace Go.Proofs.YteoeccjboahfgaaGreat
open Go.RowKit

theorem tallest_spec {s:Hc} (h1:s.Columns≠[]):Wp (Zo s) (fun T=>(∀ c∈s.Columns,c.Tiers≤T)∧∃ c∈s.Columns,T=c.Tiers):=by
 unfold Zo
 refine J6 (fun pre T=>pre≠[]→(∀ c∈pre,c.Tiers≤T)∧∃ c∈pre,T=c.Tiers) (fun h=>(h rfl).elim) (fun pre y post T nx e hI hnx=>?_) (fun T hI=>Gw (hI h1))
 refine Y6 (fun j=>(∀ c∈pre++[y],c.Tiers≤j)∧∃ c∈pre++[y],j=c.Tiers) (fun K hK=>Hq (fun h=>hK _ ⟨fun c hc=>?_,y,by simp,rfl⟩) (fun h=>?_)) (fun j hj=>hnx _ (fun _=>hj))
 ·rcases List.mem_append.1 hc with hc | hc
  ·have hne:pre≠[]:=fun e0=>by rw [e0] at hc; exact List.not_mem_nil hc
   have hlen:¬ (pre.length:Int)=0:=fun e0=>hne (List.eq_nil_of_length_eq_zero (by omega))
   simp only [Bool.or_eq_true,decide_eq_true_eq] at h
   have:=(hI hne).1 c hc
   rcases h with h | h
   ·exact(hlen h).elim
   ·omega
  ·rw [List.mem_singleton.1 hc]; exact Int.le_refl _
 ·simp only [Bool.or_eq_false_iff,decide_eq_false_iff_not] at h
  have hne:pre≠[]:=fun e0=>by rw [e0] at h; exact h.1 rfl
  obtain⟨g1,c0,g2,g3⟩:=hI hne
  refine hK _ ⟨fun c hc=>?_,c0,List.mem_append.2 (.inl g2),g3⟩
  rcases List.mem_append.1 hc with hc | hc
  ·exact g1 c hc
  ·rw [List.mem_singleton.1 hc]; omega
theorem Yg.more {calls:Int} {boxes:List Gr} (h:Yg calls boxes):Yg 20 boxes:=
 ⟨by omega,h.len,fun b hb=>by have:=h.num; obtain⟨h1,h2,h3,h4,h5⟩:=h.each b hb; exact⟨h1,h2,h3,h4,by omega⟩,h.sorted⟩
theorem right_ok {calls:Int} {s:Hc} {boxes:List Gr} (hs:Ya s=some true) (hb:Yg calls boxes):Y5 s boxes=some true:=by
 unfold Y5
 rw [hs,G3c]
 simp only [cond_true,J75 hb.more,G3c]
 rfl
/-- The groups that the code finds. -/
theorem groups_told {calls:Int} {boxes:List Gr} (hb:Yg calls boxes):∃ g0,Jo boxes=some g0∧g0.length≤10∧(∀ c∈g0,Told boxes c)∧(∀ a∈g0,∀ b∈g0,a.Ga=b.Ga→a=b)∧(g0.map (·.Ga)).Nodup:=by
 have hl:=hb.len
 obtain⟨l,e,h1,h2,h3,_⟩:=groups_facts boxes (by omega)
 have hne:∀ i j (_:i < j) (hj:j < l.length),l[i].Ga≠l[j].Ga:=fun i j hij hj hab=>by
  have:=h3 i j hij hj
  rw [G80,hab] at this
  simp at this
 refine⟨l,e,by omega,fun c hc=>?_,fun a ha b hb' hab=>?_,?_⟩
 ·obtain⟨e1,e2,e3⟩:=h2 c hc
  have g1:=H06 40 c.Ga boxes
  have g2:=H06 20 c.Ga boxes
  refine⟨⟨by omega,by omega⟩,e1,e2,?_⟩
  have hpos:∀ z,0 < Zz z c.Ga boxes→∃ b∈boxes,b.Load=c.Ga.Load∧b.Discharge=c.Ga.Discharge:=fun z hz=>by
   unfold Zz at hz
   obtain⟨b,hb1,hb2⟩:=List.countP_pos_iff.1 (by omega:0 < boxes.countP (hit c.Ga z))
   unfold hit at hb2
   simp only [Bool.and_eq_true,decide_eq_true_eq] at hb2
   exact⟨b,hb1,hb2.1.1,hb2.1.2⟩
  rcases (show 0 < Zz 40 c.Ga boxes∨0 < Zz 20 c.Ga boxes by omega) with h | h
  ·exact hpos 40 h
  ·exact hpos 20 h
 ·obtain⟨i,hi,rfl⟩:=List.mem_iff_getElem.1 ha
  obtain⟨j,hj,rfl⟩:=List.mem_iff_getElem.1 hb'
  rcases Nat.lt_trichotomy i j with h | h | h
  ·exact(hne i j h hj hab).elim
  ·subst h; rfl
  ·exact(hne j i h hi hab.symm).elim
 ·refine List.pairwise_map.2 (List.pairwise_iff_getElem.2 (fun i j hi hj hij=>hne i j hij hj))
/-- At which numbers of halves the code's rows begin as they should. -/
def RepOk (F:Nat):Prop:=∀ n:Nat,n≤13→Qe F [(-1)] (((2*n:Nat):Int)+1)=some (List.replicate (2*n+1) (-1))
theorem rep60:RepOk 60:=by
 intro n hn
 have h:(List.range 14).all (fun n=>decide (Qe 60 [(-1)] (((2*n:Nat):Int)+1)=some (List.replicate (2*n+1) (-1))))=true:=by kernel_rfl
 exact of_decide_eq_true (List.all_eq_true.1 h n (List.mem_range.2 (by omega)))

/-- Families that are in order, with their bounds. -/
structure FamW (F:Nat) (s:Hc) (g0:List G2) (f:List G2×Int):Prop where
 sub:∀ c∈f.1,c∈g0
 cross:(f.1.map (·.Ga)).Pairwise G8f
 len:f.1.length≤20
 val:Qw F s f.1=some f.2
 pos:0≤f.2∧f.2≤400
theorem Hd9 {F:Nat} {s:Hc} {g0:List G2}:∀ (fs:List (List G2×Int)),(∀ f∈fs,FamW F s g0 f)→0≤(fs.map (·.2)).sum∧(fs.map (·.2)).sum≤400*(fs.length:Int)
 | [],_=>⟨Int.le_refl _,by simp⟩
 | f::fs,h=>by
  have h1:=(h f (List.mem_cons_self ..)).pos
  have h2:=Hd9 fs (fun g hg=>h g (List.mem_cons_of_mem _ hg))
  simp only [List.map_cons,List.sum_cons,List.length_cons]
  omega
theorem J88 {F:Nat} {s:Hc} {boxes:List Gr} {g0:List G2} (hr:Y5 s boxes=some true) (hg:Jo boxes=some g0) (hu:∀ a∈g0,∀ b∈g0,a.Ga=b.Ga→a=b)
  {fs:List (List G2×Int)} (hf:∀ f∈fs,FamW F s g0 f) (hn:(Qs fs).flatten.Nodup) (hl:fs.length≤1000):G55 F s boxes (Qs fs)=some ((fs.map (·.2)).sum,0):=by
 refine G4f ?_
 show Wp (G5c F s boxes (Qs fs)) _
 unfold G5c
 refine H6 hr (Hq (fun h=>by cases h) (fun _=>H6 hg ?_))
 refine J6 (fun pre st=>∃ f1 f2,fs=f1++f2∧pre=Qs f1∧st.1=(f1.map (·.2)).sum∧(∀ g,Gu.get st.2 g 0=if g∈pre.flatten then 1 else 0)∧∀ e∈Gu.l st.2,e.2≤1) ⟨[],fs,rfl,rfl,rfl,fun g=>by rw [H6c]; simp,fun e he=>(List.not_mem_nil he).elim⟩ (fun pre x post st nx e hI hnx=>?_) (fun st hI=>?_)
 ·obtain⟨f1,f2,q1,q2,q3,q4,q5⟩:=hI
  have hspl:Qs f2=x::post:=by
   have h1:Qs fs=Qs f1++Qs f2:=by rw [q1]; unfold Qs; simp
   rw [e,← q2,List.append_cancel_left_eq] at h1
   exact h1.symm
  obtain⟨f,f3,rfl,hfx,hf3⟩:=List.map_eq_cons_iff.1 hspl
  have hfm:f∈fs:=by rw [q1]; simp
  have hfam:=hf f hfm
  obtain⟨ls,v⟩:=f
  obtain⟨a1,a2,a3,a4,a5⟩:=hfam
  simp only at a1 a2 a3 a4 a5 hfx
  subst hfx
  refine H6 (family_spec hu a1 a2 a3) (Hq (fun h=>by simp at h) (fun _=>H6 a4 ?_))
  have hs1:=Hd9 f1 (fun g hg'=>hf g (by rw [q1]; simp [hg']))
  have hf1l:f1.length≤1000:=by rw [q1] at hl; simp only [List.length_append] at hl; omega
  refine J1 ⟨by omega,by omega⟩ ?_
  have hnd:=hn
  rw [e,List.flatten_append,List.flatten_cons] at hnd
  obtain⟨_,hnd2,hnd3⟩:=List.nodup_append.1 hnd
  have hnd4:=(List.nodup_append.1 hnd2).1
  refine J6 (fun pre2 m=>(∀ g,Gu.get m g 0=if g∈pre.flatten++pre2 then 1 else 0)∧∀ e∈Gu.l m,e.2≤1) ⟨fun g=>by rw [q4,List.append_nil],q5⟩ (fun pre2 y post2 m nx2 e2 hJ hnx2=>?_) (fun m hJ=>hnx _ ⟨f1++[(ls,v)],f3,by rw [q1]; simp,by rw [q2]; unfold Qs; simp,by show st.1+v=_; rw [q3]; simp,fun g=>by rw [hJ.1]; simp,hJ.2⟩)
  obtain⟨hJ,hJ2⟩:=hJ
  have hynot:y ∉ pre.flatten++pre2:=fun hin=>by
   rcases List.mem_append.1 hin with hin | hin
   ·exact hnd3 y hin y (List.mem_append.2 (.inl (by rw [e2]; simp))) rfl
   ·rw [e2] at hnd4
    exact(List.nodup_append.1 hnd4).2.2 y hin y (List.mem_cons_self ..) rfl
  have hget:=hJ y
  rw [if_neg hynot] at hget
  rw [hget]
  refine Hd (Gw (J1 ⟨by decide,by decide⟩ (hnx2 _ ⟨fun g=>?_,fun e he=>?_⟩)))
  ·rw [Hdd]
   by_cases hgy:y=g
   ·subst hgy
    rw [if_pos rfl,if_pos (by simp)]
    rfl
   ·rw [if_neg hgy,hJ]
    have:(g∈pre.flatten++(pre2++[y])) ↔ g∈pre.flatten++pre2:=by
     rw [← List.append_assoc,List.mem_append,List.mem_singleton]
     exact⟨fun h=>h.elim _root_.id (fun e0=>(hgy e0.symm).elim),.inl⟩
    simp only [this]
  ·rcases mput_mem he with rfl | he
   ·exact Int.le_refl _
   ·exact hJ2 e he
 ·obtain⟨f1,f2,q1,q2,q3,_,q5⟩:=hI
  have hf2:f2=[]:=by
   have h1:=congrArg List.length q2
   rw [q1] at h1
   unfold Qs at h1
   simp only [List.length_map,List.length_append] at h1
   exact List.eq_nil_of_length_eq_zero (by omega)
  subst hf2
  rw [List.append_nil] at q1
  subst q1
  refine⟨_,H60 (c:=fun x:Ga×Int=>decide (1 < x.2)) _ (),?_⟩
  have hany:(Gu.l st.2).any (fun x:Ga×Int=>decide (1 < x.2))=false:=by
   rw [List.any_eq_false]
   intro e he
   have:=q5 e he
   simp only [decide_eq_true_eq]; omega
  rw [hany,cond_false,q3]
  rfl

/-- What chosen returns: families of the groups that there are. -/
def Chosen (pre:List G2) (out:List (List Ga)):Prop:=∃ L:List (List G2),out=L.map (fun f=>f.map (·.Ga))∧L.flatten.Sublist pre∧(∀ f∈L,(f.map (·.Ga)).Pairwise G8f)∧L.length≤pre.length
theorem chosen_spec {F:Nat} {boxes:List Gr} {g0:List G2} (hg:Jo boxes=some g0) (hl:g0.length≤10) (how:List Int) (hb:∀ x∈how,Byte x):Wp (Rv F boxes how) (Chosen g0):=by
 unfold Rv
 refine H6 hg ?_
 refine J6 Chosen ⟨[],rfl,List.Sublist.refl _,fun f hf=>(List.not_mem_nil hf).elim,Nat.le_refl _⟩ (fun pre y post out nx e hI hnx=>?_) (fun out hI=>Gw hI)
 have hpl:pre.length≤10:=by rw [e] at hl; simp only [List.length_append,List.length_cons] at hl; omega
 refine Y6 (Chosen (pre++[y])) (fun K hK=>?_) (fun j hj=>hnx _ hj)
 refine Y6 (fun _=>True) (fun K2 hK2=>Hq (fun h=>?_) (fun _=>hK2 _ trivial)) (fun j12 _=>?_)
 ·have h:=of_decide_eq_true h
  refine Hd (H0e (by omega) ?_)
  have hm:pre.length % how.length < how.length:=Nat.mod_lt _ (by omega)
  have hx:how[pre.length % how.length]? = some how[pre.length % how.length]:=List.getElem?_eq_getElem hm
  refine Jq (m:=pre.length % how.length) (by rw [Int.tmod_eq_emod_of_nonneg (by omega)]; rfl) hx ?_
  have hy:=hb _ (List.getElem_mem hm)
  unfold Byte at hy
  exact J1 ⟨by omega,by omega⟩ (Hd (H0e (by omega) (hK2 _ trivial)))
 obtain⟨L,rfl,hL1,hL2,hL3⟩:=hI
 have hLl:=hL1.length_le
 have hlen:(L.map (fun f:List G2=>f.map (·.Ga))).length=L.length:=List.length_map _
 rw [hlen]
 refine Y6 (fun j20=>j20=true→∃ L0 f,L=L0++[f]∧∀ g∈f.map (·.Ga),G8f g y.Ga) (fun K3 hK3=>Hq (fun h=>?_) (fun h=>hK3 _ (fun e=>by rw [e] at h; cases h))) (fun j20 hj=>?_)
 ·have h0:=of_decide_eq_true h
  rcases List.eq_nil_or_concat L with e0 | ⟨L0,f,e0⟩
  ·rw [e0] at h0; simp at h0
  rw [List.concat_eq_append] at e0
  refine J1 ⟨by omega,by omega⟩ (Q1 (decide_eq_true ⟨by omega,by omega⟩) ?_)
  have hlast:Jn (L.map (fun f:List G2=>f.map (·.Ga)))=f.map (·.Ga):=by
   rw [e0,List.map_append]; exact Hfa _ _
  rw [hlast]
  refine J6 (fun pre2 b=>b=true→∀ g∈pre2,G8f g y.Ga) (fun _ g hg=>(List.not_mem_nil hg).elim) (fun pre2 z post2 b nx2 e2 hJ hnx2=>?_) (fun b hJ=>hK3 _ (fun hb=>⟨L0,f,e0,hJ hb⟩))
  obtain⟨r,er,hr⟩:=cross_eq z y.Ga
  cases b with
  | false=>exact Hd (Gw (hnx2 _ (fun h=>by simp at h)))
  | true=>
   refine H6 (show (bif true then Zi z y.Ga else some default)=some r from er) (hnx2 _ (fun h g hg=>?_))
   simp only [Bool.true_and] at h
   rcases List.mem_append.1 hg with hg | hg
   ·exact hJ rfl g hg
   ·rw [List.mem_singleton.1 hg]; exact hr.1 h
 refine Hq (fun _=>hK _ ⟨L,rfl,hL1.trans (List.sublist_append_left _ _),hL2,by rw [List.length_append]; omega⟩) (fun _=>Hq (fun h=>?_) (fun _=>?_))
 ·simp only [Bool.and_eq_true] at h
  obtain⟨L0,f,e0,hcr⟩:=hj h.2
  have hLn:L.length=L0.length+1:=by rw [e0]; simp
  have hlast:Jn (L.map (fun f:List G2=>f.map (·.Ga)))=f.map (·.Ga):=by
   rw [e0,List.map_append]; exact Hfa _ _
  have hfl:(f.map (·.Ga)).length≤10:=by
   rw [e0] at hLl
   simp only [List.flatten_append,List.flatten_cons,List.flatten_nil,List.append_nil,List.length_append] at hLl
   rw [List.length_map]; omega
  rw [hlast]
  refine J1 ⟨by omega,by omega⟩ (J1 ⟨by omega,by omega⟩ (Q1 (decide_eq_true ⟨by omega,by omega⟩) (Q1 (Ro (by omega) (by omega)) (Q1 (decide_eq_true ⟨by omega,by omega⟩) (hK _ ⟨L0++[f++[y]],?_,?_,?_,?_⟩)))))
  ·unfold R5
   rw [e0]
   simp
  ·rw [e0] at hL1
   have:(L0++[f++[y]]).flatten=(L0++[f]).flatten++[y]:=by simp
   rw [this]
   exact hL1.append (List.Sublist.refl _)
  ·intro q hq
   rcases List.mem_append.1 hq with hq | hq
   ·exact hL2 q (by rw [e0]; exact List.mem_append.2 (.inl hq))
   ·rw [List.mem_singleton.1 hq,List.map_append]
    refine List.pairwise_append.2 ⟨hL2 f (by rw [e0]; simp),by simp,fun a ha b hb'=>?_⟩
    simp only [List.map_cons,List.map_nil,List.mem_singleton] at hb'
    rw [hb']; exact hcr a ha
  ·simp only [List.length_append,List.length_singleton]; omega
 ·refine Q1 (Ro (by omega) (by omega)) (hK _ ⟨L++[[y]],by simp,?_,fun q hq=>?_,by simp only [List.length_append,List.length_singleton]; omega⟩)
  ·rw [List.flatten_append]
   exact hL1.append (by simp)
  ·rcases List.mem_append.1 hq with hq | hq
   ·exact hL2 q hq
   ·rw [List.mem_singleton.1 hq]; simp

theorem lawHoldsF {F:Nat} (hF:60≤F) (hA:Yb F=some true) (hRep:RepOk F) (l:List Hm) (covers:Int) (items:List Hk) (n:Int) (how:List Int) (hp:∀ p∈l,J44 p) (hi:∀ x∈items,ItemOk x) (hn:Byte n) (hh:∀ x∈how,Byte x) :
  Qz F l covers items n how=some true:=by
 refine G4f ?_
 unfold Qz
 refine Hd (G3a (m:=min l.length 4) (by omega) (by omega) ?_)
 refine Hd (wp_mono (built_spec _ covers (fun p h=>hp p (List.mem_of_mem_take h))) (fun s hB=>?_))
 have hs:=built_small hB
 have hcl:=hB.cols.len
 have hc1:=hB.some
 have hcl4:s.Columns.length≤12:=hcl
 obtain⟨n1,n2⟩:=hn
 refine J1 ⟨by omega,by omega⟩ (Hd (H0e (by omega) ?_))
 rw [show n.tmod 5=n % 5 from Int.tmod_eq_emod_of_nonneg n1]
 have hn5:0≤n % 5∧n % 5 < 5:=by omega
 generalize n % 5=n5 at hn5
 refine J1 ⟨by omega,by omega⟩ (Hd (wp_mono (Voyage_spec hs hi (by omega) hF) (fun r9 h9=>?_)))
 obtain⟨hb,hpl⟩:=h9
 obtain⟨boxes,p⟩:=r9
 simp only at hb hpl ⊢
 have hblen:=hb.len
 refine Hd (wp_mono (plan_count3 hs hb hpl hF) (fun r11 h11=>?_))
 obtain⟨z11,out,o1,o2,o3,o4⟩:=h11
 obtain⟨g0,hg,hgl,hgt,hgu,hgn⟩:=groups_told hb
 have hr:=right_ok hs.right hb
 have hgok:∀ c∈g0,G19 c:=fun c hc=>(hgt c hc).ok
 obtain⟨T,eT,hT1,c1,hc1m,hT2⟩:=tallest_spec (s:=s) (fun e=>by rw [e] at hc1; simp at hc1)
 have hTb:0≤T∧T≤10:=by have:=(hB.cols.each c1 hc1m).tiers; omega
 have hbd:∀ ls:List G2,(∀ c∈ls,G19 c)→ls.length≤20→Wp (Qw F s ls) (fun v=>H1b F T ls (2*s.Columns.length) v∧0≤v∧v≤400):=fun ls h1 h2=>
  bound_spec eT ⟨hTb.1,by omega⟩ rfl (by omega) (hRep s.Columns.length (by omega)) h1 h2 hF
 have hnil:∀ {v:Int},H1b F T [] (2*s.Columns.length) v→v=0:=fun {v} h=>by
  obtain⟨ps,e1,_,e3⟩:=h.att
  rw [List.map_eq_nil_iff.1 e1] at e3
  exact e3.symm
 have hcalls:=hb.num
 have hslen:p.States.length≤20∧0 < p.States.length:=by have:=hpl.len; omega
 have htrip:G4e s boxes (2+n5) p.States out:=by
  refine⟨hb,hpl.len,fun k hk=>?_,fun k hk=>?_⟩
  ·have hgot:p.States[k]? = some p.States[k]:=by simp
   unfold J6e
   rw [hgot]
   exact hpl.each k _ hgot
  ·have hgot:out[k]? = some (out[k]'(by omega)):=by simp
   obtain⟨after,L,h1,h2,h3,_⟩:=o4 k _ hgot
   have hst:J6e p.States k=after:=by unfold J6e; rw [h1]; rfl
   rw [hst]
   exact⟨L,_,hgot,h2,h3⟩
 have hT':((T.toNat:Nat):Int)=T:=by omega
 have main:∀ fs:List (List G2×Int),(∀ f∈fs,FamW F s g0 f)→(Qs fs).flatten.Nodup→(fs.map (·.2)).sum≤r11.1:=fun fs h1 h2=>by
  rw [o2]
  refine J83 hF htrip (by omega) (T:=T.toNat) (by omega) (by omega) (fun c hc=>by rw [hT']; exact hT1 c hc) (fun f hf=>?_) h2
  obtain⟨a1,a2,a3,a4,a5⟩:=h1 f hf
  refine⟨a2,fun c hc=>hgt c (a1 c hc),?_⟩
  obtain⟨v,ev,hv,_⟩:=hbd f.1 (fun c hc=>hgok c (a1 c hc)) a3
  rw [a4] at ev
  rw [hT',Option.some.inj ev]; exact hv
 refine Hd (wp_mono (findF_spec hr hg hgok hgl (fun ls h1 h2=>wp_mono (hbd ls h1 h2) (fun v hv=>⟨hv.2.1,hv.2.2,fun e=>by subst e; exact hnil hv.1⟩)) hF) (fun r13 h13=>?_))
 obtain⟨e13,fs,e1,hfound,hfl⟩:=h13
 obtain⟨fams,sum,er⟩:=r13
 simp only at e13 e1 hfound ⊢
 subst e13 e1
 have hfw:∀ f∈fs,FamW F s g0 f:=fun f hf=>by
  have h:=hfound.each f hf
  have hpos:=h.pos
  exact⟨h.sub,h.cross,by have:=h.len; omega,h.val,by omega⟩
 have hsum:=hfound.sum_eq
 have hm1:=main fs hfw hfound.nodup
 have hs1:=Hd9 fs hfw
 refine H6 (J88 hr hg hgu hfw hfound.nodup (by omega)) ?_
 refine Hd (wp_mono (chosen_spec (F:=F) hg hgl how hh) (fun r17 h17=>?_))
 obtain⟨L,rfl,hL1,hL2,hL3⟩:=h17
 -- the chosen families with their bounds
 have hLf:∀ f∈L,∃ v,FamW F s g0 (f,v):=fun f hf=>by
  have hsub:∀ c∈f,c∈g0:=fun c hc=>hL1.subset (List.mem_flatten.2 ⟨f,hf,hc⟩)
  have hlen:f.length≤20:=by
   have h1:=hL1.length_le
   obtain⟨A,B,rfl⟩:=List.append_of_mem hf
   simp only [List.flatten_append,List.flatten_cons,List.length_append] at h1
   omega
  obtain⟨v,ev,_,h0,h4⟩:=hbd f (fun c hc=>hgok c (hsub c hc)) hlen
  exact⟨v,hsub,hL2 f hf,hlen,ev,h0,h4⟩
 obtain⟨gs,hgs1,hgs2⟩:∃ gs:List (List G2×Int),gs.map (·.1)=L∧∀ f∈gs,FamW F s g0 f:=by
  clear hL1 hL3 hL2
  induction L with
  | nil=>exact⟨[],rfl,fun f hf=>(List.not_mem_nil hf).elim⟩
  | cons f L ih=>
   obtain⟨v,hv⟩:=hLf f (List.mem_cons_self ..)
   obtain⟨gs,q1,q2⟩:=ih (fun f' hf'=>hLf f' (List.mem_cons_of_mem _ hf'))
   refine⟨(f,v)::gs,by rw [List.map_cons,q1],fun f' hf'=>?_⟩
   rcases List.mem_cons.1 hf' with rfl | hf'
   ·exact hv
   ·exact q2 f' hf'
 have hgo:L.map (fun f:List G2=>f.map (·.Ga))=Qs gs:=by
  rw [← hgs1,List.map_map]; rfl
 have hgn2:(Qs gs).flatten.Nodup:=by
  rw [← hgo]
  have:(L.map (fun f:List G2=>f.map (·.Ga))).flatten=L.flatten.map (·.Ga):=by rw [List.map_flatten]
  rw [this]
  exact(hL1.map _).nodup hgn
 have hgl2:gs.length≤10:=by
  have:gs.length=L.length:=by rw [← hgs1,List.length_map]
  omega
 have hm2:=main gs hgs2 hgn2
 have hs2:=Hd9 gs hgs2
 rw [hgo]
 refine H6 (J88 hr hg hgu hgs2 hgn2 (by omega)) ?_
 simp only [z11]
 refine J1 ⟨by decide,by decide⟩ (J1 ⟨by decide,by decide⟩ (J1 ⟨by decide,by decide⟩ ?_))
 have hd:((((((decide ((0:Int)+0+0+0=0))&&(decide (sum=(fs.map (·.2)).sum)))&&(decide (sum≤r11.1)))&&(decide ((gs.map (·.2)).sum≤r11.1)))&&(decide (0≤(gs.map (·.2)).sum)))&&(decide (0≤sum)))=true:=by
  simp only [Bool.and_eq_true,decide_eq_true_eq]
  exact⟨⟨⟨⟨⟨by decide,hsum⟩,by omega⟩,hm2⟩,hs2.1⟩,by omega⟩
 rw [hd]
 refine H6 (x:=true) hA (Gw rfl)
theorem lawHolds (l:List Hm) (covers:Int) (items:List Hk) (n:Int) (how:List Int) (hp:∀ p∈l,J44 p) (hi:∀ x∈items,ItemOk x) (hn:Byte n) (hh:∀ x∈how,Byte x) :
  Qz 60 l covers items n how=some true:=lawHoldsF (Nat.le_refl 60) awake27 rep60 l covers items n how hp hi hn hh
end Go.Proofs.YteoeccjboahfgaaGreat
