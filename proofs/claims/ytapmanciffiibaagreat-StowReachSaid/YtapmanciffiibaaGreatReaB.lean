/-
 The examples of the chapter. StowReach: the law.
-/
import Derived.Test.YtapmanciffiibaaGreatXP
import Derived.Test.YtapmanciffiibaaGreatReaA
set_option linter.unusedVariables false
set_option linter.unusedSimpArgs false
set_option linter.unnecessarySimpa false
set_option maxRecDepth 100000
namespace Go.Proofs.YtapmanciffiibaaGreat
open Go.RowKit
theorem awake09 : Qx 60 = some true := by kernel_rfl
end Go.Proofs.YtapmanciffiibaaGreat
set_option linter.unusedSimpArgs false
set_option linter.unnecessarySimpa false
set_option maxRecDepth 100000
set_option linter.unusedVariables false
namespace Go.Proofs.YtapmanciffiibaaGreat
open Go.RowKit

theorem max_tier:∀ (l:List Stowed) (p:Stowed→Prop),(∃ x∈l,p x)→∃ x∈l,p x∧∀ y∈l,p y→y.Slot.Tier≤x.Slot.Tier:=by
 intro l p
 induction l with
 | nil=>rintro⟨x,hx,_⟩; cases hx
 | cons z r ih=>
  intro hex
  by_cases hr:∃ x∈r,p x
  ·obtain⟨x,hx,hp,hmax⟩:=ih hr
   by_cases hz:p z∧x.Slot.Tier < z.Slot.Tier
   ·refine⟨z,List.mem_cons_self ..,hz.1,fun y hy hpy=>?_⟩
    rcases List.mem_cons.1 hy with rfl | hy
    ·exact Int.le_refl _
    ·have:=hmax y hy hpy
     have:=hz.2
     omega
   ·refine⟨x,List.mem_cons_of_mem _ hx,hp,fun y hy hpy=>?_⟩
    rcases List.mem_cons.1 hy with rfl | hy
    ·have:¬ x.Slot.Tier < y.Slot.Tier:=fun h=>hz ⟨hpy,h⟩
     omega
    ·exact hmax y hy hpy
  ·obtain⟨x,hx,hp⟩:=hex
   rcases List.mem_cons.1 hx with rfl | hx
   ·refine⟨x,List.mem_cons_self ..,hp,fun y hy hpy=>?_⟩
    rcases List.mem_cons.1 hy with rfl | hy
    ·exact Int.le_refl _
    ·exact(hr ⟨y,hy,hpy⟩).elim
   ·exact(hr ⟨x,hx,hp⟩).elim
/-- It stands on deck. -/
def OnDeck (s:Gu) (x:Stowed):Prop:=∃ (m:Nat) (c:G3),x.Slot.G3=(m:Int)∧s.Columns[m]? = some c∧c.Deck=true
theorem over_none {s:Gu} {boxes:List Ga} {L0 l:List Stowed} {set:List Int} {ids:List Int} (h0:Hbb s boxes L0) (hsub:∀ x∈l,x∈L0) (hd:Yt s L0 ids set) {x:Stowed} (hx:x∈l) (hxs:x.Ga∈set) {p:Stowed→Prop} (hp:∀ y∈l,y.Ga∈set→y.Slot.G3=x.Slot.G3→p y)
  (hmax:∀ y∈l,p y→y.Slot.Tier≤x.Slot.Tier):Zb l x.Slot=[]:=by
 refine List.eq_nil_iff_forall_not_mem.2 fun b hb=>?_
 obtain⟨y,hy,rfl,hov⟩:=G2a.1 hb
 have h1:y.Ga∈set:=hd.closed x.Ga hxs y.Ga ⟨x,hsub x hx,rfl,y,hsub y hy,rfl,.inl hov⟩
 have:=hmax y hy (hp y hy h1 hov.1)
 have:=hov.2.1
 omega
/-- With nothing kept back all that is reached for is taken. -/
theorem all_gone {s:Gu} {boxes:List Ga} {L0 l:List Stowed} {set ids:List Int} {never:Int} {o:List Int} {n:Int} (h0:Hbb s boxes L0) (h:EmI s boxes L0 set never l o n) (hf:FinB s set never l o) (hd:Yt s L0 ids set) (hn:∀ a∈set,a≠never) :
  ∀ x∈l,x.Ga ∉ set:=by
 have hdeck:∀ x∈l,¬ (x.Ga∈set∧OnDeck s x):=fun x0 hx0 hp0=>by
  obtain⟨x,hx,⟨hxs,hxd⟩,hmax⟩:=max_tier l (fun x=>x.Ga∈set∧OnDeck s x) ⟨x0,hx0,hp0⟩
  obtain⟨m,c,e1,e2,e3⟩:=hxd
  have hov:=over_none h0 h.sub hd hx hxs (fun y _ hys hyc=>⟨hys,m,c,hyc.trans e1,e2,e3⟩) hmax
  rcases hf.2 x.Ga hxs (hn _ hxs) x hx rfl with hh | ⟨m',c',q1,q2,q3,_⟩
  ·exact hh hov
  ·have:m'=m:=by omega
   subst this
   rw [e2] at q2; cases q2
   rw [e3] at q3; cases q3
 intro x0 hx0 hp0
 obtain⟨x,hx,hxs,hmax⟩:=max_tier l (fun x=>x.Ga∈set) ⟨x0,hx0,hp0⟩
 have hov:=over_none h0 h.sub hd hx hxs (fun y _ hys _=>hys) hmax
 rcases hf.2 x.Ga hxs (hn _ hxs) x hx rfl with hh | ⟨m,c,e1,e2,e3,e4,e5⟩
 ·exact hh hov
 have hcov:∃ k:Nat,Qe s c=(k:Int)∧k < s.Covers.length:=by
  unfold Qe at e4 ⊢
  rcases Yp (fun x=>G72 x c) s.Covers with ⟨h1,_,_⟩ | ⟨k,z,h1,h2,_,_⟩
  ·omega
  ·exact⟨k,h1,(List.getElem?_eq_some_iff.1 h2).1⟩
 obtain⟨k,hk,hkl⟩:=hcov
 rw [hk] at e5
 refine e5 (hf.1 k hkl fun y hy m1 c1 q1 q2 q3 q4=>?_)
 have:y.Ga∈set:=hd.closed x.Ga hxs y.Ga ⟨x,h.sub x hx,rfl,y,h.sub y hy,rfl,.inr ⟨m,c,m1,c1,e1,e2,q1,q2,e3,q3,e4,by rw [q4,hk]⟩⟩
 exact hdeck y hy ⟨this,m1,c1,q1,q2,q3⟩
theorem all_num {s:Gu} {boxes:List Ga} {L0 l:List Stowed} {set ids:List Int} {never:Int} {o:List Int} {n:Int} (h0:Hbb s boxes L0) (h:EmI s boxes L0 set never l o n) (hd:Yt s L0 ids set) (hi:∀ a∈ids,a∈L0.map (·.Ga)) (hg:∀ x∈l,x.Ga ∉ set):n=(set.length:Int):=by
 have h1:=h.le h0
 have hnl:(l.map (·.Ga)).Nodup:=R7 (List.pairwise_map.2 h.sta.right.sorted)
 have h2:(set++l.map (·.Ga)).Nodup:=List.nodup_append.2 ⟨R7 hd.sorted,hnl,fun a ha b hb e=>by
  obtain⟨x,hx,e2⟩:=List.mem_map.1 hb
  refine hg x hx ?_
  have e2:x.Ga=b:=e2
  rw [e2,← e]; exact ha⟩
 have h3:=h2.length_le_of_subset (l₂:=L0.map (·.Ga)) (fun a ha=>by
  rcases List.mem_append.1 ha with ha | ha
  ·exact hd.mem hi a ha
  ·obtain⟨x,hx,rfl⟩:=List.mem_map.1 ha
   exact List.mem_map.2 ⟨x,h.sub x hx,rfl⟩)
 rw [List.length_append,List.length_map,List.length_map] at h3
 have:=h.num
 omega
/-- With one of it kept back not all can be taken. -/
theorem one_left {s:Gu} {boxes:List Ga} {L0 l:List Stowed} {set ids:List Int} {never:Int} {o:List Int} {n:Int} (h:EmI s boxes L0 set never l o n) (hd:Yt s L0 ids set) (hi:∀ a∈ids,a∈L0.map (·.Ga)) (hn:never∈set):∃ x∈l,x.Ga∈ids:=by
 refine Classical.byContradiction fun hno=>?_
 have hall:=hd.least (fun a=>a ∉ l.map (·.Ga)) (fun a b ha hp=>h.closed a b ha hp) (fun a ha hm=>by
  obtain⟨x,hx,rfl⟩:=List.mem_map.1 hm
  exact hno ⟨x,hx,ha⟩) never hn
 obtain⟨x,hx,e⟩:=List.mem_map.1 (hd.mem hi never hn)
 have e:x.Ga=never:=e
 by_cases hl:x∈l
 ·exact hall (List.mem_map.2 ⟨x,hl,e⟩)
 ·exact(h.gone x hx hl).2 e
theorem on_spec (l:List Stowed) (ids:List Int):Wp (R1 l ids) (fun r=>r=true ↔ ∃ x∈l,x.Ga∈ids):=by
 unfold R1
 refine Jp (fun pre _=>∀ x∈pre,x.Ga ∉ ids) (fun x hx=>(List.not_mem_nil hx).elim) (fun pre y post u nx e hI hnx=>?_) (fun u hI=>Gf (G70 fun⟨x,hx,h⟩=>hI x hx h))
 refine Jp (fun pr _=>y.Ga ∉ pr) (fun h=>(List.not_mem_nil h).elim) (fun pr z po u2 nx2 e2 hJ hnx2=>?_) (fun u2 hJ=>hnx _ (R4 hI hJ))
 refine Ha (fun h=>Gf ⟨fun _=>⟨y,by rw [e]; simp,by rw [of_decide_eq_true h,e2]; simp⟩,fun _=>rfl⟩) (fun h=>hnx2 _ (fun hm=>?_))
 rcases List.mem_append.1 hm with hm | hm
 ·exact hJ hm
 ·exact of_decide_eq_false h (List.mem_singleton.1 hm)
theorem id_pos (l:List Gy) {id:Int} {b:Ga} (h:Yw (G16 l) id=some b):id≠0:=by
 unfold Yw at h
 have h1:=List.mem_of_find?_eq_some h
 have h2:b.ID=id:=of_decide_eq_true (List.find?_some (p:=fun b:Ga=>decide (b.ID=id)) h)
 unfold G16 at h1
 obtain⟨p,_,rfl⟩:=List.mem_map.1 h1
 have h3:(5*((p.2+1:Nat):Int))=id:=h2
 omega
theorem lawReachF {F:Nat} (hF:40≤F) (hA:Qx F=some true) (l:List H2) (covers:Int) (drops:List Gy) (which:Int) (hp:∀ p∈l,H74 p) (hd:∀ x∈drops,DropOk x) :
  Q5 F l covers drops which=some true:=by
 refine G35 ?_
 unfold Q5
 refine Gz (wp_mono (limited_spec l covers hp) (fun s hL=>?_))
 have hs:=G4f hL
 refine Gz (wp_mono (Loaded_spec hs hd) (fun r5 h5=>?_))
 obtain⟨g1,g2,g3⟩:=h5
 have hS:Hbb s r5.1 r5.2:=⟨hL,g2,by omega⟩
 have hlen:=hS.len
 refine Jp (fun pre ids=>(∀ a∈ids,a∈r5.2.map (·.Ga))∧ids.length≤pre.length∧∃ q:List Stowed,q.Sublist pre∧ids=q.map (·.Ga)) ⟨fun a ha=>(List.not_mem_nil ha).elim,Nat.le_refl _,[],List.Sublist.refl _,rfl⟩ (fun pre y post ids nx e hI hnx=>?_) (fun ids hI=>?_)
 ·obtain⟨i1,i2,q,i3,i4⟩:=hI
  have hpl:pre.length < r5.2.length:=by rw [e]; simp
  refine G26 (fun t=>(∀ a∈t,a∈r5.2.map (·.Ga))∧t.length≤(pre++[y]).length∧∃ q:List Stowed,q.Sublist (pre++[y])∧t=q.map (·.Ga)) (fun K hK=>?_) (fun j hj=>hnx _ hj)
  refine Gz (G88 (m:=pre.length) rfl (by omega) ?_)
  refine Ha (fun _=>Rw (room8L (by rw [List.length_singleton]; omega)) (hK _ ⟨R4 i1 (List.mem_map.2 ⟨y,by rw [e]; simp,rfl⟩),?_,q++[y],i3.append (List.Sublist.refl _),by rw [i4,List.map_append]; rfl⟩)) (fun _=>hK _ ⟨i1,?_,q,i3.trans (List.sublist_append_left ..),i4⟩)
  ·simp only [List.length_append,List.length_singleton]; omega
  ·simp only [List.length_append,List.length_singleton]; omega
 obtain⟨hids,hil,q,hq,hidq⟩:=hI
 have hidn:ids.Nodup:=by
  rw [hidq]
  have hn:(r5.2.map (·.Ga)).Nodup:=R7 (List.pairwise_map.2 g2.sorted)
  exact hn.sublist (hq.map _)
 refine Gz (wp_mono (hS.reach hF hids) (fun ra ha=>?_))
 obtain⟨a1,a2⟩:=ha
 have hidl:ids.length≤ra.1.length:=hidn.length_le_of_subset a2.seeds
 refine Ha (fun h=>?_) (fun _=>?_)
 ·simp only [Bool.or_eq_true,decide_eq_true_eq] at h
  rcases h with h | h
  ·exact(h a1).elim
  ·omega
 have hn0:∀ a∈ra.1,a≠0:=fun a ha=>by
  obtain⟨x,hx,rfl⟩:=List.mem_map.1 (a2.mem hids a ha)
  obtain⟨b,hb,_⟩:=g2.each x hx
  rw [g1] at hb
  exact id_pos _ hb
 refine Gz (wp_mono (H6e hS ra.1 0 hF) (fun r hr=>?_))
 obtain⟨o,hE,hfin⟩:=hr
 have hg:=all_gone hS hE hfin a2 hn0
 have hnum:=all_num hS hE a2 hids hg
 have hdn:decide (r.2≠(ra.1.length:Int))=false:=decide_eq_false (fun h=>h hnum)
 rw [hdn]
 refine Gz (Ha (fun _=>wp_mono (on_spec r.1 ra.1) (fun r42 h42=>?_)) (fun h=>by cases h))
 have h42':r42=false:=by
  cases r42 with
  | false=>rfl
  | true=>
   obtain⟨x,hx,h⟩:=h42.1 rfl
   exact(hg x hx h).elim
 rw [h42']
 have hrl:=hE.sta.len
 refine Gz (Ha (fun _=>wp_mono (Gda hs.right hs.tier (by omega)) (fun r43 h43=>?_)) (fun h=>by cases h))
 rw [h43.2 hE.sta.right]
 refine Ha (fun h=>by cases h) (fun _=>?_)
 refine Jp (fun _ _=>True) trivial (fun pre y post u nx e _ hnx=>?_) (fun u _=>?_)
 ·refine Gz (wp_mono (H6e hS ra.1 y hF) (fun r2 hr2=>?_))
  obtain⟨o2,hE2,_⟩:=hr2
  have hex:=one_left hE2 a2 hids (by rw [e]; simp)
  refine Gz (wp_mono (on_spec r2.1 ids) (fun r75 h75=>?_))
  rw [h75.2 hex]
  exact Ha (fun h=>by cases h) (fun _=>hnx _ trivial)
 ·exact H3 hA (Gf rfl)
theorem lawReach (l:List H2) (covers:Int) (drops:List Gy) (which:Int) (hp:∀ p∈l,H74 p) (hd:∀ x∈drops,DropOk x) :
  Q5 60 l covers drops which=some true:=lawReachF (by omega) awake09 l covers drops which hp hd
end Go.Proofs.YtapmanciffiibaaGreat
