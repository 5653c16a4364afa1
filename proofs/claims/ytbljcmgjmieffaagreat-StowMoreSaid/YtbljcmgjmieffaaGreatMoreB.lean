/-
 StowMore: the law's plain mathematics.
-/
import Derived.Test.YtbljcmgjmieffaaGreatBuiltO
import Derived.Test.YtbljcmgjmieffaaGreatAwake09
set_option linter.unusedSimpArgs false
set_option linter.unnecessarySimpa false
set_option maxRecDepth 100000
set_option linter.unusedVariables false
namespace Go.Proofs.YtbljcmgjmieffaaGreat
open Go.RowKit

theorem Zk.mem {s:Gw} {l:List Stowed} {ids r:List Int} (h:Zk s l ids r) (hi:∀ a∈ids,a∈l.map (·.Gb)):∀ a∈r,a∈l.map (·.Gb):=
 h.least (·∈l.map (·.Gb)) (fun a b _ hp=>by
  obtain⟨x,_,_,y,hy,e,_⟩:=hp
  exact List.mem_map.2 ⟨y,hy,e⟩) hi
theorem Zk.self {s:Gw} {l:List Stowed} {ids r:List Int} (h:Zk s l ids r):Zk s l r r:=
 ⟨h.sorted,fun _ ha=>ha,h.closed,fun _ _ h2=>h2⟩
theorem Zk.mono {s:Gw} {l:List Stowed} {ids ids' r r':List Int} (h:Zk s l ids r) (h':Zk s l ids' r') (hi:∀ a∈ids,a∈ids'):∀ a∈r,a∈r':=
 h.least (·∈r') (fun a b ha hp=>h'.closed a ha b hp) (fun a ha=>h'.seeds a (hi a ha))
theorem Zk.len {s:Gw} {l:List Stowed} {ids r:List Int} (h:Zk s l ids r) (hi:∀ a∈ids,a∈l.map (·.Gb)):r.length≤l.length:=by
 have:=(G2e h.sorted).length_le_of_subset (fun a ha=>h.mem hi a ha)
 simpa using this
/-- A ship and a state as the chapter's statements make them. -/
structure Sta (s:Gw) (boxes:List Gb) (l:List Stowed):Prop where
 ship:LimOk s
 right:Yu s boxes l
 len:l.length≤10
theorem Sta.reach {F:Nat} {s:Gw} {boxes:List Gb} {l:List Stowed} {ids:List Int} (h:Sta s boxes l) (hF:40≤F) (hi:∀ a∈ids,a∈l.map (·.Gb)) :
  Wp (Q0 F s boxes l ids) (fun r=>r.2=0∧Zk s l ids r.1):=by
 have hs:=lim_small h.ship
 have hl:=h.len
 refine wp_mono (prog_reach (lim_plugs h.ship) (fun x hx=>by have:=hs.rows x hx; omega) (by have:=hs.covs; omega) (by omega) (by omega)) (fun r hr=>?_)
 rcases hr with ⟨h1,_⟩ | ⟨_,_,⟨h1,_⟩ | ⟨_,h2,h3⟩⟩
 ·exact(h1 ⟨lim_ship h.ship,h.right⟩).elim
 ·exact(h1 hi).elim
 ·exact⟨h2,h3⟩
theorem Sta.colIn {s:Gw} {boxes:List Gb} {l:List Stowed} (h:Sta s boxes l) {x:Stowed} (hx:x∈l):ColIn s x.Slot:=by
 obtain⟨b,_,h1,_⟩:=h.right.each x hx
 exact He3 h1
theorem above_at {s:Gw} {boxes:List Gb} {l:List Stowed} (h:Sta s boxes l) {x:Stowed} (hx:x∈l):Y9 l x.Gb=some (G50 l x.Slot,0):=by
 have hl:=h.len
 rw [He1 l x.Gb (by omega)]
 obtain⟨x0,hf⟩:∃ x0,H3c l x.Gb=some x0:=by
  cases hq:H3c l x.Gb with
  | some x0=>exact⟨x0,rfl⟩
  | none=>exact absurd (decide_eq_true (rfl:x.Gb=x.Gb)) (by have:=List.find?_eq_none.1 hq x hx; simp at this)
 have h1:=List.mem_of_find?_eq_some hf
 have h2:x0.Gb=x.Gb:=of_decide_eq_true (List.find?_some (p:=fun z:Stowed=>decide (z.Gb=x.Gb)) hf)
 have h3:x0=x:=H15 h.right.sorted h1 hx h2
 subst h3
 unfold Hfe
 rw [hf]
theorem pl_of {s:Gw} {boxes:List Gb} {l:List Stowed} (h:Sta s boxes l) {x:Stowed} (hx:x∈l) {b:Int} (hp:Pl s l x.Gb b):b∈G50 l x.Slot∨∃ z∈l,z.Gb=b∧upon s x.Slot z.Slot:=by
 obtain⟨z,hz,e,w,hw,ew,hh⟩:=hp
 have hzx:z=x:=H15 h.right.sorted hz hx e
 subst hzx
 rcases hh with hh | hh
 ·exact .inl (Gb7.2 ⟨w,hw,ew,hh⟩)
 ·exact .inr ⟨w,hw,ew,hh⟩
theorem over_lt {s:Gw} {boxes:List Gb} {l:List Stowed} (h:Sta s boxes l) {x:Stowed} (hx:x∈l) {d:List Int} (hd:Zk s l [x.Gb] d):(G50 l x.Slot).length < d.length:=by
 have hn:(l.map (·.Gb)).Nodup:=G2e (List.pairwise_map.2 h.right.sorted)
 have h1:(G50 l x.Slot).Nodup:=hn.sublist (List.filter_sublist.map _)
 have hx1:x.Gb ∉ G50 l x.Slot:=fun hm=>by
  obtain⟨y,hy,e,ho⟩:=Gb7.1 hm
  have:y=x:=H15 h.right.sorted hy hx e
  subst this
  have:=ho.2.1
  omega
 have h2:(x.Gb::G50 l x.Slot).Nodup:=List.nodup_cons.2 ⟨hx1,h1⟩
 have h3:=h2.length_le_of_subset (l₂:=d) (fun a ha=>by
  rcases List.mem_cons.1 ha with rfl | ha
  ·exact hd.seeds _ (by simp)
  ·obtain⟨y,hy,e,ho⟩:=Gb7.1 ha
   exact hd.closed x.Gb (hd.seeds _ (by simp)) a ⟨x,hx,rfl,y,hy,e,.inl ho⟩)
 rw [List.length_cons] at h3
 omega
theorem alone_one {s:Gw} {boxes:List Gb} {l:List Stowed} (h:Sta s boxes l) {x:Stowed} (hx:x∈l) {d:List Int} (hd:Zk s l [x.Gb] d) (ho:G50 l x.Slot=[]) (hu:∀ z,¬ upon s x.Slot z):d=[x.Gb]:=by
 refine hd.eq ⟨List.pairwise_singleton ..,fun _ ha=>ha,fun a ha b hp=>?_,fun C _ h2=>h2⟩
 rw [List.mem_singleton] at ha; subst ha
 rcases pl_of h hx hp with hb | ⟨z,_,_,hz⟩
 ·rw [ho] at hb; cases hb
 ·exact(hu _ hz).elim

theorem He8 {n m:Nat} (h:n+m≤1000):decide ((n+m)*8≤140737488355328∧n+m≤maxLen)=true:=decide_eq_true ⟨by omega,by simp only [maxLen]; omega⟩

theorem fin_and {A D:Bool} {m:Option Bool} (hA:A=true) (hD:D=true) (hm:m=some true):Wp (bnd (bif (A&&D) then m else some default) fun r=>some ((A&&D)&&r)) (·=true):=by
 subst hA hD hm
 exact⟨true,rfl,rfl⟩

theorem lawMoreF {F:Nat} (hF:40≤F) (hA:Q1 F=some true) (l:List H0) (covers:Int) (drops:List Gy) (which more:Int) (hp:∀ p∈l,H64 p) (hd:∀ x∈drops,DropOk x) (hm:Byte more) :
  Q2 F l covers drops which more=some true:=by
 refine G66 ?_
 unfold Q2
 refine H7 (wp_mono (limited_spec l covers hp) (fun s hL=>?_))
 have hs:=lim_small hL
 refine H7 (wp_mono (Loaded_spec hs hd) (fun r5 h5=>?_))
 obtain⟨_,g2,g3⟩:=h5
 have hS:Sta s r5.1 r5.2:=⟨hL,g2,by omega⟩
 have hlen:=hS.len
 obtain⟨m1,m2⟩:=hm
 refine J7 (fun _=>Hg hA (Gr rfl)) (fun hne=>?_)
 have hne:=of_decide_eq_false hne
 refine Q5 (fun pre ids=>(∀ a∈ids,a∈r5.2.map (·.Gb))∧ids.length≤pre.length) ⟨fun a ha=>(List.not_mem_nil ha).elim,Nat.le_refl _⟩ (fun pre y post ids nx e hI hnx=>?_) (fun ids hI=>?_)
 ·obtain⟨i1,i2⟩:=hI
  have hpl:pre.length < r5.2.length:=by rw [e]; simp
  refine G65 (fun t=>(∀ a∈t,a∈r5.2.map (·.Gb))∧t.length≤(pre++[y]).length) (fun K hK=>?_) (fun j hj=>hnx _ hj)
  refine H7 (G7b (m:=pre.length) rfl (by omega) ?_)
  refine J7 (fun _=>Qv (He8 (by rw [List.length_singleton]; omega)) (hK _ ⟨Y1 i1 (List.mem_map.2 ⟨y,by rw [e]; simp,rfl⟩),?_⟩)) (fun _=>hK _ ⟨i1,?_⟩)
  ·simp only [List.length_append,List.length_singleton]; omega
  ·simp only [List.length_append,List.length_singleton]; omega
 obtain⟨hids,hil⟩:=hI
 refine Qm ⟨by omega,by omega⟩ (H7 (H6c (by omega) ?_))
 rw [Int.tmod_eq_emod_of_nonneg m1]
 have hmod1:=Int.emod_nonneg more (by omega:(r5.2.length:Int)≠0)
 have hmod2:=Int.emod_lt_of_pos more (by omega:(0:Int) < (r5.2.length:Int))
 obtain⟨q,hq⟩:∃ q:Nat,more % (r5.2.length:Int)=(q:Int):=⟨(more % (r5.2.length:Int)).toNat,by omega⟩
 have hql:q < r5.2.length:=by omega
 have hxq:r5.2[q]? = some r5.2[q]:=List.getElem?_eq_getElem hql
 refine Zq hq hxq ?_
 have hx:r5.2[q]∈r5.2:=List.getElem_mem hql
 generalize r5.2[q]=x at hx
 have hxb:x.Gb∈r5.2.map (·.Gb):=List.mem_map.2 ⟨x,hx,rfl⟩
 refine H7 (wp_mono (hS.reach hF hids) (fun ra ha=>?_))
 obtain⟨a1,a2⟩:=ha
 simp only [List.nil_append]
 refine Qv (He8 (by simp only [List.length_nil]; omega)) (Qv (He8 (by simp only [List.length_cons,List.length_nil]; omega)) ?_)
 have hids2:∀ a∈ids++[x.Gb,x.Gb],a∈r5.2.map (·.Gb):=fun a ha=>by
  rcases List.mem_append.1 ha with ha | ha
  ·exact hids a ha
  ·have:a=x.Gb:=by simpa using ha
   rw [this]; exact hxb
 refine H7 (wp_mono (hS.reach hF hids2) (fun rb hb=>?_))
 obtain⟨b1,b2⟩:=hb
 refine H7 (wp_mono (hS.reach hF (a2.mem hids)) (fun rc hc=>?_))
 obtain⟨c1,c2⟩:=hc
 have hids3:∀ a∈[x.Gb],a∈r5.2.map (·.Gb):=fun a ha=>by rw [List.mem_singleton] at ha; rw [ha]; exact hxb
 refine H7 (wp_mono (hS.reach hF hids3) (fun rd hd=>?_))
 obtain⟨d1,d2⟩:=hd
 refine Hg (above_at hS hx) ?_
 have hac:rc.1=ra.1:=c2.eq a2.self
 rw [a1,b1,c1,d1,hac]
 simp only [Int.add_zero]
 refine Qm ⟨by decide,by decide⟩ (Qm ⟨by decide,by decide⟩ (Qm ⟨by decide,by decide⟩ (Qm ⟨by decide,by decide⟩ ?_)))
 refine Hg (x:=true) (by rw [same_ints]; rfl) (J7 (fun h=>by simp at h) (fun _=>?_))
 have la:=a2.len hids
 have lb:=b2.len hids2
 have ld:=d2.len hids3
 refine Q5 (fun pre m=>MapI pre m) MapI.start (fun pre y post m nx e hI hnx=>?_) (fun m hM=>?_)
 ·have hny:y ∉ pre:=by
   have:=G2e b2.sorted
   rw [e] at this
   exact fun hy=>(List.nodup_append.1 this).2.2 y hy y (by simp) rfl
  have hg:=hI.get y
  rw [if_neg hny] at hg
  rw [hg]
  exact H7 (Gr (Qm ⟨by decide,by decide⟩ (hnx _ (hI.snoc hny rfl))))
 refine Qv (He8 (by simp only [List.length_nil]; omega)) (Qv (He8 (by omega)) ?_)
 refine Q5 (fun _ _=>True) trivial (fun pre y post u nx e _ hnx=>?_) (fun u _=>?_)
 ·have hy:y∈ra.1++rd.1:=by rw [e]; simp
  have hyb:y∈rb.1:=by
   rcases List.mem_append.1 hy with h | h
   ·exact a2.mono b2 (fun a ha=>List.mem_append.2 (.inl ha)) y h
   ·exact d2.mono b2 (fun a ha=>by rw [List.mem_singleton] at ha; rw [ha]; simp) y h
  have hg:=hM.get y
  rw [if_pos hyb] at hg
  rw [hg]
  exact H7 (Gr (J7 (fun h=>(of_decide_eq_true h rfl).elim) (fun _=>hnx _ trivial)))
 ·obtain⟨mc,c,hmc,hc⟩:=hS.colIn hx
  have hlt:=over_lt hS hx d2
  have hy129:Wp (bif decide (((G50 r5.2 x.Slot).length:Int)=0) then Yj s.Columns x.Slot.G3 some else some default) (fun y=>((!(decide (((G50 r5.2 x.Slot).length:Int)=0)&&y.Deck))||decide ((rd.1.length:Int)=1))=true):=by
   refine J7 (fun h=>?_) (fun h=>Gr (by rw [h]; rfl))
   refine Zq hmc hc (Gr ?_)
   rw [h]
   cases hdk:c.Deck with
   | false=>rfl
   | true=>
    have h0:G50 r5.2 x.Slot=[]:=List.eq_nil_of_length_eq_zero (by have:=of_decide_eq_true h; omega)
    have:=alone_one hS hx d2 h0 (fun z hz=>by
     obtain⟨m0,c0,m1',c1',e1,e2,_,_,q1,_⟩:=hz
     have:m0=mc:=by omega
     subst this
     rw [hc] at e2; cases e2
     rw [hdk] at q1; cases q1)
    rw [this]; rfl
  refine H7 (wp_mono hy129 (fun y hy=>?_))
  exact fin_and hy (decide_eq_true (show ((G50 r5.2 x.Slot).length:Int) < (rd.1.length:Int) by omega)) hA
theorem lawMore (l:List H0) (covers:Int) (drops:List Gy) (which more:Int) (hp:∀ p∈l,H64 p) (hd:∀ x∈drops,DropOk x) (hm:Byte more) :
  Q2 60 l covers drops which more=some true:=lawMoreF (by omega) awake09 l covers drops which more hp hd hm
end Go.Proofs.YtbljcmgjmieffaaGreat
