/-
 The moves of a voyage. MovesPlay: the law's plain mathematics.
-/
import Derived.Test.YtknalejjpofoaaaGreatMovA
import Derived.Test.YtknalejjpofoaaaGreatMplB
set_option maxRecDepth 100000
namespace Go.Proofs.YtknalejjpofoaaaGreat
open Go.RowKit

theorem built_few {s:Gw} (h:Jd6 s):Ge9 s:=⟨h.covs.len,fun x hx=>by
 rcases (h.covs.each x hx).rows with e | e <;> rw [e] <;> simp⟩
theorem H13.colIn {s:Gw} {boxes:List Gd} {l:List Stowed} (h:Ri s boxes l):∀ x∈l,H64 s x.Slot:=fun x hx=>by
 obtain⟨b,_,hb,_⟩:=h.each x hx
 exact Ga0 hb
theorem call_ok {F:Nat} {s:Gw} {boxes:List Gd} {before after:List Stowed} {lifted:List Int} (hF:60≤F) (hs:Ge9 s) (h1:Ri s boxes before) (h2:Ri s boxes after) (l1:before.length≤9) (l2:after.length≤9)
  (hL:Z9 F s boxes before after=some (lifted,0)):G7e F s boxes before after=some (J15 s before after lifted,0):=by
 refine Yq ?_
 unfold G7e
 refine Gu hL ?_
 simp only [ne_eq,not_true_eq_false,decide_false,cond_false]
 exact Gu (call_eq hF hs (H13.colIn h1) (H13.colIn h2) (by omega) (by omega)) (Gn rfl)
def H3d (l:List (List Stowed)):List Stowed:=l.getLast?.getD []
def CallAt (F:Nat) (s:Gw) (boxes:List Gd) (states:List (List Stowed)) (k:Nat) (x:List Move):Prop:=
 ∃ after lifted,states[k]? = some after∧Z9 F s boxes (H3d (states.take k)) after=some (lifted,0)∧x=J15 s (H3d (states.take k)) after lifted
theorem befSt_ok {s:Gw} {boxes:List Gd} {calls:Int} {p:H4e} (h:J38 s boxes calls p) (hb:boxes.length≤9) (k:Nat):Ri s boxes (H3d (p.States.take k))∧(H3d (p.States.take k)).length≤9:=by
 unfold H3d
 cases hg:(p.States.take k).getLast? with
 | none=>exact⟨J2c,by simp⟩
 | some st=>
  have hm:=List.mem_of_mem_take (List.mem_of_getLast? hg)
  obtain⟨j,hj⟩:=List.mem_iff_getElem?.1 hm
  have:=h.each j st hj
  exact⟨this.right,Nat.le_trans this.len hb⟩
theorem moves_voyage {F:Nat} {s:Gw} {boxes:List Gd} {calls:Int} {p:H4e} (hF:60≤F) (hsm:Small s) (hfew:Ge9 s) (hb:G23 calls boxes) (hp:J38 s boxes calls p) :
  Wp (G6e F s boxes calls p) (fun r=>r.2=0∧r.1.length=p.States.length∧∀ k x,r.1[k]? = some x→CallAt F s boxes p.States k x):=by
 unfold G6e
 refine Gu (plan_check hsm hb hp) ?_
 simp only [ne_eq,not_true_eq_false,decide_false,cond_false]
 have hbl:=hb.len
 have hbn:=hb.num
 have hpl:=hp.len
 refine J8 (fun pre st=>st.2=H3d pre∧st.1.length=pre.length∧∀ k x,st.1[k]? = some x→CallAt F s boxes p.States k x) ⟨rfl,rfl,fun k x h=>by simp at h⟩ (fun pre x post st nx e hI hnx=>?_) (fun st hI=>Gn ⟨rfl,hI.2.1,hI.2.2⟩)
 obtain⟨i1,i2,i3⟩:=hI
 have hx:p.States[pre.length]? = some x:=by rw [e]; simp
 have htake:p.States.take pre.length=pre:=by rw [e]; simp
 have hst:=hp.each _ _ hx
 have hxl:=hst.len
 have hpre:=befSt_ok hp (by omega) pre.length
 rw [htake] at hpre
 obtain⟨rl,el,hl⟩:=Q14 hsm hpre.1 hst.right hpre.2 (by omega) hF
 obtain⟨lifted,e0⟩:=rl
 have he0:e0=0:=hl.1
 subst he0
 have hp20:pre.length≤30:=by rw [e] at hpl; simp at hpl; omega
 rw [i1]
 refine Gu (call_ok hF hfew hpre.1 hst.right hpre.2 (by omega) el) (Q8 (Z5 (by rw [List.length_singleton]; omega) (by omega)) (hnx _ ⟨?_,?_,fun k y hy=>?_⟩))
 ·unfold H3d; simp
 ·simp [i2]
 ·by_cases hk:k < st.1.length
  ·rw [List.getElem?_append_left hk] at hy
   exact i3 k y hy
  ·rw [List.getElem?_append_right (by omega)] at hy
   have hk0:k - st.1.length=0:=by
    have:=(List.getElem?_eq_some_iff.1 hy).1
    simp at this; omega
   rw [hk0] at hy
   have hy:J15 s (H3d pre) x lifted=y:=by simpa using hy
   have hkk:k=pre.length:=by omega
   subst hkk
   exact⟨x,lifted,hx,by rw [htake]; exact el,by rw [htake]; exact hy.symm⟩
section
variable {α:Type} {f:α→Int}
end
section
variable {κ ν:Type} [DecidableEq κ]
end
end Go.Proofs.YtknalejjpofoaaaGreat
set_option maxRecDepth 100000
set_option linter.unusedVariables false
namespace Go.Proofs.YtknalejjpofoaaaGreat
open Go.RowKit

theorem awake30:Yh 60=some true:=by kernel_rfl
theorem Ha1 {boxes:List Gd} {k a:Int}:a∈Ge8 boxes k ↔ ∃ b∈boxes,b.ID=a∧b.Load≤k∧k < b.Discharge:=by
 unfold Ge8
 simp only [List.mem_map,List.mem_filter]
 constructor
 ·rintro⟨b,⟨h1,h2⟩,rfl⟩
  unfold abB at h2
  simp only [Bool.and_eq_true,decide_eq_true_eq] at h2
  exact⟨b,h1,rfl,h2⟩
 ·rintro⟨b,h1,rfl,h2⟩
  refine⟨b,⟨h1,?_⟩,rfl⟩
  unfold abB
  simp only [Bool.and_eq_true,decide_eq_true_eq]
  exact h2
theorem befSt_ids {s:Gw} {boxes:List Gd} {calls:Int} {p:H4e} (hb:G23 calls boxes) (h:J38 s boxes calls p) {k:Nat} (hk:k≤p.States.length):(H3d (p.States.take k)).map (·.Gd)=Ge8 boxes ((k:Int) - 1):=by
 unfold H3d
 by_cases h0:k=0
 ·subst h0
  simp only [List.take_zero,List.getLast?_nil,Option.getD_none,List.map_nil]
  refine(List.eq_nil_iff_forall_not_mem.2 fun a ha=>?_).symm
  obtain⟨b,hb1,_,h1,_⟩:=Ha1.1 ha
  have:=(hb.each b hb1).load
  have h1:b.Load≤(0:Int) - 1:=h1
  omega
 ·have hlt:k - 1 < p.States.length:=by omega
  rw [List.getLast?_take,if_neg h0,List.getElem?_eq_getElem hlt]
  have:=(h.each (k - 1) _ (List.getElem?_eq_getElem hlt)).ids
  simp only [Option.some_or,Option.getD_some]
  rw [this]
  congr 1
  omega
theorem lawPlayF {F:Nat} (hF:60≤F) (hA:Yh F=some true) (l:List Hp) (covers:Int) (items:List Hi) (n:Int) (hp:∀ p∈l,Jd3 p) (hi:∀ x∈items,ItemOk x) (hn:Byte n):R7 F l covers items n=some true:=by
 refine Yq ?_
 unfold R7
 refine H4 (wp_mono (built_spec l covers hp) (fun s hs=>?_))
 have hsm:=built_small hs
 obtain⟨n1,n2⟩:=hn
 refine Qb ⟨by omega,by omega⟩ (H4 (Hbe (by omega) ?_))
 rw [show n.tmod 5=n % 5 from Int.tmod_eq_emod_of_nonneg n1]
 refine Qb ⟨by omega,by omega⟩ ?_
 have hcalls:2≤2+n % 5∧2+n % 5≤6:=by omega
 generalize 2+n % 5=calls at hcalls
 refine H4 (wp_mono (Voyage_spec hsm hi hcalls hF) (fun r8 h8=>?_))
 obtain⟨boxes,p⟩:=r8
 obtain⟨hb,hpl⟩:=h8
 have hb:G23 calls boxes:=hb
 have hpl:J38 s boxes calls p:=hpl
 dsimp only
 have hlen:=hpl.len
 have hbl:=hb.len
 refine H4 (wp_mono (moves_voyage hF hsm (built_few hs) hb hpl) (fun r10 h10=>?_))
 obtain⟨h0,h1,h2⟩:=h10
 refine H7 (fun h=>?_) (fun _=>?_)
 ·simp only [Bool.or_eq_true,decide_eq_true_eq] at h
  omega
 refine J8 (fun pre st=>st=H3d (p.States.take pre.length)) rfl (fun pre list post st nx e hI hnx=>?_) (fun st hI=>?_)
 ·subst hI
  have hlist:r10.1[pre.length]? = some list:=by rw [e]; simp
  obtain⟨after,set,ha,hL,hcall⟩:=h2 _ _ hlist
  have hkl:=(List.getElem?_eq_some_iff.1 ha).1
  have hst:=hpl.each _ _ ha
  have hpre:=befSt_ok hpl (by omega) pre.length
  have hids:=befSt_ids hb hpl (Nat.le_of_lt hkl)
  obtain⟨rl,el,hl⟩:=Q14 hsm hpre.1 hst.right hpre.2 (by have:=hst.len; omega) hF
  rw [hL] at el
  cases el
  have hC:G12 s boxes (H3d (p.States.take pre.length)) after set:=⟨J58 hs,hpre.1,hst.right,hpre.2,by have:=hst.len; omega,hl.2.2.2⟩
  generalize H3d (p.States.take pre.length)=before at hids hC hcall
  have hida:=hst.ids
  have hinj:∀ b∈boxes,∀ c∈boxes,b.ID=c.ID→b=c:=fun b hb1 c hc1 e=>hb.inj hb1 hc1 e
  have hnd:∀ f:Gd→Bool,((boxes.filter f).map (·.ID)).Nodup:=fun f=>(Z4 hb.ids).sublist (List.filter_sublist.map _)
  refine J8 (fun pr t=>t.1=(pr.filter (fun b=>decide (b.Load=(pre.length:Int)))).map (·.ID)∧t.2=(pr.filter (fun b=>decide (b.Discharge=(pre.length:Int)))).map (·.ID)) ⟨rfl,rfl⟩ (fun pr b po t nx2 e2 hJ hnx2=>?_) (fun t hJ=>?_)
  ·obtain⟨j1,j2⟩:=hJ
   have hprl:pr.length < boxes.length:=by rw [e2]; simp
   have l1:t.1.length≤pr.length:=by rw [j1,List.length_map]; exact List.length_filter_le _ _
   have l2:t.2.length≤pr.length:=by rw [j2,List.length_map]; exact List.length_filter_le _ _
   have f1:∀ f:Gd→Bool,f b=true→((pr++[b]).filter f).map (·.ID)=(pr.filter f).map (·.ID)++[b.ID]:=fun f hf=>by
    rw [List.filter_append,List.map_append,List.filter_cons,if_pos hf]; rfl
   have f2:∀ f:Gd→Bool,f b=false→((pr++[b]).filter f).map (·.ID)=(pr.filter f).map (·.ID):=fun f hf=>by
    rw [List.filter_append,List.map_append,List.filter_cons,if_neg (by rw [hf]; decide)]; simp
   refine wp_jpI (fun j=>j.1=((pr++[b]).filter (fun b=>decide (b.Load=(pre.length:Int)))).map (·.ID)∧j.2=((pr++[b]).filter (fun b=>decide (b.Discharge=(pre.length:Int)))).map (·.ID)) (fun j hj=>hnx2 _ hj) (fun K hK=>?_)
   refine wp_jpI (fun j=>j=((pr++[b]).filter (fun b=>decide (b.Load=(pre.length:Int)))).map (·.ID)) (fun j hj=>?_) (fun K2 hK2=>H7 (fun hh=>Q8 (J2b (by rw [List.length_singleton]; omega)) (hK2 _ ?_)) (fun hh=>hK2 _ ?_))
   ·refine H7 (fun hh=>Q8 (J2b (by rw [List.length_singleton]; omega)) (hK _ ⟨hj,?_⟩)) (fun hh=>hK _ ⟨hj,?_⟩)
    ·show t.2++[b.ID]=_
     rw [f1 _ hh,j2]
    ·show t.2=_
     rw [f2 _ hh,j2]
   ·rw [f1 _ hh,j1]
   ·rw [f2 _ hh,j1]
  obtain⟨q0,gone⟩:=t
  obtain⟨j1,j2⟩:=hJ
  have j1:q0=(boxes.filter (fun b=>decide (b.Load=(pre.length:Int)))).map (·.ID):=j1
  have j2:gone=(boxes.filter (fun b=>decide (b.Discharge=(pre.length:Int)))).map (·.ID):=j2
  have m1:∀ a,a∈q0 ↔ ∃ b∈boxes,b.ID=a∧b.Load=(pre.length:Int):=fun a=>by
   rw [j1]
   simp only [List.mem_map,List.mem_filter,decide_eq_true_eq]
   exact⟨fun⟨b,⟨g1,g2⟩,g3⟩=>⟨b,g1,g3,g2⟩,fun⟨b,g1,g3,g2⟩=>⟨b,⟨g1,g2⟩,g3⟩⟩
  have m2:∀ a,a∈gone ↔ ∃ b∈boxes,b.ID=a∧b.Discharge=(pre.length:Int):=fun a=>by
   rw [j2]
   simp only [List.mem_map,List.mem_filter,decide_eq_true_eq]
   exact⟨fun⟨b,⟨g1,g2⟩,g3⟩=>⟨b,g1,g3,g2⟩,fun⟨b,g1,g3,g2⟩=>⟨b,⟨g1,g2⟩,g3⟩⟩
  have hq0l:q0.length≤20:=by
   rw [j1,List.length_map]
   have:=List.length_filter_le (fun b:Gd=>decide (b.Load=(pre.length:Int))) boxes
   omega
  have hbef:∀ a,a∈before.map (·.Gd) ↔ ∃ b∈boxes,b.ID=a∧b.Load≤(pre.length:Int) - 1∧(pre.length:Int) - 1 < b.Discharge:=fun a=>by rw [hids,Ha1]
  have haft:∀ a,a∈after.map (·.Gd) ↔ ∃ b∈boxes,b.ID=a∧b.Load≤(pre.length:Int)∧(pre.length:Int) < b.Discharge:=fun a=>by rw [hida,Ha1]
  obtain⟨q',hrun,hqn,hqm⟩:=play_call (F:=F) hC (by omega) hq0l (by rw [j1]; exact hnd _) (fun id hid hm=>by
   obtain⟨b,b1,b2,b3⟩:=(m1 id).1 hid
   obtain⟨c,c1,c2,c3,_⟩:=(hbef id).1 hm
   have:=hinj b b1 c c1 (b2.trans c2.symm)
   subst this
   omega) (fun x hx hnb=>by
   obtain⟨b,b1,b2,b3,b4⟩:=(haft x.Gd).1 (List.mem_map.2 ⟨x,hx,rfl⟩)
   refine(m1 _).2 ⟨b,b1,b2,?_⟩
   refine Classical.byContradiction fun hne=>hnb ((hbef _).2 ⟨b,b1,b2,by omega,by omega⟩))
  dsimp only
  rw [hcall,Q96 _ _ _ _ hrun]
  have hfalse:∀ {st:List Stowed} {a:Int},a ∉ st.map (·.Gd)→(Y1 st a).2≠true:=fun hn hh=>hn (Q1d.1 hh)
  have hgone:∀ a,a∈q' ↔ a∈gone:=fun a=>by
   rw [hqm,m2]
   constructor
   ·rintro⟨hh,hno⟩
    rcases hh with hh | ⟨x,hx,rfl,hm⟩
    ·obtain⟨b,b1,b2,b3⟩:=(m1 a).1 hh
     have hst2:=(hb.each b b1).stay
     obtain⟨x,hx,ex⟩:=List.mem_map.1 ((haft a).2 ⟨b,b1,b2,by omega,by omega⟩)
     have hnb:x.Gd ∉ before.map (·.Gd):=fun hm=>by
      obtain⟨c,c1,c2,c3,_⟩:=(hbef _).1 hm
      have:=hinj b b1 c c1 (by rw [b2,c2]; exact ex.symm)
      subst this
      omega
     refine(hno ⟨x,hx,ex,hC.least.seeds after (by simp) x hx fun e3=>hfalse hnb ?_⟩).elim
     rw [e3,G50 hC.aft.sorted hx]
    ·obtain⟨b,b1,b2,b3,b4⟩:=(hbef x.Gd).1 (List.mem_map.2 ⟨x,hx,rfl⟩)
     refine⟨b,b1,b2,?_⟩
     have hna:x.Gd ∉ after.map (·.Gd):=fun hm2=>by
      obtain⟨y,hy,ey⟩:=List.mem_map.1 hm2
      exact hno ⟨y,hy,ey,by rw [show y.Gd=x.Gd from ey]; exact hm⟩
     have:¬ ((pre.length:Int) < b.Discharge):=fun hlt=>hna ((haft _).2 ⟨b,b1,b2,by omega,hlt⟩)
     omega
   ·rintro⟨b,b1,b2,b3⟩
    have hst2:=(hb.each b b1).stay
    obtain⟨x,hx,ex⟩:=List.mem_map.1 ((hbef a).2 ⟨b,b1,b2,by omega,by omega⟩)
    have hna:a ∉ after.map (·.Gd):=fun hm2=>by
     obtain⟨c,c1,c2,_,c4⟩:=(haft a).1 hm2
     have:=hinj b b1 c c1 (b2.trans c2.symm)
     subst this
     omega
    refine⟨.inr ⟨x,hx,ex,hC.least.seeds before (by simp) x hx fun e3=>hfalse (st:=after) (a:=x.Gd) (by rw [show x.Gd=a from ex]; exact hna) ?_⟩,fun⟨y,hy,ey,_⟩=>hna (List.mem_map.2 ⟨y,hy,ey⟩)⟩
    rw [← e3,G50 hC.bef.sorted hx]
  have hgl:q'.length=gone.length:=((List.perm_ext_iff_of_nodup hqn (by rw [j2]; exact hnd _)).2 hgone).length_eq
  refine Y9 rfl ha (Gu (same_stow after) (H7 (fun h=>?_) (fun _=>?_)))
  ·rw [hgl] at h
   simp at h
  refine J8 (fun _ _=>True) trivial (fun pr g po u nx3 e3 _ hnx3=>?_) (fun u _=>hnx _ ?_)
  ·have hg:g∈q':=(hgone g).2 (by rw [show gone=pr++g::po from e3]; simp)
   refine J8 (fun pa b=>b=true ↔ g∈pa) ⟨fun h=>Bool.noConfusion h,fun h=>(List.not_mem_nil h).elim⟩ (fun pa y pb b nx4 e4 hK hnx4=>hnx4 _ ?_) (fun b hK=>?_)
   ·rw [Bool.or_eq_true,hK,decide_eq_true_eq,List.mem_append,List.mem_singleton]
    exact⟨fun h=>h.imp _root_.id (fun h=>h.symm),fun h=>h.imp _root_.id (fun h=>h.symm)⟩
   ·have:b=true:=hK.2 hg
    subst this
    exact H7 (fun h=>by cases h) (fun _=>hnx3 _ trivial)
  ·show after=H3d (p.States.take (pre++[list]).length)
   unfold H3d
   rw [List.length_append,List.length_singleton,List.getLast?_take,if_neg (by omega),show pre.length+1 - 1=pre.length by omega,ha]
   rfl
 ·have hl0:st=[]:=by
   rw [hI,h1]
   have hids:=befSt_ids hb hpl (Nat.le_refl p.States.length)
   have h2:Ge8 boxes ((p.States.length:Int) - 1)=[]:=by
    refine List.eq_nil_iff_forall_not_mem.2 fun a ha=>?_
    obtain⟨b,hb2,_,_,hb3⟩:=Ha1.1 ha
    have:=(hb.each b hb2).out
    omega
   rw [h2] at hids
   exact List.map_eq_nil_iff.1 hids
  subst hl0
  rw [hA]
  exact H4 (Gn (Gn rfl))
theorem lawPlay (l:List Hp) (covers:Int) (items:List Hi) (n:Int) (hp:∀ p∈l,Jd3 p) (hi:∀ x∈items,ItemOk x) (hn:Byte n):R7 60 l covers items n=some true:=
 lawPlayF (by omega) awake30 l covers items n hp hi hn
end Go.Proofs.YtknalejjpofoaaaGreat
