/-
 Which boxes are restowed. PlanPlayed: the law's plain mathematics.
-/
import Derived.Test.YtkcdjcgifgdanaaGreatPlanV
import Derived.Test.YtkcdjcgifgdanaaGreatPlayB
set_option linter.unusedVariables false
set_option linter.unusedSimpArgs false
set_option linter.unnecessarySimpa false
set_option maxRecDepth 100000
namespace Go.Proofs.YtkcdjcgifgdanaaGreat
open Go.RowKit

/-- The state behind some calls. -/
def Gdf (l:List (List Stowed)):List Stowed:=l.getLast?.getD []
theorem befSt_ok {s:Gw} {boxes:List Gd} {calls:Int} {p:G2f} (h:J06 s boxes calls p) (hb:boxes.length≤9) (k:Nat):R1 s boxes (Gdf (p.States.take k))∧(Gdf (p.States.take k)).length≤9:=by
 unfold Gdf
 cases hg:(p.States.take k).getLast? with
 | none=>exact⟨Had,by simp⟩
 | some st=>
  have hm:=List.mem_of_mem_take (List.mem_of_getLast? hg)
  obtain⟨j,hj⟩:=List.mem_iff_getElem?.1 hm
  have:=h.each j st hj
  exact⟨this.right,Nat.le_trans this.len hb⟩
section
variable {α:Type} {f:α→Int}
end
section
variable {κ ν:Type} [DecidableEq κ]
end
/-- A box is on board before and behind a call. -/
def bothB (before after:List Stowed) (id:Int):Bool:=(R0 before id).2&&(R0 after id).2
theorem lifted_of {F:Nat} {s:Gw} {boxes:List Gd} {before after:List Stowed} {l L:List Int} (hs:Small s) (h1:R1 s boxes before) (h2:R1 s boxes after) (l1:before.length≤9) (l2:after.length≤9)
  (h:Qz F s boxes before after=some (l,0)) (hL:Q6 F s before after=some L):L=l:=by
 have e:Qz F s boxes before after=some (L,0):=by
  refine Yn ?_
  unfold Qz
  refine H0 (wp_mono (G01 hs.right hs.tier (by omega)) (fun r4 h4=>?_))
  rw [h4.2 h1]
  simp only [Bool.not_true,Bool.not_false,cond_true,Bool.false_or]
  refine H0 (wp_mono (G01 hs.right hs.tier (by omega)) (fun r5 h5=>?_))
  rw [h5.2 h2]
  simp only [Bool.not_true,cond_false]
  exact Gu hL (Gh rfl)
 rw [e] at h
 exact congrArg Prod.fst (Option.some.inj h)
/-- The restows of a call. -/
def RestowAt (F:Nat) (s:Gw) (states:List (List Stowed)) (k:Nat) (x:List Int):Prop:=
 ∃ after L,states[k]? = some after∧Q6 F s (Gdf (states.take k)) after=some L∧x=L.filter (bothB (Gdf (states.take k)) after)∧x.length≤16
theorem restow_eq {s:Gw} {boxes:List Gd} {before after:List Stowed} {F:Nat} (hs:Small s) (h1:R1 s boxes before) (h2:R1 s boxes after) (l1:before.length≤8) (l2:after.length≤8) (hF:60≤F) :
  Wp (Q6 F s before after) (fun r23=>Wp (Qr F r23 (fun z0=>G14 z0 before after)) (fun x=>Q6 F s before after=some r23∧x=r23.filter (bothB before after)∧x.length≤16)):=by
 have hU:=states_ok hs h1 h2 (by omega) (by omega)
 have hlen:(before.map (·.Gd)++after.map (·.Gd)).length≤16:=by simp only [List.length_append,List.length_map]; omega
 obtain⟨r,e,hr1,hr2⟩:=lifted_spec hU (F:=F) (by omega)
 refine⟨r,e,?_⟩
 have hrl:=hr1.length_le_of_subset (fun a ha=>hr2 a ha)
 refine⟨_,deleteFunc (p:=fun id=>(!(R0 before id).2)||(!(R0 after id).2)) (fun x _=>Yn (Gu (G28 before x) (Gu (G28 after x) (Gh rfl)))) (by omega) (by omega),e,?_,Nat.le_trans (List.length_filter_le _ _) (by omega)⟩
 refine List.filter_congr (fun x _=>?_)
 unfold bothB
 cases (R0 before x).2 <;> cases (R0 after x).2 <;> rfl
theorem prevSt_eq (l:List (List Stowed)) (k:Nat) (hk:k≤l.length):H59 l k=Gdf (l.take k):=by
 unfold H59 Gdf
 by_cases h:k=0
 ·subst h; simp
 ·rw [if_neg h,List.getLast?_take]
  rw [if_neg h]
  have:k - 1 < l.length:=by omega
  rw [List.getElem?_eq_getElem this]
  rfl
theorem plan_restows2 {s:Gw} {boxes:List Gd} {calls:Int} {p:G2f} {F:Nat} (hs:Small s) (hb:G0f calls boxes) (hp:J06 s boxes calls p) (hF:60≤F) :
  Wp (Zj F s boxes calls p) (fun r=>r.2=0∧r.1.length=p.States.length∧∀ k x,r.1[k]? = some x→RestowAt F s p.States k x):=by
 unfold Zj
 refine Gu (J7a hs hb hp) (H3 (fun h=>by simp at h) (fun _=>?_))
 refine Gu (show Gc9 p=some () from rfl) ?_
 obtain⟨ys,e0,hyl,hys⟩:=plan_steps p
 refine Gu e0 ?_
 have hcalls:p.States.length≤20:=by have:=hp.len; have:=hb.num; omega
 have hbl:=hb.len
 refine J0 (fun pre out=>out.length=pre.length∧∀ (k:Nat) x,out[k]? = some x→RestowAt F s p.States k x) ⟨rfl,fun k x h=>(by simp at h)⟩ (fun pre y post out nx e hI hnx=>?_)
  (fun out hI=>Gh ⟨rfl,hI.1.trans hyl,hI.2⟩)
 obtain⟨h1,h2⟩:=hI
 have hyk:ys[pre.length]? = some y:=by rw [e]; simp
 have hpl:pre.length < 20:=by have:=(List.getElem?_eq_some_iff.1 hyk).1; omega
 obtain⟨g1,g2⟩:=hys pre.length y hyk
 have hafter:H3d s boxes pre.length y.2:=hp.each _ _ g2
 have hkl:pre.length≤p.States.length:=by have:=(List.getElem?_eq_some_iff.1 g2).1; omega
 rw [prevSt_eq _ _ hkl] at g1
 have hbefore:=befSt_ok hp (by omega) pre.length
 have hbl8:(Gdf (p.States.take pre.length)).length≤8:=by
  unfold Gdf
  cases hg:(p.States.take pre.length).getLast? with
  | none=>simp
  | some st=>
   have hm:=List.mem_of_mem_take (List.mem_of_getLast? hg)
   obtain⟨j,hj⟩:=List.mem_iff_getElem?.1 hm
   have:=(hp.each j st hj).len
   simp only [Option.getD_some]; omega
 have hal:=hafter.len
 rw [g1]
 refine H0 (wp_mono (restow_eq hs hbefore.1 hafter.right hbl8 (by omega) hF) (fun r23 hr=>H0 (wp_mono hr (fun r25 h25=>?_))))
 refine Qk (Zo (by rw [List.length_singleton]; omega) (by omega)) (hnx _ ⟨by simp [h1],fun k x hx=>?_⟩)
 rw [List.getElem?_append] at hx
 split at hx
 ·exact h2 k x hx
 ·rename_i hk
  have hk0:k - out.length=0:=by
   have:=(List.getElem?_eq_some_iff.1 hx).1
   simp only [List.length_singleton] at this; omega
  rw [hk0] at hx
  simp only [List.getElem?_cons_zero,Option.some.injEq] at hx
  subst hx
  have:k=pre.length:=by omega
  subst this
  exact⟨y.2,r23,g2,h25⟩
end Go.Proofs.YtkcdjcgifgdanaaGreat
set_option linter.unusedSimpArgs false
set_option linter.unnecessarySimpa false
set_option maxRecDepth 100000
set_option linter.unusedVariables false
namespace Go.Proofs.YtkcdjcgifgdanaaGreat
open Go.RowKit

theorem wp_yesM {α β:Type} {Q:β→Prop} {c:Bool} {m:Option α} {d:α} {k:α→Option β} (hc:c=true) (h:Wp (bnd m k) Q):Wp (bnd (bif c then m else some d) k) Q:=by
 subst hc
 exact h
theorem awake23:Y4 60=some true:=by kernel_rfl
theorem lawPlayedF {F:Nat} (hF:60≤F) (hA:Y4 F=some true) (l:List Hi) (covers:Int) (items:List Hd) (n:Int) (hp:∀ p∈l,J42 p) (hi:∀ x∈items,ItemOk x) (hn:Byte n):Qp F l covers items n=some true:=by
 refine Yn ?_
 unfold Qp
 refine H0 (wp_mono (built_spec l covers hp) (fun s hs=>?_))
 have hsm:=built_small hs
 obtain⟨n1,n2⟩:=hn
 refine Jy ⟨by omega,by omega⟩ (H0 (H50 (by omega) ?_))
 rw [show n.tmod 5=n % 5 from Int.tmod_eq_emod_of_nonneg n1]
 refine Jy ⟨by omega,by omega⟩ ?_
 have hcalls:2≤2+n % 5∧2+n % 5≤6:=by omega
 generalize 2+n % 5=calls at hcalls
 refine H0 (wp_mono (Voyage_spec hsm hi hcalls hF) (fun r8 h8=>?_))
 obtain⟨boxes,p⟩:=r8
 obtain⟨hb,hpl⟩:=h8
 have hb:G0f calls boxes:=hb
 have hpl:J06 s boxes calls p:=hpl
 dsimp only
 have hlen:=hpl.len
 have hbl:=hb.len
 have hsl:p.States.length≤6:=by omega
 refine Gu (J7a hsm hb hpl) ?_
 have hc0:((decide ((0:Int)≠0))||(decide ((p.States.length:Int)≠calls)))=false:=by
  rw [decide_eq_false (fun h=>h rfl),decide_eq_false (fun h=>h hlen)]; rfl
 dsimp only
 rw [hc0]
 have hlast:p.States[p.States.length - 1]? = some (p.States[p.States.length - 1]'(by omega)):=List.getElem?_eq_getElem (by omega)
 have hls:=hpl.each _ _ hlast
 generalize p.States[p.States.length - 1]'(by omega)=last at hlast hls
 refine wp_yesM rfl (H0 (Jy ⟨by omega,by omega⟩ (Gh ?_)))
 refine wp_yesM rfl (H0 (Qt (m:=p.States.length - 1) (by omega) hlast (Gh ?_)))
 have hl0:last=[]:=by
  have h1:=hls.ids
  have h2:H3c boxes ((p.States.length - 1:Nat):Int)=[]:=by
   refine List.eq_nil_iff_forall_not_mem.2 fun a ha=>?_
   obtain⟨b,hb1,_⟩:=List.mem_map.1 ha
   obtain⟨hb2,hb3⟩:=List.mem_filter.1 hb1
   have:=(hb.each b hb2).out
   unfold abB at hb3
   simp only [Bool.and_eq_true,decide_eq_true_eq] at hb3
   omega
  rw [h2] at h1
  exact List.map_eq_nil_iff.1 h1
 refine H3 (fun h=>?_) (fun _=>?_)
 ·rw [hl0] at h; cases h
 refine H0 (wp_mono (plan_restows2 hsm hb hpl hF) (fun r17 h17=>?_))
 obtain⟨h0,h1,h2⟩:=h17
 refine H3 (fun h=>?_) (fun _=>?_)
 ·simp only [Bool.or_eq_true,decide_eq_true_eq] at h
  omega
 refine J0 (fun pre st=>st=Gdf pre) rfl (fun pre after post st nx e hI hnx=>?_) (fun st hI=>Gu hA (Gh rfl))
 subst hI
 have hx:p.States[pre.length]? = some after:=by rw [e]; simp
 have htake:p.States.take pre.length=pre:=by rw [e]; simp
 have hst:=hpl.each _ _ hx
 have hxl:=hst.len
 have hpre:=befSt_ok hpl (by omega) pre.length
 rw [htake] at hpre
 obtain⟨rl,el,hl⟩:=lifted_law hsm hpre.1 hst.right hpre.2 (by omega) hF
 obtain⟨set,e0⟩:=rl
 obtain⟨q0,_,_,q3⟩:=hl
 have q0:e0=0:=q0
 subst q0
 have hC:Zx s boxes (Gdf pre) after set:=⟨Hdb hs,hpre.1,hst.right,hpre.2,by omega,q3⟩
 refine Gu el (G62 (by simp) (played_spec hF hC) (H3 (fun h=>by simp at h) (fun _=>?_)))
 have hlt:pre.length < r17.1.length:=by rw [h1]; exact(List.getElem?_eq_some_iff.1 hx).1
 have hy:r17.1[pre.length]? = some r17.1[pre.length]:=List.getElem?_eq_getElem hlt
 have hro:=h2 _ _ hy
 generalize r17.1[pre.length]=y at hy hro
 obtain⟨after',L,ha',hL,hyL,_⟩:=hro
 rw [hx] at ha'; cases ha'
 rw [htake] at hL hyL
 have hLs:=lifted_of hsm hpre.1 hst.right hpre.2 (by omega) el hL
 subst hLs
 refine J0 (fun _ _=>True) trivial (fun pr b po u nx2 e2 _ hnx2=>?_) (fun u _=>hnx _ (by unfold Gdf; simp))
 have hval:decide (b.ID∈y)=((decide (b.ID∈L)&&H5f (Gdf pre) b.ID)&&H5f after b.ID):=by
  rw [Bool.eq_iff_iff,decide_eq_true_eq,Bool.and_eq_true,Bool.and_eq_true,decide_eq_true_eq,Hb3,Hb3,hyL,List.mem_filter]
  unfold bothB
  rw [Bool.and_eq_true,Hb4,Hb4]
  exact⟨fun⟨a,b,c⟩=>⟨⟨a,b⟩,c⟩,fun⟨⟨a,b⟩,c⟩=>⟨a,b,c⟩⟩
 have fin:∀ v:Bool,v=((decide (b.ID∈L)&&H5f (Gdf pre) b.ID)&&H5f after b.ID)→Wp (Rx r17.1 (pre.length:Int) fun y75=>bnd (Hy y75 b.ID) fun r77=>bif (!(v==r77)) then some false else nx2 ()) (·=true):=fun v hv=>by
  refine Qt rfl hy (Gu (G47 y b.ID) ?_)
  rw [hval,← hv]
  exact H3 (fun h=>by simp at h) (fun _=>hnx2 _ trivial)
 refine Gu (G47 L b.ID) ?_
 cases hq:decide (b.ID∈L) with
 | false=>
  refine G1b rfl (G1b rfl (fin _ ?_))
  rw [hq]; simp
 | true=>
  refine G62 rfl (law23_holds _ _) ?_
  cases hq2:H5f (Gdf pre) b.ID with
  | false=>
   refine G1b rfl (fin _ ?_)
   rw [hq,hq2]; simp
  | true=>
   refine G62 rfl (law23_holds _ _) (fin _ ?_)
   rw [hq,hq2]
theorem lawPlayed (l:List Hi) (covers:Int) (items:List Hd) (n:Int) (hp:∀ p∈l,J42 p) (hi:∀ x∈items,ItemOk x) (hn:Byte n):Qp 60 l covers items n=some true:=
 lawPlayedF (by omega) awake23 l covers items n hp hi hn
end Go.Proofs.YtkcdjcgifgdanaaGreat
