/-
 A call is played: what is lifted is taken,and put.
-/
import Derived.Test.YtkcdjcgifgdanaaGreatPlayA
set_option linter.unusedSimpArgs false
set_option linter.unnecessarySimpa false
set_option maxRecDepth 100000
set_option linter.unusedVariables false
namespace Go.Proofs.YtkcdjcgifgdanaaGreat
open Go.RowKit

theorem H68.len {s:Gw} {boxes:List Gd} {before l:List Stowed} {set:List Int} (h:H68 s boxes before set l):l.length≤before.length:=
 (G37 h.sta.right.sorted).length_le_of_subset (fun y hy=>h.sub y hy)
/-- Nothing can be opened nor taken any more. -/
def FinQ (s:Gw) (before after:List Stowed) (set:List Int) (l:List Stowed) (o:List Int):Prop:=
 (∀ k:Nat,k < s.Covers.length→Wnt s before after set (k:Int)→G59 s l (k:Int)→(k:Int)∈o)∧∀ id∈set,H6a s l o id
/-- Which of the lifted boxes are put by now: phase i, tier t. -/
def plc (s:Gw) (i t:Nat) (x:Slot):Prop:=(G30 s x=true∧i=1∧x.Tier < (t:Int))∨(G30 s x=false∧(i=1∨x.Tier < (t:Int)))
theorem same_stow (l:List Stowed):Qw l l=some true:=by
 refine Yn ?_
 unfold Qw
 refine H3 (fun h=>((of_decide_eq_true h) rfl).elim) (fun _=>?_)
 refine J0 (fun _ _=>True) trivial (fun pre y post u nx e _ hnx=>?_) (fun u _=>Gh rfl)
 refine Qt (x:=y) rfl (by rw [e]; simp) (H3 (fun h=>?_) (fun _=>hnx _ trivial))
 rw [decide_eq_true (rfl:y=y)] at h
 cases h
theorem wp_jpI {α β:Type} {Q:β→Prop} {m:(α→Option β)→Option β} {k:α→Option β} (P:α→Prop) (hk:∀ a,P a→Wp (k a) Q) (hm:∀ K:α→Option β,(∀ a,P a→Wp (K a) Q)→Wp (m K) Q):Wp (jp m k) Q:=hm k hk
section
variable {s:Gw} {boxes:List Gd} {before after:List Stowed} {set:List Int}
theorem Zx.colIn (h:Zx s boxes before after set) {x:Stowed} (hx:x∈before):He9 s x.Slot:=by
 obtain⟨b,_,h1,_⟩:=h.bef.each x hx
 exact G93 h1
theorem Zx.colIn2 (h:Zx s boxes before after set) {x:Stowed} (hx:x∈after):He9 s x.Slot:=by
 obtain⟨b,_,h1,_⟩:=h.aft.each x hx
 exact G93 h1
theorem Zx.tier (h:Zx s boxes before after set) {x:Stowed} (hx:x∈after):0≤x.Slot.Tier∧x.Slot.Tier < 10:=by
 obtain⟨b,_,h1,_⟩:=h.aft.each x hx
 obtain⟨m,c,_,hc,ht⟩:=h1.col
 obtain⟨c0,hh,hc0,_,e⟩:=h.ship.each c (List.mem_of_getElem? hc)
 have ht2:c.Tiers=c0.Tiers:=by rw [e]
 have:=hc0.tiers
 have:=h1.tier
 omega
/-- Where all lifted boxes are taken, the covers are open under which one will be. -/
theorem Zx.opened (h:Zx s boxes before after set) {l:List Stowed} {o:List Int} (h1:H68 s boxes before set l) (hd:∀ x∈l,x.Gd ∉ set) (hf:FinQ s before after set l o) {x:Stowed} (hx:x∈after) (hm:x.Gd∈set) (hdk:G30 s x.Slot=false):¬ H48 s o x.Slot:=by
 rintro⟨m,c,e1,e2,e3,e4⟩
 have hcd:c.Deck=false:=by rw [← H64 e1 e2]; exact hdk
 obtain⟨k,ek,hk⟩:∃ k:Nat,Qd s c=(k:Int)∧k < s.Covers.length:=by
  unfold Qd at e3 ⊢
  rcases G03 (fun x=>G96 x c) s.Covers with ⟨g1,_⟩ | ⟨m,x,g1,g2,_⟩
  ·rw [g1] at e3; omega
  ·exact⟨m,g1,(List.getElem?_eq_some_iff.1 g2).1⟩
 have hin:=hf.1 k hk ⟨x,.inr hx,hm,m,c,e1,e2,hcd,ek⟩ (fun y hy m1 c1 f1 f2 f3 f4=>
  hd y hy (h.upon (.inr hx) (.inl (h1.sub y hy)) hm ⟨m,c,m1,c1,e1,e2,f1,f2,hcd,f3,e3,by rw [f4,ek]⟩))
 rw [← ek] at hin
 rw [e4.2 hin] at hcd
 cases hcd
theorem played_spec {F:Nat} (hF:60≤F) (h:Zx s boxes before after set):Rr F s boxes before after set=some true:=by
 have hs:=G6e h.ship
 have hSR:=J82 h.ship
 have hcl:=h.ship.covs.len
 have hlb:=h.lb
 refine Yn ?_
 unfold Rr
 refine wp_loop (fun st=>H68 s boxes before set st.1∧Zm s st.2.1∧(∀ k∈st.2.1,G59 s st.1 k)∧0≤st.2.2.1∧st.2.2.1≤(before.length:Int) - (st.1.length:Int)+(st.2.1.length:Int)+(bif st.2.2.2 then 0 else 1)∧(st.2.2.2=false→FinQ s before after set st.1 st.2.1)) (fun st=>(s.Covers.length - st.2.1.length)+st.1.length+(bif st.2.2.2 then 1 else 0))
  ⟨h.start,openR_nil,fun k hk=>(List.not_mem_nil hk).elim,by show (0:Int)≤0; omega,by show (0:Int)≤(before.length:Int) - (before.length:Int)+0+0; omega,fun h=>Bool.noConfusion h⟩ (by show s.Covers.length - 0+before.length+1 < F; omega) (fun st nx hI hnx=>?_)
 obtain⟨l,o,turns,more⟩:=st
 obtain⟨hW,hO,hU,ht0,ht1,hfin⟩:=hI
 have hW:H68 s boxes before set l:=hW
 have hO:Zm s o:=hO
 have hU:∀ k∈o,G59 s l k:=hU
 have ht0:0≤turns:=ht0
 have ht1:turns≤(before.length:Int) - (l.length:Int)+(o.length:Int)+(bif more then 0 else 1):=ht1
 have hfin:more=false→FinQ s before after set l o:=hfin
 have hnx:∀ l' o' t' m',H68 s boxes before set l'→Zm s o'→(∀ k∈o',G59 s l' k)→0≤t'→t'≤(before.length:Int) - (l'.length:Int)+(o'.length:Int)+(bif m' then 0 else 1)→(m'=false→FinQ s before after set l' o')→(s.Covers.length - o'.length)+l'.length+(bif m' then 1 else 0) < (s.Covers.length - o.length)+l.length+(bif more then 1 else 0)→Wp (nx (l',o',t',m')) (·=true):=fun l' o' t' m' g1 g2 g3 g4 g5 g6 g7=>hnx (l',o',t',m') ⟨g1,g2,g3,g4,g5,g6⟩ g7
 have hll:=hW.len
 have hol:=hO.len
 dsimp only
 refine H3 (fun hc=>?_) (fun hc=>?_)
 ·have hmore:more=true:=by
   rw [Bool.and_eq_true] at hc; exact hc.1
  subst hmore
  have ht1:turns≤(before.length:Int) - (l.length:Int)+(o.length:Int):=by simpa using ht1
  refine J0 (fun pre st=>Zm s st.1∧(∀ k∈st.1,G59 s l k)∧o.length≤st.1.length∧(st.2=true→o.length < st.1.length)∧(st.2=false→st.1=o∧∀ k:Nat,k < pre.length→Wnt s before after set (k:Int)→G59 s l (k:Int)→(k:Int)∈o)) ⟨hO,hU,Nat.le_refl _,fun h=>Bool.noConfusion h,fun _=>⟨rfl,fun k hk=>(Nat.not_lt_zero _ hk).elim⟩⟩ (fun pre y post st nx2 e hJ hnx2=>?_) (fun st hJ=>?_)
  ·obtain⟨j1,j2,j3,j4,j5⟩:=hJ
   have hpl:pre.length < s.Covers.length:=by rw [e]; simp
   have hy:s.Covers[pre.length]? = some y:=by rw [e]; simp
   refine wp_jpI (fun st=>Zm s st.1∧(∀ k∈st.1,G59 s l k)∧o.length≤st.1.length∧(st.2=true→o.length < st.1.length)∧(st.2=false→st.1=o∧∀ k:Nat,k < (pre++[y]).length→Wnt s before after set (k:Int)→G59 s l (k:Int)→(k:Int)∈o)) (fun j hj=>hnx2 _ hj) (fun K hK=>?_)
   have hlast:∀ k:Nat,k < (pre++[y]).length→k < pre.length∨k=pre.length:=fun k hk=>by
    simp only [List.length_append,List.length_singleton] at hk; omega
   have keep:(st.2=false→Wnt s before after set (pre.length:Int)→G59 s l (pre.length:Int)→(pre.length:Int)∈st.1)→Wp (K (st.1,st.2)) (·=true):=fun hk=>hK _ ⟨j1,j2,j3,j4,fun hf=>⟨(j5 hf).1,fun k hkl hw hu=>by
    rcases hlast k hkl with g | rfl
    ·exact(j5 hf).2 k g hw hu
    ·rw [← (j5 hf).1]; exact hk hf hw hu⟩⟩
   refine H0 (wp_mono (open_spec hW.sta j1 (by omega) hpl) (fun r hr=>?_))
   rcases hr with ⟨hno,rfl⟩ | ⟨hu,hr0,hro,hrm⟩
   ·refine G1b rfl (G1b rfl (G1b rfl (H3 (fun h=>absurd h (by decide)) (fun _=>keep fun _ _ hu=>(hno hu).elim))))
   ·have hr0':decide (r.2=0)=true:=decide_eq_true hr0
    refine G62 hr0' (G47 _ _) ?_
    rw [hr0']
    simp only [Bool.true_and]
    by_cases hin:(pre.length:Int)∈st.1
    ·have hd:decide ((pre.length:Int)∈st.1)=true:=decide_eq_true hin
     rw [hd]
     exact G1b rfl (G1b rfl (H3 (fun h=>by cases h) (fun _=>keep fun _ _ _=>hin)))
    ·have hd:decide ((pre.length:Int)∈st.1)=false:=decide_eq_false hin
     have hd2:decide ((pre.length:Int)∈r.1)=true:=decide_eq_true ((hrm _).2 (.inr rfl))
     rw [hd]
     refine G62 rfl (G47 _ _) ?_
     rw [hd2]
     refine H0 (wp_mono (wanted_spec hSR (fun x hx=>h.colIn hx) (fun x hx=>h.colIn2 hx) set hy) (fun w hw=>?_))
     refine H3 (fun hh=>hK _ ⟨hro,fun k hk=>?_,?_,fun _=>?_,fun h=>Bool.noConfusion h⟩) (fun hh=>keep fun _ hw2 _=>?_)
     ·rcases (hrm k).1 hk with hk | rfl
      ·exact j2 k hk
      ·exact hu
     ·have:=J7e j1.sorted hrm hin
      show o.length≤r.1.length
      omega
     ·have:=J7e j1.sorted hrm hin
      show o.length < r.1.length
      omega
     ·rw [hw.2 hw2] at hh; cases hh
  obtain⟨o1,m1⟩:=st
  obtain⟨j1,j2,j3,j4,j5⟩:=hJ
  have j1:Zm s o1:=j1
  have j2:∀ k∈o1,G59 s l k:=j2
  have j3:o.length≤o1.length:=j3
  have j4:m1=true→o.length < o1.length:=j4
  have j5:m1=false→o1=o∧∀ k:Nat,k < s.Covers.length→Wnt s before after set (k:Int)→G59 s l (k:Int)→(k:Int)∈o:=j5
  have hol1:=j1.len
  refine J0 (fun pre st=>H68 s boxes before set st.1∧(∀ k∈o1,G59 s st.1 k)∧st.1.length≤l.length∧(st.2=true→m1=true∨st.1.length < l.length)∧(st.2=false→m1=false∧st.1=l∧∀ id∈pre,H6a s l o1 id)) ⟨hW,j2,Nat.le_refl _,fun h=>.inl h,fun h=>⟨h,rfl,fun id hid=>(List.not_mem_nil hid).elim⟩⟩ (fun pre y post st nx2 e hJ hnx2=>?_) (fun st hJ=>?_)
  ·obtain⟨l2,m2⟩:=st
   obtain⟨i1,i5,i2,i3,i4⟩:=hJ
   have i1:H68 s boxes before set l2:=i1
   have i5:∀ k∈o1,G59 s l2 k:=i5
   have i2:l2.length≤l.length:=i2
   have i3:m2=true→m1=true∨l2.length < l.length:=i3
   have i4:m2=false→m1=false∧l2=l∧∀ id∈pre,H6a s l o1 id:=i4
   have hy:y∈set:=by rw [e]; simp
   refine wp_jpI (fun st=>H68 s boxes before set st.1∧(∀ k∈o1,G59 s st.1 k)∧st.1.length≤l.length∧(st.2=true→m1=true∨st.1.length < l.length)∧(st.2=false→m1=false∧st.1=l∧∀ id∈pre++[y],H6a s l o1 id)) (fun j hj=>hnx2 _ hj) (fun K hK=>?_)
   refine H0 (wp_mono (take_all i1.sta j1 y) (fun r hr=>?_))
   rcases hr with ⟨hr0,hst⟩ | ⟨hr0,pre2,x,post2,e2,hxb,hr1,ho,hsh⟩
   ·refine H3 (fun h=>?_) (fun _=>hK _ ⟨i1,i5,i2,i3,fun hf=>⟨(i4 hf).1,(i4 hf).2.1,G6d (i4 hf).2.2 (by rw [← (i4 hf).2.1]; exact hst)⟩⟩)
    simp only [Bool.and_eq_true,decide_eq_true_eq] at h
    exact(hr0 h.1).elim
   ·have hW2:=i1.take e2 (by rw [hxb]; exact hy) ho
    have hlen:l2.length=(pre2++post2).length+1:=by rw [e2]; simp only [List.length_append,List.length_cons]; omega
    refine H3 (fun _=>hK _ ?_) (fun h=>?_)
    ·rw [hr1]
     exact⟨hW2,fun k hk y hy=>i5 k hk y (by rw [e2]; exact J3e hy),by show (pre2++post2).length≤l.length; omega,fun _=>.inr (by show (pre2++post2).length < l.length; omega),fun hf=>Bool.noConfusion hf⟩
    ·rw [hr0,hr1,hlen] at h
     rw [Bool.and_eq_false_iff] at h
     rcases h with h | h
     ·exact absurd rfl (of_decide_eq_false h)
     ·have:=of_decide_eq_false h; omega
  obtain⟨l2,m2⟩:=st
  obtain⟨i1,i5,i2,i3,i4⟩:=hJ
  have i1:H68 s boxes before set l2:=i1
  have i5:∀ k∈o1,G59 s l2 k:=i5
  have i2:l2.length≤l.length:=i2
  have i3:m2=true→m1=true∨l2.length < l.length:=i3
  have i4:m2=false→m1=false∧l2=l∧∀ id∈set,H6a s l o1 id:=i4
  have hll2:=i1.len
  have hgrow:m2=true→l2.length+(o.length+1)≤l.length+o1.length:=fun hm=>by
   rcases i3 hm with g | g
   ·have:=j4 g; omega
   ·omega
  refine Jy ⟨by show -9223372036854775808≤turns+1; omega,by show turns+1≤9223372036854775807; omega⟩ (hnx l2 o1 (turns+1) m2 i1 j1 i5 (by omega) ?_ (fun hf=>?_) ?_)
  ·cases m2 with
   | true=>
    have:=hgrow rfl
    simp only [cond_true]; omega
   | false=>simp only [cond_false]; omega
  ·obtain⟨f1,f2,f3⟩:=i4 hf
   obtain⟨f4,f5⟩:=j5 f1
   subst f2
   exact⟨by rw [f4]; exact f5,f3⟩
  ·cases m2 with
   | true=>
    have:=hgrow rfl
    simp only [cond_true]; omega
   | false=>simp only [cond_true,cond_false]; omega
 ·have hmore:more=false:=by
   cases more with
   | false=>rfl
   | true=>
    rw [Bool.true_and] at hc
    have:=of_decide_eq_false hc
    simp only [cond_true] at ht1
    omega
  subst hmore
  have hf:=hfin rfl
  have hd:=all_taken h hW hf.1 hf.2
  have hW2:=hW.turn h hd
  refine Qk (by decide) ?_
  rw [show (2:Int).toNat=2 from rfl]
  refine Gf2 (fun i st=>J91 s boxes after set st.1∧Zm s st.2∧(i=0→st.2=o)∧∀ x∈after,x.Gd∈set→(x∈st.1 ↔ (i=2∨(i=1∧G30 s x.Slot=false)))) ⟨hW2,hO,fun _=>rfl,fun x hx hm=>⟨fun hx2=>(hd x hx2 hm).elim,fun hh=>(by omega)⟩⟩ (fun i st nx2 hi hJ hnx2=>?_) (fun st hJ=>?_)
  ·obtain⟨l1,oc⟩:=st
   obtain⟨g1,g2,g3,g4⟩:=hJ
   have g1:J91 s boxes after set l1:=g1
   have g2:Zm s oc:=g2
   have g3:i=0→oc=o:=g3
   have g4:∀ x∈after,x.Gd∈set→(x∈l1 ↔ (i=2∨(i=1∧G30 s x.Slot=false))):=g4
   have hi01:i=0∨i=1:=by omega
   have hidec:decide ((i:Int)=1)=decide (i=1):=by
    rcases hi01 with rfl | rfl <;> rfl
   dsimp only
   rw [hidec]
   refine J0 (fun pre q=>Zm s q∧(i=0→q=o)∧(i=1→∀ a∈q,(pre.length:Int)≤a)) ⟨g2,g3,fun _ a ha=>by have:=(g2.mem a ha).1; show (0:Int)≤a; omega⟩ (fun pre y post q nx3 e hK hnx3=>?_) (fun q hK=>?_)
   ·obtain⟨k1,k2,k3⟩:=hK
    have hpl:pre.length < s.Covers.length:=by rw [e]; simp
    refine wp_jpI (fun q=>Zm s q∧(i=0→q=o)∧(i=1→∀ a∈q,((pre++[y]).length:Int)≤a)) (fun j hj=>hnx3 _ hj) (fun K hK=>?_)
    refine Gu (close_eq g1.sta k1 (by omega) hpl) ?_
    have hlen:((pre++[y]).length:Int)=(pre.length:Int)+1:=by simp
    rw [hlen] at hK
    rcases hi01 with rfl | rfl
    ·exact G1b rfl (G1b rfl (H3 (fun h=>by simp at h) (fun _=>hK _ ⟨k1,k2,fun h=>by omega⟩)))
    ·refine G62 rfl (G47 _ _) ?_
     by_cases hin:(pre.length:Int)∈q
     ·have hd1:decide ((pre.length:Int)∈q)=true:=decide_eq_true hin
      have hd2:decide ((pre.length:Int)∈Hcd q (pre.length:Int))=false:=decide_eq_false (fun h=>(mem_shutL.1 h).2 rfl)
      rw [hd1]
      refine G62 rfl (G47 _ _) ?_
      rw [hd2]
      refine H3 (fun _=>hK _ ⟨shutL_ok k1,fun h=>by omega,fun _ a ha=>?_⟩) (fun h=>by simp at h)
      obtain⟨h1,h2⟩:=mem_shutL.1 ha
      have:=k3 rfl a h1
      omega
     ·have hd1:decide ((pre.length:Int)∈q)=false:=decide_eq_false hin
      rw [hd1]
      refine G1b rfl (H3 (fun h=>by simp at h) (fun _=>hK _ ⟨k1,fun h=>by omega,fun _ a ha=>?_⟩))
      have:=k3 rfl a ha
      have:a≠(pre.length:Int):=fun e=>hin (e ▸ ha)
      omega
   ·obtain⟨k1,k2,k3⟩:=hK
    have hq:i=1→q=[]:=fun h1=>List.eq_nil_iff_forall_not_mem.2 fun a ha=>by
     have:=k3 h1 a ha
     have:=(k1.mem a ha).2
     omega
    refine Qk (by decide) ?_
    rw [show (10:Int).toNat=10 from rfl]
    refine Gf2 (fun t l2=>J91 s boxes after set l2∧∀ x∈after,x.Gd∈set→(x∈l2 ↔ plc s i t x.Slot)) ⟨g1,fun x hx hm=>?_⟩ (fun t l2 nx4 ht hL hnx4=>?_) (fun l2 hL=>hnx2 _ ⟨hL.1,k1,fun h=>by omega,fun x hx hm=>?_⟩)
    ·rw [g4 x hx hm]
     have:=(h.tier hx).1
     unfold plc
     constructor
     ·rintro(h | ⟨h1,h2⟩)
      ·omega
      ·exact .inr ⟨h2,.inl h1⟩
     ·rintro(⟨_,_,h⟩ | ⟨h1,h | h⟩)
      ·have h:x.Slot.Tier < 0:=h
       omega
      ·exact .inr ⟨h,h1⟩
      ·have h:x.Slot.Tier < 0:=h
       omega
    ·obtain⟨m1,m2⟩:=hL
     refine J0 (fun pre l3=>J91 s boxes after set l3∧∀ x∈after,x.Gd∈set→(x∈l3 ↔ plc s i t x.Slot∨(x∈pre∧x.Slot.Tier=(t:Int)∧G30 s x.Slot=decide (i=1)))) ⟨m1,fun x hx hm=>by rw [m2 x hx hm]; exact⟨.inl,fun h=>h.elim id (fun h=>(List.not_mem_nil h.1).elim)⟩⟩ (fun pre y post l3 nx5 e hN hnx5=>?_) (fun l3 hN=>hnx4 _ ⟨hN.1,fun x hx hm=>?_⟩)
     ·obtain⟨n1,n2⟩:=hN
      have hy:y∈after:=by rw [e]; simp
      refine wp_jpI (fun l3=>J91 s boxes after set l3∧∀ x∈after,x.Gd∈set→(x∈l3 ↔ plc s i t x.Slot∨(x∈pre++[y]∧x.Slot.Tier=(t:Int)∧G30 s x.Slot=decide (i=1)))) (fun j hj=>hnx5 _ hj) (fun K hK=>?_)
      have keep:(y.Gd∈set→¬ (y.Slot.Tier=(t:Int)∧G30 s y.Slot=decide (i=1)))→Wp (K l3) (·=true):=fun hk=>hK _ ⟨n1,fun x hx hm=>by
       rw [n2 x hx hm,List.mem_append,List.mem_singleton]
       constructor
       ·rintro(h | ⟨h1,h2⟩)
        ·exact .inl h
        ·exact .inr ⟨.inl h1,h2⟩
       ·rintro(h | ⟨h1 | rfl,h2⟩)
        ·exact .inl h
        ·exact .inr ⟨h1,h2⟩
        ·exact(hk hm h2).elim⟩
      by_cases hty:y.Slot.Tier=(t:Int)
      ·have hdt:decide (y.Slot.Tier=(t:Int))=true:=decide_eq_true hty
       refine G62 hdt (G47 _ _) ?_
       rw [hdt]
       simp only [Bool.true_and]
       by_cases hset:y.Gd∈set
       ·have hds:decide (y.Gd∈set)=true:=decide_eq_true hset
        obtain⟨m,c,e1,e2⟩:=h.colIn2 hy
        rw [hds,e1]
        refine G62 rfl (H85 e2 some) ?_
        have hdc:c.Deck=G30 s y.Slot:=(H64 e1 e2).symm
        rw [hdc]
        simp only [Bool.true_and]
        refine H3 (fun hb=>?_) (fun hb=>keep fun _ hh=>?_)
        ·have hb:G30 s y.Slot=decide (i=1):=eq_of_beq hb
         have hnp:¬ plc s i t y.Slot:=by
          rintro(⟨_,_,h3⟩ | ⟨h1,h2 | h3⟩)
          ·omega
          ·rw [h1,decide_eq_true h2] at hb; cases hb
          ·omega
         have hyn:y ∉ l3:=fun hyl=>by
          rcases (n2 y hy hset).1 hyl with hh | ⟨hh,_⟩
          ·exact hnp hh
          ·have hnd:=G37 h.aft.sorted
           rw [e,List.nodup_append] at hnd
           exact hnd.2.2 y hh y (by simp) rfl
         have hns:¬ H48 s q y.Slot:=by
          rcases hi01 with rfl | rfl
          ·rw [k2 rfl]
           exact h.opened hW hd hf hy hset hb
          ·rw [hq rfl]
           rintro⟨m',c',f1,f2,_,f4⟩
           have hcd:c'.Deck=true:=by rw [← H64 f1 f2]; exact hb
           exact(List.not_mem_nil (f4.1 hcd)).elim
         refine H0 (wp_mono (n1.put (F:=F) h k1 (by omega) hy hyn hns (fun z hz hzc hzt=>?_)) (fun r hr=>?_))
         ·by_cases hzs:z.Gd∈set
          ·refine(n2 z hz hzs).2 (.inl ?_)
           have hdz:G30 s z.Slot=decide (i=1):=by rw [J01 hzc]; exact hb
           rcases hi01 with rfl | rfl
           ·exact .inr ⟨hdz,.inr (by omega)⟩
           ·exact .inl ⟨hdz,rfl,by omega⟩
          ·exact n1.keep z hz hzs
         ·obtain⟨r0,hins,hr2⟩:=hr
          refine H3 (fun h=>(of_decide_eq_true h r0).elim) (fun _=>hK _ ⟨hr2,fun x hx hm=>?_⟩)
          rw [(Gdc hins).mem_iff,List.mem_cons,n2 x hx hm,List.mem_append,List.mem_singleton]
          constructor
          ·rintro(rfl | h | ⟨h1,h2⟩)
           ·exact .inr ⟨.inr rfl,hty,hb⟩
           ·exact .inl h
           ·exact .inr ⟨.inl h1,h2⟩
          ·rintro(h | ⟨h1 | h1,h2⟩)
           ·exact .inr (.inl h)
           ·exact .inr (.inr ⟨h1,h2⟩)
           ·exact .inl h1
        ·rw [hh.2] at hb
         simp at hb
       ·have hds:decide (y.Gd∈set)=false:=decide_eq_false hset
        rw [hds]
        exact G1b rfl (H3 (fun h=>by cases h) (fun _=>keep fun hm=>(hset hm).elim))
      ·have hdt:decide (y.Slot.Tier=(t:Int))=false:=decide_eq_false hty
       rw [hdt]
       exact G1b rfl (G1b rfl (H3 (fun h=>by cases h) (fun _=>keep fun _ hh=>hty hh.1)))
     ·rw [hN.2 x hx hm]
      have hcast:((t+1:Nat):Int)=(t:Int)+1:=by omega
      unfold plc
      rw [hcast]
      rcases hi01 with rfl | rfl
      ·cases hdx:G30 s x.Slot with
       | true=>simp
       | false=>simp [hx]; omega
      ·cases hdx:G30 s x.Slot with
       | true=>simp [hx]; omega
       | false=>simp
    ·rw [hL.2 x hx hm]
     have:=(h.tier hx).2
     unfold plc
     rcases hi01 with rfl | rfl
     ·cases hdx:G30 s x.Slot with
      | true=>simp
      | false=>simp; omega
     ·cases hdx:G30 s x.Slot with
      | true=>simp; omega
      | false=>simp
  ·obtain⟨g1,_,_,g4⟩:=hJ
   have:st.1=after:=g1.done h (fun x hx hm=>(g4 x hx hm).2 (.inl rfl))
   rw [this]
   exact Gu (same_stow after) (Gh rfl)
end
end Go.Proofs.YtkcdjcgifgdanaaGreat
