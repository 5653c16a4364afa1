/-
 The examples of the chapter. BlockPairs: the law's plain mathematics. BlockLeaves: the law's plain mathematics.
-/
import Derived.Test.YtpgkkengffpnpaaGreatXP
import Derived.Test.YtpgkkengffpnpaaGreatBlkA
set_option linter.unusedVariables false
set_option linter.unusedSimpArgs false
set_option linter.unnecessarySimpa false
set_option maxRecDepth 100000
namespace Go.Proofs.YtpgkkengffpnpaaGreat
open Go.RowKit
theorem awake22:Jc 60=some true:=by kernel_rfl
end Go.Proofs.YtpgkkengffpnpaaGreat
set_option linter.unusedSimpArgs false
set_option linter.unnecessarySimpa false
set_option maxRecDepth 100000
set_option linter.unusedVariables false
namespace Go.Proofs.YtpgkkengffpnpaaGreat
open Go.RowKit

theorem fin_yes {A:Bool} {m:Option Bool} (hA:A=true) (hm:m=some true):Wp (bnd (bif A then m else some default) fun r=>some (A&&r)) (·=true):=by
 subst hA hm
 exact⟨true,rfl,rfl⟩
end Go.Proofs.YtpgkkengffpnpaaGreat
set_option linter.unusedSimpArgs false
set_option linter.unnecessarySimpa false
set_option maxRecDepth 100000
set_option linter.unusedVariables false
namespace Go.Proofs.YtpgkkengffpnpaaGreat
open Go.RowKit

theorem H40 {boxes:List G9} {m half:Int} (p:Stowed→Bool):∀ (l:List Stowed),G26 boxes (l.filter p) m half≤G26 boxes l m half:=by
 intro l
 induction l with
 | nil=>exact Int.le_refl _
 | cons x r ih=>
  unfold G26 at *
  have h0:=(J23 (boxes:=boxes) (column:=m) (half:=half) (n:=0) (x:=x)).1
  rw [List.foldl_cons,H19 r]
  rw [List.filter_cons]
  split
  ·rw [List.foldl_cons,H19 (r.filter p)]
   omega
  ·omega
/-- Boxes are taken, and with each one those that stand over it. -/
theorem right_filter {s:Gr} {boxes:List G9} {l:List Stowed} (h:Y1 s boxes l) (p:Stowed→Bool) (hc:∀ x∈l,∀ y∈l,p x=false→H07 y.Slot x.Slot→p y=false):Y1 s boxes (l.filter p):=by
 refine⟨fun y hy=>?_,h.sorted.sublist List.filter_sublist,h.apart.sublist List.filter_sublist,fun m c hm=>?_⟩
 ·obtain⟨hyl,hyp⟩:=List.mem_filter.1 hy
  obtain⟨b,h1,h2,h3⟩:=h.each y hyl
  refine⟨b,h1,h2,?_⟩
  have key:∀ half,(half=y.Slot.Half∨y.Slot.Half=0)→below (l.map (·.Slot)) y.Slot half→below ((l.filter p).map (·.Slot)) y.Slot half:=fun half hh hb=>by
   obtain⟨z,hz,e⟩:=J0f hb
   refine List.mem_map.2 ⟨z,List.mem_filter.2 ⟨hz,?_⟩,e⟩
   cases hpz:p z with
   | true=>rfl
   | false=>
    have:=hc z hz y hyl hpz (by
     rw [e]
     refine⟨rfl,by simp only; omega,?_⟩
     rcases hh with hh | hh
     ·exact .inl hh.symm
     ·exact .inr (.inl hh))
    rw [hyp] at this; cases this
  rcases h3 with h | h | ⟨h0,h1,h2⟩
  ·exact .inl h
  ·exact .inr (.inl (key _ (.inl rfl) h))
  ·exact .inr (.inr ⟨h0,key _ (.inr h0) h1,key _ (.inr h0) h2⟩)
 ·have:=h.fits m c hm
  unfold H53 at this ⊢
  have a1:=H40 (boxes:=boxes) (m:=(m:Int)) (half:=1) p l
  have a2:=H40 (boxes:=boxes) (m:=(m:Int)) (half:=2) p l
  rcases this with h | ⟨h,h'⟩
  ·exact .inl h
  ·exact .inr ⟨by omega,by omega⟩
/-- What Leaving tells. -/
structure LeavP (s:Gr) (boxes:List G9) (l:List Stowed) (next:Int) (leave others:List Int):Prop where
 le:∀ x∈l,next≤Qx boxes x.G9
 at_:∃ x∈l,Qx boxes x.G9=next
 lev:∀ b,b∈leave ↔ b∈l.map (·.G9)∧Qx boxes b=next
 oth:∀ b,b∈others ↔ H72 s l leave b∧Qx boxes b≠next
theorem Leaving_spec {F:Nat} {s:Gr} {boxes:List G9} {l:List Stowed} (h:Hd5 s boxes l) (hF:40≤F) (hne:l≠[]) :
  Wp (Y0 F s boxes l) (fun r=>r.2.2.2=0∧LeavP s boxes l r.1 r.2.1 r.2.2.1):=by
 have hl:=h.len
 obtain⟨x0,r0,rfl⟩:∃ x0 r0,l=x0::r0:=by
  cases l with
  | nil=>exact(hne rfl).elim
  | cons x r=>exact⟨x,r,rfl⟩
 unfold Y0
 refine H0 h.rightM (Hi (fun h=>by cases h) (fun _=>Hi (fun h=>?_) (fun _=>?_)))
 ·have:=of_decide_eq_true h; simp only [List.length_cons] at this; omega
 refine Y2 (m:=0) rfl rfl (H0 (G68 boxes x0.G9) ?_)
 refine Jz (fun pre n=>n≤Qx boxes x0.G9∧(∀ x∈pre,n≤Qx boxes x.G9)∧∃ x∈x0::r0,Qx boxes x.G9=n) ⟨Int.le_refl _,fun x hx=>(List.not_mem_nil hx).elim,x0,by simp,rfl⟩ (fun pre y post n nx e hI hnx=>?_) (fun n hI=>?_)
 ·obtain⟨i0,i1,x,hx,i2⟩:=hI
  refine H0 (G68 boxes y.G9) (hnx _ ⟨by omega,Y7 (P:=fun x:Stowed=>min n (Qx boxes y.G9)≤Qx boxes x.G9) (fun z hz=>by have:=i1 z hz; omega) (by omega),?_⟩)
  rcases Int.le_total n (Qx boxes y.G9) with hh | hh
  ·exact⟨x,hx,by omega⟩
  ·exact⟨y,by rw [e]; simp,by omega⟩
 obtain⟨_,i1,i2⟩:=hI
 refine Jz (fun pre q=>q.length≤pre.length∧∀ b,b∈q ↔ b∈pre.map (·.G9)∧Qx boxes b=n) ⟨Nat.le_refl _,fun b=>⟨fun h=>(List.not_mem_nil h).elim,fun h=>(List.not_mem_nil h.1).elim⟩⟩ (fun pre y post q nx e hJ hnx=>?_) (fun q hJ=>?_)
 ·obtain⟨j1,j2⟩:=hJ
  have hpl:pre.length < (x0::r0).length:=by rw [e]; simp
  refine G4c (fun q=>q.length≤(pre++[y]).length∧∀ b,b∈q ↔ b∈(pre++[y]).map (·.G9)∧Qx boxes b=n) (fun K hK=>H0 (G68 boxes y.G9) (Hi (fun hh=>Ro (room8L (by rw [List.length_singleton]; omega)) (hK _ ⟨?_,fun b=>?_⟩)) (fun hh=>hK _ ⟨?_,fun b=>?_⟩))) (fun j hj=>hnx _ hj)
  ·simp only [List.length_append,List.length_singleton]; omega
  ·have hh:=of_decide_eq_true hh
   simp only [List.mem_append,List.map_append,List.map_cons,List.map_nil,List.mem_singleton,j2]
   constructor
   ·rintro(⟨a,b⟩ | rfl)
    ·exact⟨.inl a,b⟩
    ·exact⟨.inr rfl,hh⟩
   ·rintro⟨a | a,b⟩
    ·exact .inl ⟨a,b⟩
    ·exact .inr a
  ·simp only [List.length_append,List.length_singleton]; omega
  ·have hh:=of_decide_eq_false hh
   simp only [List.mem_append,List.map_append,List.map_cons,List.map_nil,List.mem_singleton,j2]
   constructor
   ·exact fun⟨a,b⟩=>⟨.inl a,b⟩
   ·rintro⟨a | rfl,b⟩
    ·exact⟨a,b⟩
    ·exact(hh b).elim
 obtain⟨j1,j2⟩:=hJ
 have hq:∀ a∈q,a∈(x0::r0).map (·.G9):=fun a ha=>((j2 a).1 ha).1
 refine H7 (wp_mono (h.reach hF hq) (fun r hr=>?_))
 have hrl:=hr.2.len hq
 refine Jz (fun pre o=>o.length≤pre.length∧∀ b,b∈o ↔ b∈pre∧Qx boxes b≠n) ⟨Nat.le_refl _,fun b=>⟨fun h=>(List.not_mem_nil h).elim,fun h=>(List.not_mem_nil h.1).elim⟩⟩ (fun pre y post o nx e hK hnx=>?_) (fun o hK=>Gi ⟨rfl,⟨i1,i2,j2,fun b=>?_⟩⟩)
 ·obtain⟨k1,k2⟩:=hK
  have hpl:pre.length < r.1.length:=by rw [e]; simp
  refine G4c (fun o=>o.length≤(pre++[y]).length∧∀ b,b∈o ↔ b∈pre++[y]∧Qx boxes b≠n) (fun K hK=>H0 (G68 boxes y) (Hi (fun hh=>Ro (room8L (by rw [List.length_singleton]; omega)) (hK _ ⟨?_,fun b=>?_⟩)) (fun hh=>hK _ ⟨?_,fun b=>?_⟩))) (fun j hj=>hnx _ hj)
  ·simp only [List.length_append,List.length_singleton]; omega
  ·have hh:=of_decide_eq_true hh
   simp only [List.mem_append,List.mem_singleton,k2]
   constructor
   ·rintro(⟨a,b⟩ | rfl)
    ·exact⟨.inl a,b⟩
    ·exact⟨.inr rfl,hh⟩
   ·rintro⟨a | a,b⟩
    ·exact .inl ⟨a,b⟩
    ·exact .inr a
  ·simp only [List.length_append,List.length_singleton]; omega
  ·have hh:=of_decide_eq_false hh
   simp only [List.mem_append,List.mem_singleton,k2]
   constructor
   ·exact fun⟨a,b⟩=>⟨.inl a,b⟩
   ·rintro⟨a | rfl,b⟩
    ·exact⟨a,b⟩
    ·exact(hh b).elim
 ·rw [hK.2,hr.2.iff]
/-- Nobody is in the way of anyone. -/
def CleanP (s:Gr) (boxes:List G9) (l:List Stowed):Prop:=∀ x∈l,∀ b,H72 s l [x.G9] b→Qx boxes b≤Qx boxes x.G9
theorem Pl.sub {s:Gr} {l q:List Stowed} {a b:Int} (h:Pl s q a b) (hs:∀ x∈q,x∈l):Pl s l a b:=by
 obtain⟨x,hx,e,y,hy,e2,hh⟩:=h
 exact⟨x,hs x hx,e,y,hs y hy,e2,hh⟩
theorem H72.sub {s:Gr} {l q:List Stowed} {ids:List Int} {b:Int} (h:H72 s q ids b) (hs:∀ x∈q,x∈l):H72 s l ids b:=fun C h1 h2=>h C (fun a b ha hp=>h1 a b ha (hp.sub hs)) h2
theorem room32 {n m:Nat} (h:n+m≤1000):decide ((n+m)*32≤140737488355328∧n+m≤maxLen)=true:=decide_eq_true ⟨by omega,by simp only [maxLen]; omega⟩
theorem lawLeavesF {F:Nat} (hF:40≤F) (hA:Jc F=some true) (l:List Gx) (covers:Int) (drops:List Gn) (hp:∀ p∈l,H1d p) (hd:∀ x∈drops,H24 x) :
  Qh F l covers drops=some true:=by
 refine G18 ?_
 unfold Qh
 refine H7 (wp_mono (made_spec l covers drops hp hd (most:=9) (by omega)) (fun r3 h3=>?_))
 obtain⟨s,boxes,l0⟩:=r3
 have hM:MadeOk 9 s boxes l0:=h3
 dsimp only
 have hS0:Hd5 s boxes l0:=hM.sta
 have hl0:=hM.len
 refine H7 (wp_mono (H85 hS0 hF) (fun r5 h5=>?_))
 obtain⟨b1,_,b3⟩:=h5
 refine Hi (fun h=>(of_decide_eq_true h b1).elim) (fun _=>?_)
 have hclean:((r5.1.length:Int)=0)→CleanP s boxes l0:=fun h0 x hx b hb=>by
  have h0:r5.1=[]:=List.eq_nil_of_length_eq_zero (by omega)
  refine Int.not_lt.1 fun hlt=>?_
  have:=(b3 b).2 ⟨x,hx,hlt,hb⟩
  rw [h0] at this; cases this
 refine G4c (fun j=>(r5.1.length:Int)=0→j=[]) (fun K hK=>?_) (fun j hj=>?_)
 rotate_left
 ·have:((!(decide ((r5.1.length:Int)=0)))||(decide ((j.length:Int)=0)))=true:=by
   by_cases h0:(r5.1.length:Int)=0
   ·rw [hj h0]; simp
   ·rw [decide_eq_false h0]; rfl
  exact fin_yes this hA
 refine wp_loop (fun t=>Hd5 s boxes t.1∧(∀ x∈t.1,x∈l0)∧((r5.1.length:Int)=0→CleanP s boxes t.1)∧0≤t.2∧t.2≤4∧∀ x∈t.1,t.2 < Qx boxes x.G9) (fun t=>t.1.length) ⟨hS0,fun x hx=>hx,hclean,by show (0:Int)≤0; omega,by show (0:Int)≤4; omega,fun x hx=>by show (0:Int) < _; have:=(hM.dis hx).1; omega⟩ (by show l0.length < F; omega) (fun t nx hI hnx=>?_)
 obtain⟨st,n⟩:=t
 obtain⟨hS,hsub,hcl,hn0,hn4,hdis⟩:=hI
 have hS:Hd5 s boxes st:=hS
 have hsub:∀ x∈st,x∈l0:=hsub
 have hcl:(r5.1.length:Int)=0→CleanP s boxes st:=hcl
 have hn0:0≤n:=hn0
 have hn4:n≤4:=hn4
 have hdis:∀ x∈st,n < Qx boxes x.G9:=hdis
 have hsl:=hS.len
 by_cases hne:st=[]
 ·subst hne
  exact Hi (fun h=>absurd h (by simp)) (fun _=>hK _ (fun _=>rfl))
 have hpos:0 < st.length:=List.length_pos_iff.2 hne
 have hn3:n < 4:=by
  obtain⟨x,hx⟩:=List.exists_mem_of_ne_nil _ hne
  have:=hdis x hx
  have:=(hM.dis (hsub x hx)).2
  omega
 refine Hi (fun _=>?_) (fun h=>?_)
 rotate_left
 ·rw [Bool.and_eq_false_iff] at h
  rcases h with h | h
  ·have:=of_decide_eq_false h; simp only at this; omega
  ·have:=of_decide_eq_false h; simp only at this; omega
 refine H7 (wp_mono (Leaving_spec hS hF hne) (fun r17 h17=>?_))
 obtain⟨next,leave,others,e17⟩:=r17
 obtain⟨e0,hL⟩:=h17
 have hL:LeavP s boxes st next leave others:=hL
 have e0:e17=0:=e0
 subst e0
 have hlv:leave≠[]:=fun e=>by
  obtain⟨x,hx,hh⟩:=hL.at_
  have:=(hL.lev x.G9).2 ⟨List.mem_map.2 ⟨x,hx,rfl⟩,hh⟩
  rw [e] at this; cases this
 have hin:∀ a∈leave,a∈st.map (·.G9):=fun a ha=>((hL.lev a).1 ha).1
 have hoth:(r5.1.length:Int)=0→others=[]:=fun h0=>by
  refine List.eq_nil_iff_forall_not_mem.2 fun b hb=>?_
  obtain⟨h1,h2⟩:=(hL.oth b).1 hb
  have hbi:=h1.Y8 hin
  obtain⟨a,ha,hab⟩:=H72.one.1 h1
  obtain⟨ha1,ha2⟩:=(hL.lev a).1 ha
  obtain⟨x,hx,rfl⟩:=List.mem_map.1 ha1
  have h3:=hcl h0 x hx b hab
  obtain⟨y,hy,rfl⟩:=List.mem_map.1 hbi
  have h4:=hL.le y hy
  omega
 have hb1:decide ((leave.length:Int)=0)=false:=decide_eq_false (by have:=List.length_pos_iff.2 hlv; omega)
 have hb2:((decide ((r5.1.length:Int)=0))&&(decide (0 < (others.length:Int))))=false:=by
  by_cases h0:(r5.1.length:Int)=0
  ·rw [hoth h0]; simp
  ·rw [decide_eq_false h0]; rfl
 refine Hi (fun h=>?_) (fun _=>?_)
 ·have h:((decide ((0:Int)≠0)||decide ((leave.length:Int)=0))||((decide ((r5.1.length:Int)=0))&&(decide (0 < (others.length:Int)))))=true:=h
  rw [hb1,hb2] at h; cases h
 refine Jz (fun _ _=>True) trivial (fun pre y post u nx2 e _ hnx2=>?_) (fun u _=>?_)
 ·have hy:y∈st:=by show y∈(st,n).1; rw [e]; simp
  refine H0 (Hcb hS hF hy) (Hi (fun h=>(of_decide_eq_true h rfl).elim) (fun _=>?_))
  refine Jz (fun pr b=>b=true ↔ ∃ id∈pr,Qx boxes id=next) ⟨fun h=>Bool.noConfusion h,fun⟨id,h,_⟩=>(List.not_mem_nil h).elim⟩ (fun pr z po b nx3 e2 hJ hnx3=>?_) (fun b hJ=>?_)
  ·have hstep:∀ b',b'=(b||decide (Qx boxes z=next))→(b'=true ↔ ∃ id∈pr++[z],Qx boxes id=next):=fun b' hb'=>by
    rw [hb',Bool.or_eq_true,hJ,decide_eq_true_eq]
    constructor
    ·rintro(⟨id,h1,h2⟩ | h)
     ·exact⟨id,List.mem_append.2 (.inl h1),h2⟩
     ·exact⟨z,by simp,h⟩
    ·rintro⟨id,h1,h2⟩
     rcases List.mem_append.1 h1 with h1 | h1
     ·exact .inl ⟨id,h1,h2⟩
     ·rw [List.mem_singleton] at h1; subst h1; exact .inr h2
   cases hb:b with
   | true=>exact H7 (Gi (hnx3 _ (hstep _ (by rw [hb]; rfl))))
   | false=>exact H0 (H18 boxes z) (hnx3 _ (hstep _ (by rw [hb,Bool.false_or])))
  ·have hbo:b=decide (y.G9∈others):=by
    rw [Bool.eq_iff_iff,decide_eq_true_eq,hJ,hL.oth]
    constructor
    ·rintro⟨id,h1,h2⟩
     obtain⟨g1,_,g3,g4⟩:=H3d.1 h1
     exact⟨H72.one.2 ⟨id,(hL.lev id).2 ⟨g1,h2⟩,g4⟩,by omega⟩
    ·rintro⟨h1,h2⟩
     obtain⟨a,ha,hab⟩:=H72.one.1 h1
     obtain⟨ha1,ha2⟩:=(hL.lev a).1 ha
     have:=hL.le y hy
     exact⟨a,H3d.2 ⟨ha1,fun e=>h2 (by rw [← e]; exact ha2),by omega,hab⟩,ha2⟩
   have hlb:decide (y.G9∈leave)=decide (Qx boxes y.G9=next):=by
    rw [Bool.eq_iff_iff,decide_eq_true_eq,decide_eq_true_eq,hL.lev]
    exact⟨fun h=>h.2,fun h=>⟨List.mem_map.2 ⟨y,hy,rfl⟩,h⟩⟩
   refine H0 (law_holds _ _) ?_
   rw [← hbo]
   simp only [beq_self_eq_true,Bool.not_true,Bool.not_false,cond_true,Bool.false_or]
   refine H0 (law_holds _ _) (H0 (H18 _ _) ?_)
   rw [hlb]
   refine Hi (fun h=>by simp at h) (fun _=>hnx2 _ trivial)
 refine Hi (fun h=>hK _ (fun h0=>?_)) (fun h=>?_)
 ·rw [decide_eq_true h0] at h; cases h
 have h0:(r5.1.length:Int)=0:=by
  refine Classical.byContradiction fun hh=>?_
  rw [decide_eq_false hh] at h; cases h
 have hC:=hcl h0
 refine Jz (fun pre q=>q=pre.filter (fun x=>!decide (x.G9∈leave))) rfl (fun pre y post q nx2 e hJ hnx2=>?_) (fun q hJ=>?_)
 ·have hpl:pre.length < st.length:=by show _ < ((st,n).1).length; rw [e]; simp
  have hql:q.length≤pre.length:=by rw [hJ]; exact List.length_filter_le _ _
  have hstep:(pre++[y]).filter (fun x=>!decide (x.G9∈leave))=q++(if y.G9∈leave then [] else [y]):=by
   rw [List.filter_append,hJ]
   congr 1
   by_cases hm:y.G9∈leave
   ·rw [if_pos hm,List.filter_cons,if_neg (by rw [decide_eq_true hm]; decide)]; rfl
   ·rw [if_neg hm,List.filter_cons,if_pos (by rw [decide_eq_false hm]; rfl)]; rfl
  refine G4c (fun q=>q=(pre++[y]).filter (fun x=>!decide (x.G9∈leave))) (fun K2 hK2=>H0 (law_holds _ _) (Hi (fun hh=>Ro (room32 (by rw [List.length_singleton]; omega)) (hK2 _ ?_)) (fun hh=>hK2 _ ?_))) (fun j hj=>hnx2 _ hj)
  ·rw [hstep,if_neg (fun hm=>by rw [decide_eq_true hm] at hh; cases hh)]
  ·have hm:y.G9∈leave:=by
    refine Classical.byContradiction fun hm=>?_
    rw [decide_eq_false hm] at hh; cases hh
   rw [hstep,if_pos hm,List.append_nil]
 ·have hJ:q=st.filter (fun x=>!decide (x.G9∈leave)):=hJ
  have hmem:∀ x,x∈q ↔ x∈st∧x.G9 ∉ leave:=fun x=>by
   rw [hJ,List.mem_filter]
   simp
  have hqs:∀ x∈q,x∈st:=fun x hx=>((hmem x).1 hx).1
  have hR:Y1 s boxes q:=by
   rw [hJ]
   refine right_filter hS.right _ (fun x hx y hy hpx ho=>?_)
   have hx1:x.G9∈leave:=by simpa using hpx
   obtain⟨_,hx2⟩:=(hL.lev x.G9).1 hx1
   have h1:=hC x hx y.G9 (H72.self.step ⟨x,hx,rfl,y,hy,rfl,.inl ho⟩)
   have h2:=hL.le y hy
   have:y.G9∈leave:=(hL.lev y.G9).2 ⟨List.mem_map.2 ⟨y,hy,rfl⟩,by omega⟩
   simpa using this
  have hql:q.length < st.length:=by
   obtain⟨x,hx,hh⟩:=hL.at_
   have hx1:x.G9∈leave:=(hL.lev x.G9).2 ⟨List.mem_map.2 ⟨x,hx,rfl⟩,hh⟩
   rw [hJ]
   refine Nat.lt_of_le_of_ne (List.length_filter_le _ _) fun e=>?_
   have:=List.length_filter_eq_length_iff.1 e x hx
   rw [decide_eq_true hx1] at this; cases this
  have hSq:Hd5 s boxes q:=⟨hS.ship,hR,by omega⟩
  refine H0 hSq.rightM (Hi (fun h=>by cases h) (fun _=>Qg ⟨by omega,by omega⟩ (hnx _ ⟨hSq,fun x hx=>hsub x (hqs x hx),fun _ x hx b hb=>hC x (hqs x hx) b (hb.sub hqs),by show 0≤n+1; omega,by show n+1≤4; omega,fun x hx=>?_⟩ hql)))
  obtain⟨g1,g2⟩:=(hmem x).1 hx
  have h1:=hL.le x g1
  have h2:Qx boxes x.G9≠next:=fun e=>g2 ((hL.lev x.G9).2 ⟨List.mem_map.2 ⟨x,g1,rfl⟩,e⟩)
  obtain⟨z,hz,hzn⟩:=hL.at_
  have h3:=hdis z hz
  show n+1 < Qx boxes x.G9
  omega
theorem lawLeaves (l:List Gx) (covers:Int) (drops:List Gn) (hp:∀ p∈l,H1d p) (hd:∀ x∈drops,H24 x) :
  Qh 60 l covers drops=some true:=lawLeavesF (by omega) awake22 l covers drops hp hd
end Go.Proofs.YtpgkkengffpnpaaGreat
