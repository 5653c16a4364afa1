/-
 A call that hands a lent slice back: Slices in blocks of their own,read as data.
-/
import Derived.Test.YthkihfoleenlmaaGreatDrawE
import Derived.Test.YthkihfoleenlmaaGreatNest2
import Derived.Test.YthkihfoleenlmaaGreatApl
namespace Go.Proofs.YthkihfoleenlmaaGreat
open Go.RowKit

abbrev Gho (obs:List Nat):Type:={W:Option (Nat×Nat) // ∀ b c,W=some (b,c)→b ∉ obs}
instance {obs:List Nat}:Nonempty (Gho obs):=⟨⟨none,fun _ _ h=>by cases h⟩⟩
theorem Jfd {P:Program} {o:Oper} {l:Fr} {L L2:Loc} {i E k q n:Nat} {ys xs:List AV} (obs:List Nat) (hA:H2 P o l L (fun u L1=>∃ p,u=.vec i p k n/\L1=(i,.vec E k p xs)::L2)) (hL:lk L i=some (.vec E k q ys)) (h2:lk L2 i=none)
  (h7:∀ p,bQ (fun j=>(lk L2 j).isSome) ((i,.vec E k p xs)::L2) L2) (h9:∀ (a:Act) (w:World) (β:H4),Sat w β L→Jx a w β L l→∀ b∈obs,∀ j,Ji w β L b j) :
  H2 P o l L (fun u L1=>∃ W:Gho obs,u=.blk W.1 E k (.list k xs)/\L1=(i,.vec E k (q+1) [])::L2):=by
 intro a w β K Q hs hf hK
 refine hA a w β K Q hs hf (fun u L1 v w' J' hR h5 st hv=>?_)
 obtain⟨p,rfl,rfl⟩:=hR
 have hi:lk ((i,Jn.vec E k p xs)::L2) i=some (.vec E k p xs):=by rw [Gm,if_pos rfl]
 have l1:∀ id,id≠i→lk ((i,Jn.vec E k p xs)::L2) id=lk L2 id:=fun id e=>by rw [Gm,if_neg (Ne.symm e)]
 have lq:∀ id,id≠i→lk ((i,Jn.vec E k (q+1) [])::L2) id=lk L2 id:=fun id e=>by rw [Gm,if_neg (Ne.symm e)]
 have h6:sH ((i,Jn.vec E k p xs)::L2) L2:=⟨fun id o' a0=>by obtain⟨o,h1,h2⟩:=(h7 p).get a0; exact⟨o,h1,h2.like⟩⟩
 have ne2:∀ id o,lk L2 id=some o→id≠i:=fun id o h e=>by subst e; rw [h2] at h; cases h
 obtain⟨W,g1,g2⟩:=V.vblk h5 hi h6 h2 hv
 have n1:(upP J' i none) i=none:=by simp [upP]
 have n2:∀ id,id≠i→(upP J' i none) id=J' id:=fun id e=>by simp [upP,e]
 have stab1:∀ b j,Ji w' J' L2 b j→Ji w' (upP J' i none) ((i,.vec E k (q+1) [])::L2) b j:=fun b j hh=>⟨hh.lt,hh.seen,fun id o ho hb=>by
  by_cases e:id=i
  .subst e; rw [n1] at hb; cases hb
  .rw [lq id e] at ho; rw [n2 id e] at hb; exact hh.kept id o ho hb⟩
 have keep2:∀ id o,lk L2 id=some o→lk ((i,Jn.vec E k (q+1) [])::L2) id=some o/\(upP J' i none).at_ id=J'.at_ id:=fun id o h=>⟨by rw [lq id (ne2 id o h)]; exact h,n2 id (ne2 id o h)⟩
 have old:∀ id,(lk ((i,Jn.vec E k (q+1) [])::L2) id).isSome=true→∀ b,(upP J' i none) id=some b→id≠i/\(lk ((i,Jn.vec E k p xs)::L2) id).isSome=true/\J' id=some b:=fun id h b hb=>by
  by_cases e:id=i
  .subst e; rw [n1] at hb; cases hb
  .rw [lq id e] at h; rw [n2 id e] at hb; exact⟨e,h6.some h,hb⟩
 have liq:lk ((i,Jn.vec E k (q+1) [])::L2) i=some (.vec E k (q+1) []):=by rw [Gm,if_pos rfl]
 have nei:∀ id o,lk L id=some o→(∀ ver xs,o≠.vec E k ver xs)→id≠i:=fun id o h a4 e=>by subst e; rw [hL] at h; cases h; exact a4 _ _ rfl
 have tr:∀ id o,id≠i→lk ((i,Jn.vec E k p xs)::L2) id=some o→lk ((i,Jn.vec E k (q+1) [])::L2) id=some o:=fun id o e h=>by rw [lq id e,← l1 id e]; exact h
 refine hK _ _ v w' (upP J' i none) ⟨⟨W,fun b c e hm=>?_⟩,rfl,rfl⟩ ⟨h5.hid,fun id b h1 h2=>?_,fun id b j h1 h2=>?_,fun id id' b h1 h2 h3 h4=>?_,fun id o ho=>?_⟩
  ⟨st.os,st.tape,st.output,st.size,st.hid,fun b j hb=>⟨stab1 b j (h6.stab (st.stab b j hb).1),(st.stab b j hb).2⟩,fun b hb h8=>⟨(st.far b hb h8).1,fun id h1 h2=>?_⟩,fun id t cs h=>?_,fun id t cs h=>?_,fun id m n es h=>?_,fun id t k' ver xs' h=>?_,fun id t k' ver hw h=>?_⟩ ?_
 .exact(st.stab b 0 (h9 a w β hs hf b hm 0)).1.kept i _ hi (g2 b c e)
 .obtain⟨_,a1,a2⟩:=old id h1 b h2
  exact h5.bnd id b a1 a2
 .obtain⟨_,a1,a2⟩:=old id h1 b h2
  exact h5.apart id b j a1 a2
 .obtain⟨_,a1,a2⟩:=old id h1 b h3
  obtain⟨_,b1,b2⟩:=old id' h2 b h4
  exact h5.inj id id' b a1 b1 a2 b2
 .by_cases e:id=i
  .subst e
   rw [liq] at ho; cases ho
   exact⟨fun x hx=>(by cases hx),.inl ⟨n1,rfl⟩⟩
  .rw [lq id e] at ho
   obtain⟨o1,a5,hc⟩:=(h7 p).get ho
   have h0:=iP.conv h6 hc (h5.obj id o1 a5)
   rw [n2 id e]
   exact h0.up stab1 keep2
 .obtain⟨_,a1,a2⟩:=old id h1 b h2
  exact(st.far b hb h8).2 id a1 a2
 .have e:=nei id _ h (fun _ _ h=>by cases h)
  obtain⟨e1,cs',h1⟩:=st.box id t cs h
  exact⟨(n2 id e).trans e1,cs',tr id _ e h1⟩
 .have e:=nei id _ h (fun _ _ h=>by cases h)
  obtain⟨e1,cs',h1⟩:=st.map id t cs h
  exact⟨(n2 id e).trans e1,cs',tr id _ e h1⟩
 .have e:=nei id _ h (fun _ _ h=>by cases h)
  obtain⟨e1,n',cs',h1⟩:=st.iter id m n es h
  exact⟨(n2 id e).trans e1,n',cs',tr id _ e h1⟩
 .by_cases e:id=i
  .subst e
   rw [hL] at h; cases h
   exact⟨q+1,[],liq,Nat.le_succ q,fun e=>by omega⟩
  .obtain⟨v',ys',a1,a2,a3⟩:=st.vec id t k' ver xs' h
   exact⟨v',ys',tr id _ e a1,a2,fun e1=>by rw [n2 id e]; exact a3 e1⟩
 .have e:=nei id _ h (fun _ _ h=>by cases h)
  obtain⟨v',a6,a1,a2,a3⟩:=st.spare id t k' ver hw h
  exact⟨v',a6,tr id _ e a1,a2,fun e1=>by rw [n2 id e]; exact a3 e1⟩
 .exact g1.up stab1 keep2
theorem Hac {P:Program} {o:Oper} {l:Fr} {L L0 L2:Loc} {f:FuncId} {zs:List Operand} {args:List AV} {ts:Array TypeId} {i E k q n:Nat} {ys xs:List AV} {obs:List Nat} (ho:o.op=.call { callee:=.value (.func f),args:=zs.toArray,argTypes:=ts })
  (hc:Rb P f args L0 (fun r L'=>∃ p:Nat,r=.vec i p k n/\L'=[(i,.vec E k p xs)])) (hB:H7 P f=true) (ha:vE l L0 zs args) (h0:G02 L L0) (h4:closedIn (inL L0) L0=true) (h1:∀ p,nH L L0 [(i,.vec E k p xs)]=true) (hr:qY L L0=L2)
  (hL:lk L i=some (.vec E k q ys)) (h2:lk L2 i=none) (h5:∀ p,bQ (fun j=>(lk L2 j).isSome) ((i,.vec E k p xs)::L2) L2) (h3:∀ (a:Act) (w:World) (β:H4),Sat w β L→Jx a w β L l→∀ b∈obs,∀ j,Ji w β L b j) :
  H2 P o l L (fun u L1=>∃ W:Gho obs,u=.blk W.1 E k (.list k xs)/\L1=(i,.vec E k (q+1) [])::L2):=by
 subst hr
 have h:=H48 (u:=fun p:Nat=>AV.vec i p k n) (Lr:=fun p:Nat=>[(i,Jn.vec E k p xs)]) ho hc hB ha h0 h4 h1
 exact Jfd obs (fun a w β K Q hs hf hK=>h a w β K Q hs hf (fun u L' v w' J' hr=>hK u L' v w' J' (by obtain⟨p,e1,e2⟩:=hr; exact⟨p,e1,e2⟩))) hL h2 h5 h3
theorem H98 {w:World} {β:H4} {L:Loc} {B T i ver t k:Nat} {J:Type} {g:J→AV} {es:List (Option (Nat×Nat)×J)} (hs:Sat w β L) (h:lk L B=some (.box T [.own i ver 1 (es.map fun e=>.blk e.1 t k (g e.2))])) :
  ∀ b∈lB (es.map (·.1)),∀ j,Ji w β L b j:=by
 obtain⟨b0,_,vs,_,h3,hv⟩:=hs.obj B _ h
 have hv:=hv 0 _ (vs[0]'(by rw [h3]; exact Nat.zero_lt_one)) rfl (by simp)
 intro b hb j
 unfold lB at hb
 obtain⟨o,ho,h0⟩:=List.mem_filterMap.1 hb
 obtain⟨e,he,rfl⟩:=Pt.1 ho
 obtain⟨m,hm⟩:=List.mem_iff_getElem?.1 he
 cases hv with
 | data h=>cases h
 | own hd _=>
  generalize hx:vs[0]'_=x at hd
  have h4:∀ xs:List (Option (Nat×Nat)×J),flat (xs.map fun e=>AV.blk e.1 t k (g e.2))=xs.map fun e=>AV.blk e.1 t k (g e.2):=fun xs=>by
   induction xs with
   | nil=>rfl
   | cons y r ih=>simp [flat,AV.cells,ih]
  generalize h2:(es.map fun e=>AV.blk e.1 t k (g e.2))=ys at hd
  cases hd with
  | nil _=>
   rw [List.map_eq_nil_iff] at h2
   rw [h2] at hm
   cases hm
  | list vals h6 h8 h9 hS h=>
   have hu:(flat ys)[m]? = some (AV.blk e.1 t k (g e.2)):=by
    rw [← h2,h4,Pj,hm]; rfl
   cases h m _ hu with
   | blk h5 _=>
    rcases h5 with ⟨h1,_⟩ | ⟨b',c,n,vs,h1,_,_,_,_,_,h7⟩
    .rw [h1] at h0; cases h0
    .rw [h1] at h0
     cases h0
     exact h7 j

theorem V.frzOut {w:World} {β:H4} {L:Loc} {t k:Nat} {u:AV} {v:Value} (h:V w β L (.frz t k u) v):V w β L u v:=by
 cases h with
 | data h=>cases h with
  | frz _ h=>exact .data h
theorem V.tupFrz {w:World} {β:H4} {L:Loc} {t k:Nat} {u:AV} {us:List AV} {v:Value} (h:V w β L (.tup (.frz t k u::us)) v):V w β L (.tup (u::us)) v:=by
 obtain⟨vs,rfl,hl,hv⟩:=h.inv_tup
 refine .tup hl fun j x y hx hy=>?_
 cases j with
 | zero=>cases hx; exact(hv 0 _ y rfl hy).frzOut
 | succ j=>exact hv (j+1) x y hx hy
theorem Pure.cvt {P:Program} {f:FuncId} {args:List AV} {u u':AV} (h:Pure P f args (·=u)) (hc:∀ w β v,V w β [] u v→V w β [] u' v):Pure P f args (·=u'):=by
 intro w β vs h0 hl hv
 refine(h w β vs h0 hl hv).mono fun e w' hh=>?_
 obtain⟨v,r,J',L',rfl,hs,st,h1,rfl,rfl⟩:=hh
 exact⟨v,_,J',[],rfl,hs,st,hc _ _ _ h1,rfl,rfl⟩
theorem Pure.tupFrz {P:Program} {f:FuncId} {args:List AV} {t k:Nat} {u:AV} {us:List AV} (h:Pure P f args (·=.tup (.frz t k u::us))):Pure P f args (·=.tup (u::us)):=h.cvt fun _ _ _ h=>h.tupFrz
section
variable {P:Program} {o:Oper} {l:Fr} {L L':Loc} {u u':AV}
theorem H2.mono {R R':AV→Loc→Prop} (hR:∀ u L',R u L'→R' u L') (h:H2 P o l L R):H2 P o l L R':=
 fun a w β K Q hs hf hK=>h a w β K Q hs hf (fun u L' v w' J' hr=>hK u L' v w' J' (hR u L' hr))
end
end Go.Proofs.YthkihfoleenlmaaGreat
