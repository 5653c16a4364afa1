/-
 Slices that lie alone in a block: Slices in blocks of their own,read as data.
-/
import Derived.Test.YthkihfoleenlmaaGreatLend
namespace Go.Proofs.YthkihfoleenlmaaGreat
open Go.RowKit

section
variable {w:World} {β:Gx} {L L':Loc}
end
section
variable {P:Program} {N:Cfg} {Q:Post} {l:Fr} {L:Loc}
theorem H96 {a:Act} {w:World} {β:Gx} {tt i ver t k:Nat} {α:Type} {g:α→AV} {es:List (Option (Nat×Nat)×α)} (hf:Jw a w β L l) (h:look l tt=.own i ver 1 (es.map fun e=>.blk e.1 t k (g e.2))) :
  ∀ b∈mI (es.map (·.1)),∀ j,Jc w β L b j:=by
 have hv:=hf.tmp tt
 rw [h] at hv
 intro b hb j
 unfold mI at hb
 obtain⟨o,ho,h0⟩:=List.mem_filterMap.1 hb
 obtain⟨e,he,rfl⟩:=Pb.1 ho
 obtain⟨m,hm⟩:=List.mem_iff_getElem?.1 he
 cases hv with
 | data h=>cases h
 | own hd _=>
  generalize hx:a.tmps.getD tt undef=x at hd
  have h3:∀ xs:List (Option (Nat×Nat)×α),flat (xs.map fun e=>AV.blk e.1 t k (g e.2))=xs.map fun e=>AV.blk e.1 t k (g e.2):=fun xs=>by
   induction xs with
   | nil=>rfl
   | cons y r ih=>simp [flat,AV.cells,ih]
  generalize h2:(es.map fun e=>AV.blk e.1 t k (g e.2))=ys at hd
  cases hd with
  | nil _=>
   rw [List.map_eq_nil_iff] at h2
   rw [h2] at hm
   cases hm
  | list vals h5 h6 h8 hS h=>
   have hu:(flat ys)[m]? = some (AV.blk e.1 t k (g e.2)):=by
    rw [← h2,h3,P2,hm]; rfl
   cases h m _ hu with
   | blk h4 _=>
    rcases h4 with ⟨h1,_⟩ | ⟨b',c,n,vs,h1,_,_,_,_,_,h7⟩
    ·rw [h1] at h0; cases h0
    ·rw [h1] at h0
     cases h0
     exact h7 j
theorem V.vfrz {w:World} {β:Gx} {L':Loc} {i ver hw t0 t k:Nat} {α:Type} {g:α→AV} {es:List (Option (Nat×Nat)×α)} {v:Value} (a3:Sat w β L) (hi:lk L i=some (.spare t0 1 ver hw)) (a9:rB L L') (b5:lk L' i=none)
  (h:V w β L (.own i ver 1 (es.map fun e=>.blk e.1 t k (g e.2))) v) (hn:(mI (es.map (·.1))).Nodup) (hg:∀ x,(g x).cells=[g x]):V w β L' (.frz t k (.list 1 (es.map fun e=>g e.2))) v:=by
 have mono:∀ b j,Jc w β L b j→Jc w β L' b j∧Yp w b j=Yp w b j:=fun b j hs=>⟨a9.stab hs,rfl⟩
 have b6:∀ xs:List (Option (Nat×Nat)×α),flat (xs.map fun e=>AV.blk e.1 t k (g e.2))=xs.map fun e=>AV.blk e.1 t k (g e.2):=fun xs=>by
  induction xs with
  | nil=>rfl
  | cons y r ih=>simp [flat,AV.cells,ih]
 have b1:∀ xs:List (Option (Nat×Nat)×α),flat (xs.map fun e=>g e.2)=xs.map fun e=>g e.2:=fun xs=>by
  induction xs with
  | nil=>rfl
  | cons y r ih=>simp [flat,hg,ih]
 cases h with
 | data h=>cases h
 | own hd hp=>
  obtain⟨t1,ver',c2,h1,h2,h3⟩:=hp
  rw [hi] at h1
  cases h1
  obtain⟨_,h4,vals0,a4,hD⟩:=h3 rfl
  rcases ownsRow_form a4 with ⟨rfl,b7,_⟩ | ⟨b0,cap,cur,rfl,b2,a5,b3,h0,h8⟩
  ·have he:es=[]:=by
    cases es with
    | nil=>rfl
    | cons y r=>simp at b7
   subst he
   exact .data (.frz ⟨[],[],rfl,fun j o x ho=>by simp at ho,.nil,.inl ⟨rfl,rfl⟩⟩ (.nil (Nat.zero_le _)))
  ·rw [b2] at h4
   have h9:β i=some b0:=h4.symm
   have h6:∀ j,Jc w β L' b0 j:=fun j=>⟨(Ng h0).1,a3.apart i b0 j (by rw [hi]; rfl) h9,fun id o ho b8=>by
    obtain⟨o0,b9,_⟩:=a9.like id o ho
    have:=a3.inj i id b0 (by rw [hi]; rfl) (by rw [b9]; rfl) h9 b8
    subst this
    rw [b5] at ho; cases ho⟩
   have a6:∀ (m:Nat) e,es[m]? = some e→∃ x,cur[m]? = some x∧D w (Jc w β L) (.blk e.1 t k (g e.2)) x:=fun m e hm=>by
    have hu:(flat (es.map fun e=>AV.blk e.1 t k (g e.2)))[m]? = some (AV.blk e.1 t k (g e.2)):=by
     rw [b6,P2,hm]; rfl
    obtain⟨x,hx,h5⟩:=hD m _ hu
    have c3:m < es.length:=(Nt hm).1
    have hc:=jJ a4 b2 (j:=m) (by rw [P9]; omega)
    rw [hx] at hc
    have c0:w.cell? ⟨b0,m,none⟩=cur[m]? := by simp [World.cell?,h0]
    rw [c0] at hc
    exact⟨x,hc,h5⟩
   have c1:(es.map fun e=>AV.blk e.1 t k (g e.2)).length=es.length:=P9 ..
   have h8:es.length≤cur.size:=by simpa using h8
   rw [c1] at a5 ⊢
   have a0:(cur.toList.take es.length).length=es.length:=by rw [List.length_take,Array.length_toList]; exact Nat.min_eq_left h8
   have b4:∀ j,j < es.length→cur[j]? = (cur.toList.take es.length)[j]? := fun j hj=>by
    rw [P3,if_pos hj,Array.getElem?_toList]
   refine .data (.frz ⟨cur.toList.take es.length,es.map (·.1),by rw [P9,a0],fun j o x ho hx=>?_,hn,.inr ⟨b0,cap,cur,t0,(0,0),by rw [a0],by rw [a0]; exact a5,b3,h0,fun j hj=>b4 j (by rw [a0] at hj; exact hj),h6,fun hm=>?_⟩⟩ ?_)
   ·rw [P2] at ho
    obtain⟨e,he,rfl⟩:=Option.map_eq_some_iff.1 ho
    obtain⟨x',a1,h5⟩:=a6 j e he
    have hj:j < es.length:=(Nt he).1
    rw [← b4 j hj,a1] at hx
    cases hx
    cases h5 with
    | blk a7 _=>exact a7.mono mono
   ·unfold mI at hm
    obtain⟨o,ho,h4⟩:=List.mem_filterMap.1 hm
    obtain⟨e,he,rfl⟩:=Pb.1 ho
    obtain⟨m,hm⟩:=List.mem_iff_getElem?.1 he
    obtain⟨x',_,h5⟩:=a6 m e hm
    cases h5 with
    | blk a7 _=>
     rcases a7 with ⟨h1,_⟩ | ⟨b',c,n,vs,h1,_,_,_,_,_,h7⟩
     ·rw [h1] at h4; cases h4
     ·rw [h1] at h4
      cases h4
      have:=(h7 hw).kept i _ hi h9
      have:hw < hw*1:=this
      omega
   ·have a8:(es.map fun e=>g e.2).length=es.length:=P9 ..
    have:=D.list (w:=w) (S:=Jc w β L') (k:=1) (b:=b0) (off:=0) (cap:=cap) (xs:=es.map fun e=>g e.2) (fun j=>cur.getD j undef) (by show (es.map fun e=>g e.2).length≤cap; rw [a8]; exact a5) b3 (fun x hx=>by
     obtain⟨e,_,rfl⟩:=Pb.1 hx
     rw [hg]; rfl) (fun j hj=>⟨h6 _,by
     rw [b1] at hj
     rw [a8] at hj
     rw [Nat.zero_add]
     have a2:j < cur.size:=by omega
     simp [World.cell?,h0,a2]⟩) (fun j u hu=>by
     rw [b1,P2] at hu
     obtain⟨e,he,rfl⟩:=Option.map_eq_some_iff.1 hu
     obtain⟨x',a1,h5⟩:=a6 j e he
     have a2:j < cur.size:=(Ng a1).1
     have:cur.getD j undef=x':=by
      have h2:cur[j]? = some cur[j]:=by simp [a2]
      rw [a1] at h2
      cases h2
      simp [Array.getD,a2]
     rw [this]
     cases h5 with
     | blk _ h=>exact h.mono mono)
    rw [a8] at this
    exact this
theorem J32 {c:Code} (tt:Nat) (l1:Fr) (L':Loc) (i:Nat) {t0 ver hw t k:Nat} {α:Type} {g:α→AV} {es:List (Option (Nat×Nat)×α)} (hi:lk L i=some (.spare t0 1 ver hw)) (ht:look l tt=.own i ver 1 (es.map fun e=>.blk e.1 t k (g e.2)))
  (h2:lk L' i=none) (hl:aW (fun j=>(lk L' j).isSome) L L') (hb:allIn L' N.base=true) (hf:jU (fun j=>(lk L' j).isSome) l l1) (hn:(mI (es.map (·.1))).Nodup) (hg:∀ x,(g x).cells=[g x])
  (hk:JC P N c Q ((tt,.frz t k (.list 1 (es.map fun e=>g e.2)))::l1) L'):JC P N c Q l L:=fun m w0 β0 L0 a w β hs=>by
 have h0:Fits N.base l L l1 L':=⟨hf,hl,hb⟩
 have h1:=hs.fits h0
 have hv:=hs.frame.tmp tt
 rw [ht] at hv
 have g1:=V.vfrz hs.sat hi h0.drop h2 hv hn hg
 refine hk m w0 β0 L0 a w β ⟨h1.sat,h1.step,⟨fun t'=>?_⟩,h1.size,h1.base,h1.defers⟩
 by_cases e:tt=t'
 ·subst e
  have:look ((tt,AV.frz t k (.list 1 (es.map fun e=>g e.2)))::l1) tt=.frz t k (.list 1 (es.map fun e=>g e.2)):=by simp [look]
  rw [this]
  exact g1
 ·have:look ((tt,AV.frz t k (.list 1 (es.map fun e=>g e.2)))::l1) t'=look l1 t':=by
   have h3:Nat.beq tt t'=false:=by
    cases hq:Nat.beq tt t' with
    | false=>rfl
    | true=>exact(e (Nj hq)).elim
   simp [look,h3]
  rw [this]
  exact h1.frame.tmp t'
theorem V.oblk {w:World} {β:Gx} {L':Loc} {i ver hw t k:Nat} {xs:List AV} {v:Value} (h5:Sat w β L) (hi:lk L i=some (.spare t k ver hw)) (h6:rB L L') (h9:lk L' i=none) (h:V w β L (.own i ver k xs) v) :
  ∃ o,V w β L' (.blk o t k (.list k xs)) v∧∀ b c,o=some (b,c)→β i=some b:=by
 have mono:∀ b j,Jc w β L b j→Jc w β L' b j∧Yp w b j=Yp w b j:=fun b j hs=>⟨h6.stab hs,rfl⟩
 cases h with
 | data h=>cases h
 | own hd hp=>
  obtain⟨t1,ver',a6,h1,h2,h3⟩:=hp
  rw [hi] at h1
  cases h1
  obtain⟨_,a0,vals0,h8,_⟩:=h3 rfl
  have h7:=hd.mono mono
  rcases h8.2 with ⟨rfl,_⟩ | ⟨b0,cap,cur,rfl,_,h4,a1,a2,a3,_⟩
  ·exact⟨none,.data (.blk (.inl ⟨rfl,rfl⟩) h7),fun b c e=>by cases e⟩
  ·have h0:β i=some b0:=a0.symm
   refine⟨some (b0,cap),.data (.blk (.inr ⟨b0,cap,_,cur,rfl,rfl,a1,a2,h4,a3,fun j=>⟨(Ng h4).1,h5.apart i b0 j (by rw [hi]; rfl) h0,fun id o ho a4=>?_⟩⟩) h7),fun b c e=>by cases e; exact h0⟩
   obtain⟨o0,a5,_⟩:=h6.like id o ho
   have:=h5.inj i id b0 (by rw [hi]; rfl) (by rw [a5]; rfl) h0 a4
   subst this
   rw [h9] at ho; cases ho
theorem R4.oblk {w0 w:World} {β0 β:Gx} {L0:Loc} {a:Act} (hs:R4 N w0 β0 L0 a w β l L) (tt:Nat) (l1:Fr) (L':Loc) (obs:List Nat) (i:Nat) {t ver hw k:Nat} {xs:List AV} (hi:lk L i=some (.spare t k ver hw)) (ht:look l tt=.own i ver k xs) (h3:lk L' i=none) (hl:aW (fun j=>(lk L' j).isSome) L L') (hb:allIn L' N.base=true)
  (hf:jU (fun j=>(lk L' j).isSome) l l1) (h2:∀ (a:Act) (w:World) (β:Gx),Sat w β L→Jw a w β L l→∀ b∈obs,∀ j,Jc w β L b j) :
  ∃ o:Option (Nat×Nat),(∀ b c,o=some (b,c)→b ∉ obs)∧R4 N w0 β0 L0 a w β ((tt,.blk o t k (.list k xs))::l1) L':=by
 have h0:Fits N.base l L l1 L':=⟨hf,hl,hb⟩
 have h1:=hs.fits h0
 have hv:=hs.frame.tmp tt
 rw [ht] at hv
 obtain⟨o,g1,g2⟩:=V.oblk hs.sat hi h0.drop h3 hv
 refine⟨o,fun b c e hm=>?_,h1.sat,h1.step,⟨fun t'=>?_⟩,h1.size,h1.base,h1.defers⟩
 ·have:hw*k < hw*k:=(h2 a w β hs.sat hs.frame b hm (hw*k)).kept i _ hi (g2 b c e)
  omega
 ·by_cases e:tt=t'
  ·subst e
   have:look ((tt,.blk o t k (.list k xs))::l1) tt=.blk o t k (.list k xs):=by simp [look]
   rw [this]
   exact g1
  ·have:look ((tt,.blk o t k (.list k xs))::l1) t'=look l1 t':=by
    have h4:Nat.beq tt t'=false:=by
     cases hq:Nat.beq tt t' with
     | false=>rfl
     | true=>exact(e (Nj hq)).elim
    simp [look,h4]
   rw [this]
   exact h1.frame.tmp t'
theorem J2f {ops:Array Oper} {rest:List Oper} (tt:Nat) (l1:Fr) (L':Loc) (obs:List Nat) (i:Nat) {t ver hw k:Nat} {xs:List AV} (hi:lk L i=some (.spare t k ver hw)) (ht:look l tt=.own i ver k xs) (h3:lk L' i=none) (hl:aW (fun j=>(lk L' j).isSome) L L') (hb:allIn L' N.base=true)
  (hf:jU (fun j=>(lk L' j).isSome) l l1) (h0:∀ (a:Act) (w:World) (β:Gx),Sat w β L→Jw a w β L l→∀ b∈obs,∀ j,Jc w β L b j)
  (hk:∀ o:Option (Nat×Nat),(∀ b c,o=some (b,c)→b ∉ obs)→JL P N ops rest Q ((tt,.blk o t k (.list k xs))::l1) L'):JL P N ops rest Q l L:=fun m w0 β0 L0 a w β hs=>by
 obtain⟨o,h1,h2⟩:=hs.oblk tt l1 L' obs i hi ht h3 hl hb hf h0
 exact hk o h1 m w0 β0 L0 a w β h2
theorem He4 {o:Oper} {x:Operand} {L:Loc} (t k:Nat) (ho:o.op=.assign x) (hx:ev l x=.sc (.slice none 0 0)):Gv P o l L (Is (.frz t k (.list 1 [])) L):=
 Hb fun a w β _ hf=>⟨a.eval x,by simp [execOp,ho],by
  have h:=hf.ev x
  rw [hx] at h
  rw [h.inv_sc]
  exact .data (.frz ⟨[],[],rfl,fun j o x ho=>by simp at ho,.nil,.inl ⟨rfl,rfl⟩⟩ (.nil (Nat.zero_le _)))⟩
end

theorem V.frzOut {w:World} {β:Gx} {L:Loc} {t k:Nat} {u:AV} {v:Value} (h:V w β L (.frz t k u) v):V w β L u v:=by
 cases h with
 | data h=>cases h with
  | frz _ h=>exact .data h
theorem V.tupFrz {w:World} {β:Gx} {L:Loc} {t k:Nat} {u:AV} {us:List AV} {v:Value} (h:V w β L (.tup (.frz t k u::us)) v):V w β L (.tup (u::us)) v:=by
 obtain⟨vs,rfl,hl,hv⟩:=h.inv_tup
 refine .tup hl fun j x y hx hy=>?_
 cases j with
 | zero=>cases hx; exact(hv 0 _ y rfl hy).frzOut
 | succ j=>exact hv (j+1) x y hx hy
theorem Pure.cvt {P:Program} {f:FuncId} {args:List AV} {u u':AV} (h:Pure P f args (·=u)) (hc:∀ w β v,V w β [] u v→V w β [] u' v):Pure P f args (·=u'):=by
 intro w β vs h0 hl hv
 refine(h w β vs h0 hl hv).mono fun e w' hh=>?_
 obtain⟨v,r,β',L',rfl,hs,st,h1,rfl,rfl⟩:=hh
 exact⟨v,_,β',[],rfl,hs,st,hc _ _ _ h1,rfl,rfl⟩
theorem Pure.tupFrz {P:Program} {f:FuncId} {args:List AV} {t k:Nat} {u:AV} {us:List AV} (h:Pure P f args (·=.tup (.frz t k u::us))):Pure P f args (·=.tup (u::us)):=h.cvt fun _ _ _ h=>h.tupFrz
section
variable {P:Program} {o:Oper} {l:Fr} {L L':Loc} {u u':AV}
theorem A_is (e:u=u') (h:Gv P o l L (Is u L')):Gv P o l L (Is u' L'):=e ▸ h
theorem Jd8 {t k:Nat} (h:Gv P o l L (Is (.frz t k u) L')):Gv P o l L (Is u L'):=fun a w β K Q hs hf hK=>h a w β K Q hs hf (fun v L'' x w' β' hr h0 h1 hv=>by
 obtain⟨rfl,rfl⟩:=hr
 exact hK _ _ x w' β' ⟨rfl,rfl⟩ h0 h1 hv.frzOut)
theorem Gv.mono {R R':AV→Loc→Prop} (hR:∀ u L',R u L'→R' u L') (h:Gv P o l L R):Gv P o l L R':=
 fun a w β K Q hs hf hK=>h a w β K Q hs hf (fun u L' v w' β' hr=>hK u L' v w' β' (hR u L' hr))
end
end Go.Proofs.YthkihfoleenlmaaGreat
