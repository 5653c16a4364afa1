/- Drawn orders in which one operation makes something that is -/
import Derived.Test.YthkihfoleenlmaaGreatApl
namespace Go.Proofs.YthkihfoleenlmaaGreat
open Go.RowKit
set_option linter.unusedVariables false

section sound
variable {Γ:Type} {P:Program} {N:Cfg} {ops:List Oper} {ws los his:List Nat} {Ls:Γ→List Loc} {l0:Fr} {val:Γ→Nat→AV}
structure Hcd (Γ:Type) (P:Program) (N:Cfg) (ops:List Oper) (ws:List Nat) (Ls:Γ→List Loc) (l0:Fr) (val:Γ→Nat→AV) (w0:World) (β0:H4) (L0:Loc) (listed:Array Bool) (a:Act) (w:World):Prop where
 size:listed.size=ops.length
 closed:Closed ops.toArray (fun i=>listed.getD i false)
 st:∃ W β L,(Ls W)[cnt (fun i=>listed.getD i false) ws]? = some L/\Ry N w0 β0 L0 a w β (Y9 ops l0 (val W) (fun i=>listed.getD i false) ops.length) L
structure Hc9 (Γ:Type) (P:Program) (N:Cfg) (ops:List Oper) (ws los his:List Nat) (Ls:Γ→List Loc) (l0:Fr) (val:Γ→Nat→AV) (g m:Nat):Prop where
 step:∀ W i o,i≠g→ops[i]? = some o→(match ws.idxOf? i with
   | some m=>∃ L L',(Ls W)[m]? = some L/\(Ls W)[m+1]? = some L'/\fA P N ops.toArray o (bH (o.looksAt ops.toArray) (Y9 ops l0 (val W) (fun _=>true) i)) L (val W i) L'
   | none=>rE (fun L=>fA P N ops.toArray o (bH (o.looksAt ops.toArray) (Y9 ops l0 (val W) (fun _=>true) i)) L (val W i) L) (gP (Ls W) (los.getD i 0) (his.getD i 0)))
 gst:∀ W o,ops[g]? = some o→∃ L,(Ls W)[m]? = some L/\o.guard=none/\H2 P o (bH (o.looksAt ops.toArray) (Y9 ops l0 (val W) (fun _=>true) g)) L (fun u L'=>∃ W',u=val W' g/\(Ls W')[m+1]? = some L')
 gw:ws.idxOf? g=some m
 lt:∀ (i:Nat) (o:Oper) (d:Tmp),ops[i]? = some o→o.dst=some d→d < N.n
 same:∀ W W' i,i < g→val W i=val W' i
 behind:∀ i,g < i→i < ops.length→((cS ops).getD i []).contains g=true
theorem G17 {Dn:Nat→Bool} {t:Nat}:∀ {n j:Nat},Yw ops Dn t n=some j→Dn j=true
 | 0,j,h=>by cases h
 | n+1,j,h=>by
  simp only [Yw] at h
  split at h
  .rename_i hh; cases h; exact hh.1
  .exact G17 h
theorem H94 {ro:Option Nat} {n g m0:Nat} (c9:∀ (i:Nat) o,ops[i]? = some o→dR o=true) (chk:nP ops ws los his=true) (pc:Hc9 Γ P N ops ws los his Ls l0 val g m0) {Q:Post} {w0:World} {β0:H4} {L0:Loc}
  (hQ:∀ W L,(Ls W)[ws.length]? = some L→Q.norm (Y9 ops l0 (val W) (fun _=>true) ops.length) L) :
  ∀ (fuel:Nat) (listed:Array Bool) (a:Act) (w:World),unl ops.length listed≤fuel→Hcd Γ P N ops ws Ls l0 val w0 β0 L0 listed a w→wpAnyIn (FR ro) n P .any ops.toArray (Q.out N w0 β0 L0) fuel listed a w:=by
 simp only [nP,Pp] at chk
 obtain⟨⟨⟨⟨b4,b9⟩,h7⟩,c0⟩,d0⟩:=chk
 have c6:∀ x∈ws,x < ops.length:=fun x hx=>by
  simp only [List.all_eq_true,Pq] at c0; exact c0 x hx
 have anc:∀ {i z:Nat},((cS ops).getD i []).contains z=true→Anc ops.toArray i z:=fun h=>JJ (by simpa using h)
 have down:∀ i o e,ops[i]? = some o→e∈o.after→Region.binds .any e=true→e.on < i:=by
  intro i o e ho he hb
  have hi:i < ops.length:=(Pa ho).1
  simp only [sQ,List.all_eq_true,List.mem_range] at b4
  have:=b4 i hi
  rw [ho] at this
  simp only [List.all_eq_true,Pq] at this
  exact this e.on (Pt.2 ⟨e,Pw.2 ⟨Array.mem_toList_iff.2 he,hb⟩,rfl⟩)
 -- when nothing is ready, all is done
 have finish:∀ (listed:Array Bool) (a:Act) (w:World),Hcd Γ P N ops ws Ls l0 val w0 β0 L0 listed a w→(∀ i,i < ops.length→listed.getD i false=true)→Q.out N w0 β0 L0 .normal a w:=by
  intro listed a w hs a0
  obtain⟨W,β,L,hL,h4⟩:=hs.st
  have e1:cnt (fun i=>listed.getD i false) ws=ws.length:=by
   unfold cnt
   rw [List.filter_eq_self.2 fun x hx=>a0 x (c6 x hx)]
  rw [e1] at hL
  rw [wR ops l0 (val W) _ ops.length (fun j hj=>a0 j hj)] at h4
  exact⟨β,_,L,h4,hQ W L hL⟩
 have stuck:∀ (listed:Array Bool),listed.size=ops.length→Region.ready .any ops.toArray listed=[]→∀ i,i < ops.length→listed.getD i false=true:=by
  intro listed f5 hr i
  induction i using Nat.strongRecOn with
  | _ i ih=>
   intro hi
   cases hd:listed.getD i false with
   | true=>rfl
   | false=>
    exfalso
    have:i∈Region.ready .any ops.toArray listed:=mem_ready.2 ⟨by rw [Yr (by omega)]; exact hd,ops[i],by simp [hi],fun e he hb=>by
     have:=down i ops[i] e (by simp [hi]) he hb
     exact ih e.on this (by omega)⟩
    rw [hr] at this; cases this
 intro fuel
 induction fuel with
 | zero=>
  intro listed a w hu hs
  have a0:∀ i,i < ops.length→listed.getD i false=true:=by
   intro i hi
   cases hd:listed.getD i false with
   | true=>rfl
   | false=>
    have:i∈(List.range ops.length).filter fun i=>!listed.getD i false:=Pw.2 ⟨List.mem_range.2 hi,by rw [hd]; rfl⟩
    have h0:(List.range ops.length).filter (fun i=>!listed.getD i false)=[]:=P1 (by unfold unl at hu; omega)
    rw [h0] at this; cases this
  refine⟨?_,finish listed a w hs a0⟩
  cases hr:Region.ready .any ops.toArray listed with
  | nil=>rfl
  | cons i r=>
   have hm:i∈Region.ready .any ops.toArray listed:=by rw [hr]; simp
   obtain⟨h1,o,ho,_⟩:=mem_ready.1 hm
   have hi:i < ops.length:=by have:=(Nz ho).1; simpa using this
   rw [Yr (by rw [hs.size]; exact hi),a0 i hi] at h1
   cases h1
 | succ fuel ih=>
  intro listed a w hu hs
  refine⟨fun hr=>finish listed a w hs (stuck listed hs.size hr),fun i hi=>?_⟩
  obtain⟨h1,o,ho,b5⟩:=mem_ready.1 hi
  have h6:ops[i]? = some o:=by simpa using ho
  have a9:i < ops.length:=(Pa h6).1
  have h5:listed.getD i false=false:=by rw [← Yr (by rw [hs.size]; exact a9)]; exact h1
  obtain⟨W,β,L,hL,h4⟩:=hs.st
  have h8:∀ j,Anc ops.toArray i j→listed.getD j false=true:=fun j hj=>hj.ready hs.closed (fun o' e a5 he hb=>by
   rw [ho] at a5; cases a5; exact b5 e he hb)
  have a7:∀ (m:Nat) x y,ws[m]? = some x→ws[m+1]? = some y→listed.getD y false=true→listed.getD x false=true:=fun m x y h1 h2 hy=>hs.closed.anc (anc (kR h7 m x y h1 h2).1) hy
  -- what a slot that operation i names has to do with the others
  have names:∀ j t,j < ops.length→j≠i→(ops[j]?).bind (·.dst)=some t→t∈cR ops.toArray o→(j < i/\Anc ops.toArray i j)\/(i < j/\Anc ops.toArray j i):=by
   intro j t hj c1 hd ht
   simp only [G10,List.all_eq_true,List.mem_range] at b9
   have:=b9 j hj
   rw [hd] at this
   simp only [List.all_eq_true,List.mem_range] at this
   have:=this i a9
   rw [h6] at this
   have hc:(cR ops.toArray o).contains t=true:=by simpa using ht
   simp only [hc,Bool.not_true,Bool.false_or,Px,beq_iff_eq,Ne.symm c1,false_or,ordered] at this
   rcases P4 i j with h | h
   .rw [if_pos h] at this; exact .inr ⟨h,anc this⟩
   .rw [if_neg (by omega)] at this; exact .inl ⟨by omega,anc this⟩
  have later:∀ j t,i < j→j < ops.length→(ops[j]?).bind (·.dst)=some t→t∈cR ops.toArray o→listed.getD j false=false:=by
   intro j t d5 hj hd ht
   rcases names j t hj (by omega) hd ht with h | h
   .omega
   .cases hl:listed.getD j false with
    | false=>rfl
    | true=>
     have:listed.getD i false=true:=hs.closed.anc h.2 hl
     rw [this] at h5; cases h5
  have earlier:∀ j t,j < i→(ops[j]?).bind (·.dst)=some t→t∈cR ops.toArray o→listed.getD j false=true:=by
   intro j t d5 hd ht
   rcases names j t (by omega) (by omega) hd ht with h | h
   .exact h8 j h.2
   .omega
  -- the frame that operation i sees
  have b6:Jx a w β L (bH (o.looksAt ops.toArray) (Y9 ops l0 (val W) (fun _=>true) i)):=by
   refine⟨fun t=>?_⟩
   rw [uM]
   split
   .rename_i ht
    have hn:t∈cR ops.toArray o:=List.mem_append_right _ ht
    have hv:=h4.frame.tmp t
    rw [dU] at hv ⊢
    have e1:Yw ops (fun i=>listed.getD i false) t ops.length=Yw ops (fun i=>listed.getD i false) t i:=
     jO ops _ t i ops.length (by omega) (fun j h1 h2 hd=>by
      rcases P4 i j with h | h
      .exact later j t h h2 hd hn
      .have:j=i:=by omega
       subst this; exact h5)
    have e2:Yw ops (fun i=>listed.getD i false) t i=Yw ops (fun _=>true) t i:=gQ ops _ _ t i (fun j hj hd=>earlier j t hj hd hn)
    rw [e1,e2] at hv
    exact hv
   .exact .junk
  -- behind it
  let listed':=listed.setIfInBounds i true
  have h9:∀ j,listed'.getD j false=if j=i then true else listed.getD j false:=by
   intro j
   simp only [listed',Array.getD_eq_getD_getElem?,Array.getElem?_setIfInBounds]
   by_cases e:i=j
   .subst e; simp [hs.size,a9]
   .simp [e,Ne.symm e]
  have b7:∀ (W':Γ) (L':Loc) (v:Value) (w':World) (J':H4),(∀ j,j≠i→listed.getD j false=true→val W j=val W' j)→(Ls W')[cnt (fun i=>listed'.getD i false) ws]? = some L'→Sat w' J' L'→Step w β L w' J' L'→V w' J' L' (val W' i) v →
    wpAnyIn (FR ro) n P .any ops.toArray (Q.out N w0 β0 L0) fuel listed' (a.put o.dst v) w':=by
   intro W' L' v w' J' d6 b0 c7 b2 d7
   refine ih listed' _ w' ?_ ⟨by simp [listed',hs.size],⟨fun k o2 e hk a5 he hb=>?_⟩,W',J',L',b0,c7,h4.step.trans b2,⟨fun t=>?_⟩,by rw [Act.put_size]; exact h4.size,h4.base,by rw [Act.put_defers']; exact h4.defers.step b2⟩
   ·-- one fewer is left
    have f3:((List.range ops.length).filter fun j=>!listed'.getD j false).length < ((List.range ops.length).filter fun j=>!listed.getD j false).length:=by
     have:(List.range ops.length).filter (fun j=>!listed'.getD j false)=((List.range ops.length).filter fun j=>!listed.getD j false).filter (fun j=>j != i):=by
      rw [List.filter_filter]
      congr 1
      funext j
      rw [h9 j]
      by_cases e:j=i <;> simp [e]
     rw [this]
     refine Nat.lt_of_le_of_ne (P3 _ _) (fun e=>?_)
     have:=List.length_filter_eq_length_iff.1 e i (Pw.2 ⟨List.mem_range.2 a9,by rw [h5]; rfl⟩)
     simp at this
    unfold unl at hu ⊢; omega
   .rw [h9] at hk ⊢
    by_cases e':e.on=i
    .rw [if_pos e']
    .rw [if_neg e']
     by_cases e2:k=i
     .subst e2
      rw [ho] at a5; cases a5
      exact b5 e he hb
     .rw [if_neg e2] at hk
      exact hs.closed.edge k o2 e hk a5 he hb
   .rw [dU]
    by_cases hd:o.dst=some t
    .have hn:t∈cR ops.toArray o:=List.mem_append_left _ (by simp [hd])
     have d8:(ops[i]?).bind (·.dst)=some t:=by rw [h6]; exact hd
     have e1:Yw ops (fun i=>listed'.getD i false) t ops.length=Yw ops (fun i=>listed'.getD i false) t (i+1):=
      jO ops _ t (i+1) ops.length (by omega) (fun j h1 h2 b8=>by rw [h9 j,if_neg (by omega)]; exact later j t (by omega) h2 b8 hn)
     have e2:Yw ops (fun i=>listed'.getD i false) t (i+1)=some i:=by simp only [Yw]; rw [if_pos ⟨by rw [h9 i,if_pos rfl],d8⟩]
     rw [e1,e2,hd,pJ (P0 (pc.lt i o t h6 hd) h4.size),if_pos rfl]
     exact d7
    .have e1:Yw ops (fun i=>listed'.getD i false) t ops.length=Yw ops (fun i=>listed.getD i false) t ops.length:=
      gQ ops _ _ t ops.length (fun j hj b8=>by
       rw [h9 j,if_neg (fun e=>hd (by subst e; rw [h6] at b8; exact b8))])
     have hv:=(h4.frame.tmp t).step b2
     rw [dU] at hv
     rw [e1]
     have e2:(a.put o.dst v).tmps.getD t undef=a.tmps.getD t undef:=by
      cases d1:o.dst with
      | none=>rfl
      | some d=>
       have c2:d < a.tmps.size:=P0 (pc.lt i o d h6 d1) h4.size
       rw [pJ c2,if_neg (fun e=>hd (by rw [d1,e]))]
     rw [e2]
     cases c3:Yw ops (fun i=>listed.getD i false) t ops.length with
     | none=>rw [c3] at hv; exact hv
     | some j=>
      rw [c3] at hv
      have hj:=G17 c3
      show V w' J' L' (val W' j) (a.tmps.getD t undef)
      rw [← d6 j (fun e=>by subst e; rw [h5] at hj; cases hj) hj]
      exact hv
  unfold wpOpIn
  rw [ho]
  have fin:(∃ L',(Ls W)[cnt (fun i=>listed'.getD i false) ws]? = some L'/\fA P N ops.toArray o (bH (o.looksAt ops.toArray) (Y9 ops l0 (val W) (fun _=>true) i)) L (val W i) L') →
    if Region.wanted o (yielded ops.toArray a.tmps)=true then Oper.wpIn (FR ro) n P o a w (wpAnyIn (FR ro) n P .any ops.toArray (Q.out N w0 β0 L0) fuel listed') (Q.out N w0 β0 L0) else (∀ f,o.about P w a.eval=some f→(FR ro).fn f)/\wpAnyIn (FR ro) n P .any ops.toArray (Q.out N w0 β0 L0) fuel listed' (a.put o.dst undef) w:=by
   rintro⟨L',b0,hO⟩
   have:=hO a w β (wpAnyIn (FR ro) n P .any ops.toArray (Q.out N w0 β0 L0) fuel listed') (Q.out N w0 β0 L0) h4.sat b6 h4.size (fun v w' J' h1 h2 h3=>b7 W L' v w' J' (fun _ _ _=>rfl) b0 h1 h2 h3)
   split
   .rename_i hw; rw [if_pos hw] at this; exact gM (c9 i o h6) this
   .rename_i hw; rw [if_neg hw] at this; exact⟨fun _ _=>trivial,this⟩
  have hW:∀ m,ws.idxOf? i=some m→cnt (fun i=>listed.getD i false) ws=m/\cnt (fun i=>listed'.getD i false) ws=m+1:=fun m a2=>by
   have b1:ws[m]? = some i:=by
    have:=List.idxOf?_eq_some_iff.1 a2
    obtain⟨h,e,_⟩:=this
    simp [h,e]
   -- the stage is m
   have a3:cnt (fun i=>listed.getD i false) ws=m:=by
    have f6:¬ m < cnt (fun i=>listed.getD i false) ws:=fun h=>by
     have:=(dK (Dn:=fun i=>listed.getD i false) a7 m i b1).2 h
     simp only [h5] at this; cases this
    rcases P4 (cnt (fun i=>listed.getD i false) ws) m with h | h
    .exfalso
     -- the one bf i is done
     have d9:m - 1 < ws.length:=by have:=(Pa b1).1; omega
     have d2:ws[m - 1]? = some ws[m - 1]:=by simp [d9]
     have:=kR h7 (m - 1) ws[m - 1] i d2 (by rw [show m - 1+1=m by omega]; exact b1)
     have c8:=h8 _ (anc this.1)
     have:=(dK (Dn:=fun i=>listed.getD i false) a7 (m - 1) _ d2).1 c8
     omega
    .omega
   have a4:∀ (k:Nat) x y,ws[k]? = some x→ws[k+1]? = some y→listed'.getD y false=true→listed'.getD x false=true:=by
    intro k x y hx hy c4
    rw [h9] at c4 ⊢
    by_cases e:x=i
    .rw [if_pos e]
    .rw [if_neg e]
     by_cases e2:y=i
     .subst e2; exact h8 _ (anc (kR h7 k x y hx hy).1)
     .rw [if_neg e2] at c4; exact a7 k x y hx hy c4
   have a8:cnt (fun i=>listed'.getD i false) ws=m+1:=by
    have a1:=(dK (Dn:=fun i=>listed'.getD i false) a4 m i b1).1 (by simp only [h9,if_pos])
    rcases P4 (m+1) (cnt (fun i=>listed'.getD i false) ws) with h | h
    .exfalso
     have f4:cnt (fun i=>listed'.getD i false) ws≤ws.length:=P3 _ _
     have c2:m+1 < ws.length:=by omega
     have hx:ws[m+1]? = some ws[m+1]:=by simp [c2]
     have hd:=(dK (Dn:=fun i=>listed'.getD i false) a4 (m+1) _ hx).2 h
     have c1:ws[m+1]≠i:=fun e=>by
      have:=(kR h7 m i ws[m+1] b1 hx).2
      omega
     simp only [h9,if_neg c1] at hd
     have:=(dK (Dn:=fun i=>listed.getD i false) a7 (m+1) _ hx).1 hd
     omega
    .omega
   exact⟨a3,a8⟩
  by_cases d3:i=g
  .subst d3
   obtain⟨Lg,e0,e3,hA⟩:=pc.gst W o h6
   obtain⟨hw1,e4⟩:=hW m0 pc.gw
   rw [hw1] at hL
   rw [e0] at hL; cases hL
   have e5:Region.wanted o (yielded ops.toArray a.tmps)=true:=by simp [Region.wanted,e3]
   show if _ then _ else _
   rw [if_pos e5]
   refine gM (c9 i o h6) (hA a w β _ (Q.out N w0 β0 L0) h4.sat b6 (fun u L' v w' J' hR h1 h2 h3=>?_))
   obtain⟨W',rfl,b0⟩:=hR
   refine b7 W' L' v w' J' (fun j hj c5=>pc.same W W' j ?_) (by rw [e4]; exact b0) h1 h2 h3
   rcases P4 j i with h | h
   .exact h
   .exfalso
    have e6:j < ops.length:=by
     rcases P4 j ops.length with h2 | h2
     .exact h2
     .have:listed.getD j false=false:=by simp [Array.getD_eq_getD_getElem?,Array.getElem?_eq_none (by rw [hs.size]; exact h2)]
      rw [this] at c5; cases c5
    have:listed.getD i false=true:=hs.closed.anc (anc (pc.behind j (by omega) e6)) c5
    rw [this] at h5; cases h5
  apply fin
  have a6:=pc.step W i o d3 h6
  have d4:∀ (hw:ws.idxOf? i=none),cnt (fun i=>listed'.getD i false) ws=cnt (fun i=>listed.getD i false) ws:=by
   intro hw
   unfold cnt
   congr 1
   refine List.filter_congr fun x hx=>?_
   rw [h9 x,if_neg (fun e=>by subst e; exact absurd (List.idxOf?_eq_none_iff.1 hw) (by simpa using hx))]
  cases a2:ws.idxOf? i with
  | none=>
   rw [a2] at a6
   simp only at a6
   refine⟨L,by rw [d4 a2]; exact hL,?_⟩
   -- the stage lies between lo and hi
   simp only [List.all_eq_true,List.mem_range] at d0
   have b3:=d0 i a9
   have e7:ws.contains i=false:=by
    cases hc:ws.contains i with
    | false=>rfl
    | true=>exact absurd (List.idxOf?_eq_none_iff.1 a2) (by simpa using hc)
   rw [e7] at b3
   simp only [Bool.false_or,Pp,beq_iff_eq] at b3
   obtain⟨e8,e9⟩:=b3
   have h1:los.getD i 0≤cnt (fun i=>listed.getD i false) ws:=by
    rw [e8]; unfold Ga0 cnt
    have:ws.filter (fun w=>((cS ops).getD i []).contains w)=(ws.filter fun w=>listed.getD w false).filter (fun w=>((cS ops).getD i []).contains w):=by
     rw [List.filter_filter]
     refine List.filter_congr fun x _=>?_
     cases hc:((cS ops).getD i []).contains x with
     | false=>simp
     | true=>simp [h8 x (anc hc)]
    rw [this]; exact P3 _ _
   have h2:cnt (fun i=>listed.getD i false) ws≤his.getD i 0:=by
    rw [e9]; unfold Ga1 cnt
    have:ws.filter (fun w=>listed.getD w false)=(ws.filter fun w=>!((cS ops).getD w []).contains i).filter (fun w=>listed.getD w false):=by
     rw [List.filter_filter]
     refine List.filter_congr fun x _=>?_
     cases hc:listed.getD x false with
     | false=>simp
     | true=>
      cases f0:((cS ops).getD x []).contains i with
      | false=>simp
      | true=>
       have:listed.getD i false=true:=hs.closed.anc (anc f0) hc
       rw [this] at h5; cases h5
    rw [this]; exact P3 _ _
   refine wO a6 (i:=cnt (fun i=>listed.getD i false) ws - los.getD i 0) ?_
   unfold gP
   rw [Pk,if_pos (by omega),Pm]
   rw [show los.getD i 0+(cnt (fun i=>listed.getD i false) ws - los.getD i 0)=cnt (fun i=>listed.getD i false) ws by omega]
   exact hL
  | some m=>
   rw [a2] at a6
   simp only at a6
   obtain⟨L1,L2,f1,f2,hO⟩:=a6
   obtain⟨a3,a8⟩:=hW m a2
   rw [a3] at hL
   rw [f1] at hL; cases hL
   exact⟨L2,by rw [a8]; exact f2,hO⟩

def Hc7 (P:Program) (N:Cfg) (ops:List Oper) (ws los his:List Nat) (Ls:List Loc) (l0:Fr) (val:Nat→AV) (i:Nat) (o:Oper):Prop:=
 match ws.idxOf? i with
  | some m=>∃ L L',Ls[m]? = some L/\Ls[m+1]? = some L'/\fA P N ops.toArray o (bH (o.looksAt ops.toArray) (Y9 ops l0 val (fun _=>true) i)) L (val i) L'
  | none=>rE (fun L=>fA P N ops.toArray o (bH (o.looksAt ops.toArray) (Y9 ops l0 val (fun _=>true) i)) L (val i) L) (gP Ls (los.getD i 0) (his.getD i 0))
theorem lM {ops:List Oper} {l0:Fr} {val val':Nat→AV} {Dn:Nat→Bool}:∀ {n:Nat},(∀ j,j < n→val j=val' j)→Y9 ops l0 val Dn n=Y9 ops l0 val' Dn n
 | 0,_=>rfl
 | n+1,h=>by
  simp only [Y9,lM (n:=n) fun j hj=>h j (by omega),h n (by omega)]
theorem zG {P:Program} {N:Cfg} (ops:List Oper) (ws los his:List Nat) (Ls:List Loc) (l0:Fr) (K:Fr→Prop) (p:Nat):∀ (r:List Oper) (i:Nat) (val:Nat→AV),(∀ j,j < r.length→r[j]? = ops[i+j]?)→i+r.length=p →
  dQ P N ops.toArray ws los his Ls i r (Y9 ops l0 val (fun _=>true) i) K→∃ val',(∀ j,j < i→val' j=val j)/\(∀ j o,i≤j→j < p→ops[j]? = some o→Hc7 P N ops ws los his Ls l0 val' j o)/\K (Y9 ops l0 val' (fun _=>true) p)
 | [],i,val,hr,hl,h=>by
  simp at hl
  subst hl
  exact⟨val,fun _ _=>rfl,fun j o h1 h2 _=>by omega,h⟩
 | o::r,i,val,hr,hl,h=>by
  obtain⟨u,h1,h2⟩:=h
  have ho:ops[i]? = some o:=by have:=hr 0 (by simp); simpa using this.symm
  obtain⟨val1,h0⟩:∃ val1:Nat→AV,val1=fun j=>if j=i then u else val j:=⟨_,rfl⟩
  have h3:∀ j,j < i→val j=val1 j:=fun j hj=>by rw [h0]; exact(if_neg (by omega)).symm
  have h6:val1 i=u:=by rw [h0]; exact if_pos rfl
  have hv:=lM (ops:=ops) (l0:=l0) (Dn:=fun _=>true) h3
  have h5:dQ P N ops.toArray ws los his Ls (i+1) r (Y9 ops l0 val1 (fun _=>true) (i+1)) K:=by
   simp only [Y9,ho,Option.bind_some,if_true,h6,← hv]
   cases h7:o.dst with
   | none=>rw [h7] at h2; exact h2
   | some d=>rw [h7] at h2; exact h2.2
  obtain⟨val',a1,a2,a3⟩:=zG ops ws los his Ls l0 K p r (i+1) val1 (fun j hj=>by have:=hr (j+1) (by simpa using hj); simpa [Nat.add_assoc,Nat.add_comm 1 j] using this) (by simp at hl; omega) h5
  refine⟨val',fun j hj=>(a1 j (by omega)).trans (h3 j hj).symm,fun j o' h9 h8 h4=>?_,a3⟩
  by_cases e:j=i
  .subst e
   rw [ho] at h4; cases h4
   have e1:Y9 ops l0 val' (fun _=>true) j=Y9 ops l0 val (fun _=>true) j:=lM fun k hk=>(a1 k (by omega)).trans (h3 k hk).symm
   have e2:val' j=u:=(a1 j (by omega)).trans h6
   unfold Hc7
   rw [e1,e2]; exact h1
  .exact a2 j o' (by omega) h8 h4
theorem wD {J:Type} {a b:List J} {n k:Nat} (h:a.take n=b.take n) (hk:k < n):a[k]? = b[k]? := by
 have:=congrArg (fun l:List J=>l[k]?) h
 simpa [Pk,hk] using this
theorem G9f {a b:List Loc} {n lo hi:Nat} (h:a.take n=b.take n) (hk:hi+1≤n):gP a lo hi=gP b lo hi:=by
 unfold gP
 rw [← List.drop_take,← List.drop_take]
 congr 1
 have e:∀ l:List Loc,l.take (hi+1)=(l.take n).take (hi+1):=fun l=>by rw [List.take_take,Nat.min_eq_left hk]
 rw [e a,e b,h]
theorem J4d {Γ:Type} [Nonempty Γ] {id:Nat} {Q:Post} {l:Fr} {L:Loc} (g m d:Nat) (o:Oper) (u:Γ→AV) (ws los his:List Nat) (Ls1:List Loc) (Ls:Γ→List Loc) (hm:P.follows .mixedOrders=true) (chk:nP ops ws los his=true) (h0:Ls1[0]? = some L) (h4:∀ W,(Ls W).take (m+2)=Ls1.take (m+2))
  (ho:ops[g]? = some o) (h9:o.dst=some d) (a0:o.guard=none) (a1:ops.all (fun o=>match o.dst with | some d=>Nat.blt d N.n | none=>true)=true) (a2:ws.idxOf? g=some m) (h7:(List.range g).all (fun i=>match ws.idxOf? i with | some k=>Nat.blt k m | none=>Nat.ble (his.getD i 0) (m+1))=true) (h8:(List.range ops.length).all (fun i=>Nat.ble i g||((cS ops).getD i []).contains g)=true)
  (h:dQ P N ops.toArray ws los his Ls1 0 (ops.take g) l (fun l'=>(∃ Lg,Ls1[m]? = some Lg/\H2 P o (bH (o.looksAt ops.toArray) l') Lg (fun v L1=>∃ W,v=u W/\Ls1[m+1]? = some L1)) /\
   ∀ W,dQ P N ops.toArray ws los his (Ls W) (g+1) (ops.drop (g+1)) ((d,u W)::l') (fun l''=>∀ L',(Ls W)[ws.length]? = some L'→Q.norm l'' L'))) (a3:ops.all dR=true:=by rfl):JC P N (.region id ops.toArray true) Q l L:=by
 have a7:g < ops.length:=(Pa ho).1
 obtain⟨val0,_,b2,hA,hB⟩:=zG ops ws los his Ls1 l _ g (ops.take g) 0 (fun _=>.junk) (fun j hj=>by rw [Pk,if_pos (by rw [List.length_take] at hj; omega),Nat.zero_add]) (by rw [List.length_take]; omega) h
 obtain⟨Lg,a4,hA⟩:=hA
 obtain⟨v1,h6⟩:∃ v1:Γ→Nat→AV,v1=fun W i=>if i=g then u W else val0 i:=⟨_,rfl⟩
 have v1g:∀ W,v1 W g=u W:=fun W=>by rw [h6]; exact if_pos rfl
 have v1l:∀ W j,j < g→v1 W j=val0 j:=fun W j hj=>by rw [h6]; exact if_neg (by omega)
 have a5:∀ W,∃ val',(∀ j,j < g+1→val' j=v1 W j)/\(∀ j o,g+1≤j→j < ops.length→ops[j]? = some o→Hc7 P N ops ws los his (Ls W) l val' j o)/\(∀ L',(Ls W)[ws.length]? = some L'→Q.norm (Y9 ops l val' (fun _=>true) ops.length) L'):=fun W=>by
  refine zG ops ws los his (Ls W) l (fun l''=>∀ L',(Ls W)[ws.length]? = some L'→Q.norm l'' L') ops.length (ops.drop (g+1)) (g+1) (v1 W) (fun j _=>by rw [Pm]) (by rw [List.length_drop]; omega) ?_
  have e:Y9 ops l (v1 W) (fun _=>true) (g+1)=(d,u W)::Y9 ops l val0 (fun _=>true) g:=by
   simp only [Y9,ho,Option.bind_some,h9,if_true,v1g]
   rw [lM fun j hj=>v1l W j hj]
  rw [e]; exact hB W
 obtain⟨val,h5⟩:=Classical.axiomOfChoice a5
 have vl:∀ W j,j < g→val W j=val0 j:=fun W j hj=>((h5 W).1 j (by omega)).trans (v1l W j hj)
 have vg:∀ W,val W g=u W:=fun W=>((h5 W).1 g (by omega)).trans (v1g W)
 have pc:Hc9 Γ P N ops ws los his Ls l val g m:=by
  refine⟨fun W i o' hi h3=>?_,fun W o' h3=>?_,a2,fun i o' d' h3 a6=>?_,fun W W' i hi=>(vl W i hi).trans (vl W' i hi).symm,fun i h1 h2=>?_⟩
  .rcases P4 i g with h1 | h1
   .have hs:=b2 i o' (Nat.zero_le _) h1 h3
    have hb:=List.all_eq_true.1 h7 i (List.mem_range.2 h1)
    unfold Hc7 at hs
    rw [vl W i h1,lM fun j hj=>vl W j (by omega)]
    cases hw:ws.idxOf? i with
    | some k=>
     rw [hw] at hs hb
     have hk:k < m:=by simpa [Nat.blt_eq] using hb
     simp only at hs ⊢
     rw [wD (h4 W) (by omega),wD (h4 W) (by omega)]
     exact hs
    | none=>
     rw [hw] at hs hb
     have hk:his.getD i 0≤m+1:=Nat.le_of_ble_eq_true hb
     simp only at hs ⊢
     rw [G9f (h4 W) (by omega)]
     exact hs
   .have:=(h5 W).2.1 i o' (by omega) (Pa h3).1 h3
    exact this
  .rw [ho] at h3; cases h3
   refine⟨Lg,(wD (h4 W) (by omega)).trans a4,a0,?_⟩
   rw [lM fun j hj=>vl W j hj]
   exact fun a w β K Q hs hf hK=>hA a w β K Q hs hf (fun v L1 x w' J' hr=>by
    obtain⟨W',e1,e2⟩:=hr
    exact hK v L1 x w' J' ⟨W',e1.trans (vg W').symm,(wD (h4 W') (by omega)).trans e2⟩)
  .have:=List.all_eq_true.1 a1 o' (Pd h3)
   rw [a6] at this
   simpa [Nat.blt_eq] using this
  .have:=List.all_eq_true.1 h8 i (List.mem_range.2 h2)
   rw [Px] at this
   rcases this with h | h
   .have:=Nat.le_of_ble_eq_true h; omega
   .exact h
 intro n w0 β0 L0 a w β hs
 refine wpIn_region_any hm ?_
 rw [List.size_toArray]
 obtain⟨W0⟩:=‹Nonempty Γ›
 refine H94 (ro:=N.ro) (n:=n) (fun i o hi=>List.all_eq_true.1 a3 o (Pd hi)) chk pc (fun W L'' hL''=>(h5 W).2.2 L'' hL'') ops.length (Array.replicate ops.length false) a _ ?_ ⟨by simp,⟨fun i o e hi=>?_⟩,W0,β,L,?_,?_⟩
 .exact Nat.le_trans (P3 _ _) (by simp)
 .simp only [Array.getD_eq_getD_getElem?,Array.getElem?_replicate] at hi
  split at hi <;> simp at hi
 .have:cnt (fun i=>(Array.replicate ops.length false).getD i false) ws=0:=by
   unfold cnt
   have hf:∀ i,(Array.replicate ops.length false).getD i false=false:=fun i=>by
    simp only [Array.getD_eq_getD_getElem?,Array.getElem?_replicate]; split <;> rfl
   simp [hf]
  rw [this]; exact(wD (h4 W0) (by omega)).trans h0
 .have:Y9 ops l (val W0) (fun i=>(Array.replicate ops.length false).getD i false) ops.length=l:=by
   have hf:(fun i=>(Array.replicate ops.length false).getD i false)=fun _=>false:=by
    funext i
    simp only [Array.getD_eq_getD_getElem?,Array.getElem?_replicate]; split <;> rfl
   rw [hf]
   have:∀ n,Y9 ops l (val W0) (fun _=>false) n=l:=by
    intro n
    induction n with
    | zero=>rfl
    | succ n ih=>
     cases hd:(ops[n]?).bind (·.dst) with
     | none=>simp only [Y9,hd]; exact ih
     | some d=>simp only [Y9,hd,Bool.false_eq_true,if_false]; exact ih
   exact this _
  rw [this]; exact hs.drew
end sound
end Go.Proofs.YthkihfoleenlmaaGreat
