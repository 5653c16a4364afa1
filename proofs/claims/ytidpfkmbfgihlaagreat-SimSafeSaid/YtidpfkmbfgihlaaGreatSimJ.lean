/-
 What putting a box does,and doing any move. How a simulator begins,and what the chapter's statements mak What the chapter's statements make: SimBack: SimSafe: SimSafe:
-/
import Derived.Test.YtidpfkmbfgihlaaGreatSimC
set_option maxRecDepth 100000
set_option linter.unusedVariables false
namespace Go.Proofs.YtidpfkmbfgihlaaGreat
open Go.RowKit
section
variable {s:Gk} {boxes:List Box} {m:Gb} {t:St} {x:Move}
theorem Y8e (hR:Gf8 s boxes m t) (y:Slot) (size:Int):Wp (G41 m.ship y size) (fun r=>r=true ↔ G69 s y size):=by
 refine wp_mono (J76 m.ship y size) (fun r hr=>hr.trans ⟨fun h=>⟨?_,h.tier,h.half⟩,fun h=>⟨?_,h.tier,h.half⟩⟩)
 ·obtain⟨i,c,h1,h2,h3⟩:=h.col
  exact⟨i,c,h1,by rw [← hR.cols]; exact h2,h3⟩
 ·obtain⟨i,c,h1,h2,h3⟩:=h.col
  exact⟨i,c,h1,by rw [hR.cols]; exact h2,h3⟩
theorem Ye1 (hG:Good s boxes t) (hR:Gf8 s boxes m t) (hk:x.Kind=3) (hl:0≤m.lifts∧m.lifts≤1000000):Wp (Gfc m x) (Ra4 s boxes m t x):=by
 have a1:Can s boxes t x ↔ Qca s boxes t x:=by
  constructor
  ·rintro(h | h | h | h)
   ·exact absurd h.1 (by omega)
   ·exact absurd h.1 (by omega)
   ·exact absurd h.1 (by omega)
   ·exact h.2
  ·exact fun h=>.inr (.inr (.inr ⟨hk,h⟩))
 have a5:=G27 hG.ship
 unfold Gfc
 have a6:Gu.has m.quay x.Box=true ↔ x.Box∈t.a:=by
  rw [Y87]
  constructor
  ·rintro⟨b,hb⟩
   exact((hR.quay _ b).1 hb).1
  ·intro h
   obtain⟨b,hb,_⟩:=hG.box _ h
   exact⟨b,(hR.quay _ b).2 ⟨h,hb⟩⟩
 refine Gs rfl (Gs rfl (Gs rfl (Gy (wp_mono (Q':=fun r=>(r=0∧Qca s boxes t x)∨(r≠0∧¬ Qca s boxes t x)) ?_ (fun r7 h7=>?_)))))
 ·refine Z6 (P:=x.G8=0) (Gg (by rw [Mi])) (fun h1=>?_) (fun h1=>.inr ⟨by decide,fun h=>h1 h.1⟩)
  refine Z6 (Gg a6) (fun h2=>?_) (fun h2=>.inr ⟨by decide,fun h=>h2 h.2.1⟩)
  obtain⟨b,hb,hz⟩:=hG.box _ h2
  rw [J11 m.quay ((hR.quay _ b).2 ⟨h2,hb⟩)]
  have a2:x.Box ∉ t.l.map (·.Box):=hG.disj _ h2
  refine Z6 (P:=G69 s x.Slot b.Size) ?_ (fun h3=>?_) (fun h3=>.inr ⟨by decide,fun⟨_,_,d,g1,g2,_⟩=>h3 (by rw [hb] at g1; cases g1; exact g2)⟩)
  ·unfold Ga1
   exact Gy (wp_mono (Y8e hR x.Slot b.Size) (fun r hr=>Gg hr))
  obtain⟨i,c,hi,hc,b0⟩:=h3.col
  have a7 : -1000000≤x.Slot.Tier∧x.Slot.Tier≤1000000:=by
   have:=a5.tiers c (M6 hc)
   have:=h3.tier
   omega
  refine Z6 (P:=¬ Hc3 s t.o x.Slot) ?_ (fun h4=>?_) (fun h4=>.inr ⟨by decide,fun⟨_,_,d,g1,g2,g3,_⟩=>h4 g3⟩)
  ·unfold Ga0
   refine Gy (wp_mono (R79 hG hR (x:=x.Slot) hi hc) (fun r hr=>Gg ?_))
   rw [Bool.not_eq_true',← Bool.not_eq_true,hr]
  refine Z6 (P:=¬ Qde t.l x.Slot) ?_ (fun h5=>?_) (fun h5=>.inr ⟨by decide,fun⟨_,_,d,g1,g2,g3,g4,_⟩=>h5 g4⟩)
  ·unfold G9f
   refine Gy (wp_mono (Qa8 hG hR (P:=fun z=>Hc7 z x.Slot) (fun y hy=>?_)) (fun r hr=>Gg ?_))
   ·unfold G5a
    exact Gy (wp_mono (Jd6 _ _) (fun r hr=>Gg hr))
   ·rw [Bool.not_eq_true',← Bool.not_eq_true,hr]
    exact not_congr ⟨fun⟨y,hy,h⟩=>⟨y,hy,Hbc h⟩,fun⟨y,hy,h⟩=>⟨y,hy,Hbc h⟩⟩
  refine Z6 (P:=H3f x.Slot (t.l.map (·.Slot))) ?_ (fun h6=>?_) (fun h6=>.inr ⟨by decide,fun⟨_,_,d,g1,g2,g3,g4,g5,_⟩=>h6 g5⟩)
  ·have hp:=Q42 hG hR
   have a3:(Gu.keys m.on).filterMap id=(onB m).map (·.Slot):=by
    rw [Hbd]; unfold onB; rw [List.map_map]; rfl
   have b1:(onB m).length≤8:=by rw [hp.length_eq]; have:=hG.num; have:=hG.few; omega
   unfold G9e
   refine Gy (Gg (Gs (x:=(onB m).map (·.Slot)) ?_ (Gy (wp_mono (Q':=fun r=>r=true ↔ H3f x.Slot (t.l.map (·.Slot))) ?_ (fun r hr=>Gg hr)))))
   ·unfold G04
    rw [a3,M1 (show ((onB m).map (·.Slot)).length*24≤140737488355328∧((onB m).map (·.Slot)).length≤maxLen from ⟨by rw [Mj]; omega,by rw [Mj]; simp only [maxLen]; omega⟩),Q8b]
   ·unfold H45
    rw [R04 (hp.map (·.Slot))]
    exact Jd7 x.Slot _ a7
  refine Z6 (P:=Qe7 s boxes (Hed ⟨x.Box,x.Slot⟩ t.l) x.Slot) ?_ (fun h7=>Hd0 (.inl ⟨rfl,h1,h2,b,hb,h3,h4,h5,h6,h7⟩)) (fun h7=>.inr ⟨by decide,fun⟨_,_,d,g1,g2,g3,g4,g5,g6⟩=>h7 g6⟩)
  have h9:=H9e hG.right.sorted (y:=⟨x.Box,x.Slot⟩) a2
  have a8:Qe7 s boxes (Hed ⟨x.Box,x.Slot⟩ t.l) x.Slot ↔ J08 boxes (Hed ⟨x.Box,x.Slot⟩ t.l) i c:=by
   refine⟨fun hf=>hf i c hi hc,fun hf j d e1 e2=>?_⟩
   have:j=i:=by omega
   subst this
   rw [hc] at e2; cases e2
   exact hf
  have hh:∀ half:Int,Zi boxes (Hed ⟨x.Box,x.Slot⟩ t.l) (i:Int) half=(if x.Slot.Half=half∨x.Slot.Half=0 then H70 b else 0)+Zi boxes t.l (i:Int) half:=fun half=>by
   rw [Q24 (Gf4 h9),G3a,Y3b (x:=⟨x.Box,x.Slot⟩) hb]
   congr 1
   by_cases a0:x.Slot.Half=half∨x.Slot.Half=0
   ·rw [if_pos a0,if_pos ⟨hi,a0⟩]
   ·rw [if_neg a0,if_neg (fun g=>a0 g.2)]
  unfold G9d
  show Wp (Z3 m.ship.Columns x.Slot.G2 _) _
  refine Ya hi (show m.ship.Columns[i]? = some c by rw [hR.cols]; exact hc) ?_
  rw [a8]
  unfold J08
  by_cases hH:c.Height≤0
  ·rw [M1 hH]
   exact Gy (Gg (Gy (Gg (Gg ⟨fun _=>.inl hH,fun _=>rfl⟩))))
  ·rw [M2 hH]
   refine Gs (Y31 hG hR x.Slot b 1) (Gs (Y31 hG hR x.Slot b 2) (Gg ?_))
   rw [hi,← hh,← hh,Bool.false_or,Mi,Int.max_le]
   exact⟨fun h=>.inr h,fun h=>h.resolve_left hH⟩
 ·refine He (fun h=>Gg (.inr ?_)) (fun h=>?_)
  ·have h0:=Kz h
   rcases h7 with ⟨e,_⟩ | ⟨e,h7⟩
   ·exact(h0 e).elim
   ·exact⟨fun g=>h7 (a1.1 g),e,rfl⟩
  ·have h0:r7=0:=by have:=M0 h; omega
   have h7:Qca s boxes t x:=h7.elim (·.2) (fun h=>(h.1 h0).elim)
   refine Qy (by omega) (Gg (.inl ⟨a1.2 h7,rfl,?_,?_⟩))
   ·obtain⟨h1,h2,b,hb,h3,h4,h5,h6,h8⟩:=h7
    have a2:x.Box ∉ t.l.map (·.Box):=hG.disj _ h2
    have h9:=H9e hG.right.sorted (y:=⟨x.Box,x.Slot⟩) a2
    have hid:=G68 hb
    have a9:=(hR.quay x.Box b).2 ⟨h2,hb⟩
    have a4:∀ y∈t.l,y.Slot≠x.Slot:=fun y hy e=>h5 ⟨y,hy,by rw [e]; exact⟨rfl,rfl,.inl rfl⟩⟩
    rw [Y98 hk,J11 m.quay a9]
    refine⟨hR.cols,hR.covs,fun y d=>?_,fun i d=>?_,hR.opn⟩
    ·show (y,d)∈Gu.Hf (Gu.put m.on x.Slot b) ↔ (⟨d.ID,y⟩:Stowed)∈Hed ⟨x.Box,x.Slot⟩ t.l∧Qj boxes d.ID=some d
     rw [Q4e,(Gf4 h9).mem_iff,Mo,hR.on]
     constructor
     ·rintro(⟨rfl,rfl⟩ | ⟨g1,g2,g3⟩)
      ·exact⟨.inl (by rw [hid]),by rw [hid]; exact hb⟩
      ·exact⟨.inr g2,g3⟩
     ·rintro⟨g | g,g3⟩
      ·have e1:d.ID=x.Box:=congrArg Stowed.Box g
       have e2:y=x.Slot:=congrArg Stowed.Slot g
       refine .inl ⟨e2,?_⟩
       rw [e1,hb] at g3
       cases g3; rfl
      ·exact .inr ⟨a4 _ g,g,g3⟩
    ·show (i,d)∈Gu.Hf (Gu.del m.quay x.Box) ↔ i∈Hc0 x.Box t.a∧Qj boxes i=some d
     rw [Rb4,G8f,hR.quay]
     exact⟨fun h=>⟨⟨h.2.1,h.1⟩,h.2.2⟩,fun h=>⟨h.1.2,h.1.1,h.2⟩⟩
   ·show m.lifts+1=m.lifts+G83 x
    unfold G83
    rw [if_pos (.inr hk)]
theorem R3a (hG:Good s boxes t) (hR:Gf8 s boxes m t) (hl:0≤m.lifts∧m.lifts≤1000000) (x:Move):Wp (G1f m x) (Ra4 s boxes m t x):=by
 unfold G1f
 refine G51 (fun j=>j=true ↔ (x.Kind=1∨x.Kind=4)) (fun K hK=>He (fun h=>hK _ ?_) (fun h=>hK _ ?_)) (fun j hj=>?_)
 ·rw [h]; exact⟨fun _=>.inl (Kz h),fun _=>rfl⟩
 ·rw [Mi]
  exact⟨.inr,fun g=>g.resolve_left (M0 h)⟩
 refine He (fun h=>?_) (fun h=>He (fun h2=>?_) (fun h2=>He (fun h3=>?_) (fun h3=>Gg (.inr ⟨?_,by show (310:Int)≠0; decide,rfl⟩))))
 ·rcases hj.1 h with hk | hk
  ·exact Gy (wp_mono (Y09 hG hR hk) (fun r hr=>Gg hr))
  ·exact Gy (wp_mono (Y08 hG hR hk) (fun r hr=>Gg hr))
 ·exact Gy (wp_mono (Y94 hG hR (Kz h2) hl) (fun r hr=>Gg hr))
 ·exact Gy (wp_mono (Ye1 hG hR (Kz h3) hl) (fun r hr=>Gg hr))
 ·have hn:¬ (x.Kind=1∨x.Kind=4):=fun g=>by rw [hj.2 g] at h; cases h
  have h2:=M0 h2
  have h3:=M0 h3
  rintro(g | g | g | g)
  ·exact hn (.inl g.1)
  ·exact hn (.inr g.1)
  ·exact h2 g.1
  ·exact h3 g.1
end

theorem Y65 {s:Gk} (h:Y45 s):Qc1 s:=
 ⟨h.some,h.cols.len,fun c hc=>⟨c,0,h.cols.each c hc,.inl rfl,by rw [← (h.cols.each c hc).height]⟩,h.cols.nodup,h.covs⟩
theorem Ra0 {s:Gk} {l0:List Gv} (hs:Small s) (h8:∀ d∈l0,J8c d) {most:Nat} (a1:most≤10) :
  Wp (R8 s l0 (most:Int)) (fun r=>r.1=G94 (l0.take (min l0.length most))∧Yz s r.1 r.2∧r.2.length≤most):=by
 unfold R8
 have a2:=hs.cols
 refine Gy (H67 (m:=min l0.length most) (by omega) (by omega) ?_)
 have h0:(l0.take (min l0.length most)).length≤most:=by rw [List.length_take]; omega
 have hl:∀ d∈l0.take (min l0.length most),J8c d:=fun d hd=>h8 d (List.mem_of_mem_take hd)
 generalize l0.take (min l0.length most)=l at h0 hl
 refine wp_mono (Q':=fun r=>r.1=G94 l∧Yz s (G94 l) r.2∧r.2.length≤l.length) ?_ (fun r hr=>⟨hr.1,by rw [hr.1]; exact hr.2.1,by omega⟩)
 refine Rc (fun pre st=>st.1=G94 pre∧Yz s (G94 pre) st.2∧st.2.length≤pre.length) ⟨rfl,J7b,M8⟩ (fun pre y post st nx e hI h9=>?_) (fun st hI=>Gg hI)
 obtain⟨h1,h2,h3⟩:=hI
 obtain⟨⟨c1,c2⟩,⟨k1,k2⟩⟩:=hl y (by rw [e]; simp)
 have hp:pre.length < most:=by rw [e] at h0; simp only [Mf,Mb] at h0; omega
 have a3:=Qa4 pre
 have a4:st.1.length≤most:=by rw [h1]; omega
 refine G51 (fun j=>j.1=G94 (pre++[y])∧Yz s (G94 (pre++[y])) j.2∧j.2.length≤(pre++[y]).length) (fun K hK=>?_) (fun j hj=>h9 _ hj)
 refine Qy ⟨by omega,by omega⟩ (Qy ⟨by omega,by omega⟩ (Qy ⟨by omega,by omega⟩ (Qy ⟨by omega,by omega⟩ ?_)))
 refine G51 (fun j17=>j17=Hab (strip y)) (fun K' h6=>He (fun h=>h6 _ ?_) (fun h=>h6 _ ?_)) (fun j17 a0=>?_)
 ·unfold Hab strip; simp only [h,cond_true]
 ·unfold Hab strip; simp only [h,cond_false]
 subst a0
 have h7:st.1++[Box.mk (5*((pre.length+1:Nat):Int)) ByteArray.empty (Hab (strip y)).1 (Hab (strip y)).2 (1000+100*y.Kilos) 0 1 0 false]=G94 (pre++[y]):=by
  rw [Q2a,h1]; rfl
 rw [h7]
 refine G00 (G82 (by rw [Mg]; omega) (by omega)) ?_
 refine Gy (wp_mono (Y8d hs _) (fun r22 a5=>?_))
 have h5:Yz s (G94 (pre++[y])) st.2:=by rw [Q2a]; exact R7d h2
 refine Rc (fun _ s49=>s49=st.2) rfl (fun pre2 x post2 s49 nx2 e2 hJ h4=>?_) (fun s49 hJ=>hK _ ⟨rfl,by rw [hJ]; exact h5,by rw [hJ,Mf,Mg]; show st.2.length≤_; omega⟩)
 subst hJ
 simp only [List.nil_append]
 refine G00 (G82 (by simp only [List.length_nil]; omega) (by omega)) (G00 (G82 (by rw [Mg]; omega) (by omega)) (Qy ⟨by omega,by omega⟩ (Gy (H09 (by omega) ?_))))
 by_cases hc:x.G2=y.G2.tmod (s.Columns.length:Int)
 ·rw [M1 hc]
  simp only [cond_true,Bool.true_and]
  refine Gy (wp_mono (H0f hs.right hs.tier (by simp only [Mf,Mg]; omega)) (fun v hv=>He (fun h=>hK _ ⟨rfl,hv.1 h,?_⟩) (fun h=>h4 _ rfl)))
  simp only [Mf,Mg]; omega
 ·rw [M2 hc]
  simp only [cond_false,Bool.false_and]
  exact Gy (Gg (h4 _ rfl))

structure Jc8 (boxes:List Box):Prop where
 asc:boxes.Pairwise (fun a b=>a.ID < b.ID)
 size:∀ b∈boxes,b.Size=20∨b.Size=40
 ids:∀ b∈boxes,5≤b.ID∧b.ID≤40
 few:boxes.length≤8
theorem Y76 {l:List Gv} (hl:l.length≤8):Jc8 (G94 l):=by
 refine⟨List.pairwise_iff_getElem.2 fun i j hi hj h0=>?_,fun b hb=>?_,fun b hb=>?_,by rw [Qa4]; exact hl⟩
 ·simp only [G94,List.getElem_map,List.getElem_zipIdx,Yae]
  omega
 all_goals
  unfold G94 at hb
  obtain⟨⟨t,i⟩,hp,rfl⟩:=Mm.1 hb
  have hi:=(M3 (List.mk_mem_zipIdx_iff_getElem?.1 hp)).1
  rw [Mj] at hi
 ·show (Hab t).1=20∨(Hab t).1=40
  unfold Hab
  cases t.2.1 with
  | true=>exact .inl rfl
  | false=>exact .inr rfl
 ·show 5≤5*((i+1:Nat):Int)∧5*((i+1:Nat):Int)≤40
  omega
theorem R92:∀ {boxes:List Box},boxes.Pairwise (fun a b=>a.ID < b.ID)→∀ {b:Box},b∈boxes→Qj boxes b.ID=some b
 | c::r,h,b,hb=>by
  obtain⟨h1,h2⟩:=List.pairwise_cons.1 h
  unfold Qj
  rw [List.find?_cons]
  rcases Mo.1 hb with rfl | hb
  ·rw [M1 rfl]
  ·have:=h1 b hb
   rw [M2 (by omega)]
   exact R92 h2 hb
theorem Ye4 {boxes:List Box} {i:Int} {b:Box} (h:Qj boxes i=some b):b∈boxes:=List.mem_of_find?_eq_some h
theorem J29 {l:List Stowed} {f:Stowed→Option Bool} {p:Stowed→Bool} (h:∀ x∈l,f x=some (p x)):Hy l f=some (l.any p):=by
 have e:R1 l f=some (J54 p l):=H7d h
 unfold Hy
 exact G30 (Gs e (Gg (by show decide (0≤J54 p l)=_; rw [H2e])))
theorem J4c {α:Type} [DecidableEq α] {k:Nat} {s:List α} (h:s.length*k≤140737488355328∧s.length≤maxLen):(R83 s fun b4=>bif b4 then (some []) else (need (decide ((([]:List α).length+s.length)*k≤140737488355328∧([]:List α).length+s.length≤maxLen)) <| some (([]:List α)++s)))=some s:=by
 refine J3f (fun b hb=>?_)
 cases b with
 | true=>rw [hb rfl]; rfl
 | false=>
  rw [cond_false,M1 (show (([]:List α).length+s.length)*k≤140737488355328∧([]:List α).length+s.length≤maxLen by rw [List.length_nil,Nat.zero_add]; exact h)]
  rfl
theorem Y22 {n k:Nat} (hn:n≤1000000) (hk:k≤1000):n*k≤140737488355328∧n≤maxLen:=
 ⟨Nat.le_trans (Nat.mul_le_mul hn hk) (by decide),by simp only [maxLen]; omega⟩
theorem Yab {s:List Stowed} (h:s.length≤1000000):Qb s=some s:=J4c (Y22 (k:=32) h (by decide))
theorem Y73 {s:List G2} (h:s.length≤1000000):Qo s=some s:=J4c (Y22 (k:=112) h (by decide))
theorem Y72 {s:List G8} (h:s.length≤1000000):R9 s=some s:=J4c (Y22 (k:=32) h (by decide))
theorem R0d {s:List Int} (h:s.length≤1000000):Q4 s=some s:=J4c (Y22 (k:=8) h (by decide))
def Q7f (b:Box):Bool:=decide (b.Size=20)||decide (b.Size=40)
theorem R7a (boxes:List Box) (i:Int):G6a boxes i=some (match Qj boxes i with
  | some b=>(b,Q7f b)
  | none=>(Box.mk 0 ByteArray.empty 0 false 0 0 0 0 false,false)):=by
 unfold G6a
 rw [Hb7]
 cases Qj boxes i <;> rfl
theorem Reb {β:Type} {Q:β→Prop} {boxes:List Box} {state:List Stowed} {ashore pre post:List Int} {y:Int} (e:ashore=pre++y::post) (ha:pre.length≤1000000) {A:Option β} {B:Box→Option β}
  (hA:(∀ b,Qj boxes y=some b→¬ (b.Size=20∨b.Size=40))∨(∃ p∈pre,y≤p)∨y∈state.map (·.Box)→Wp A Q)
  (hB:∀ b,Qj boxes y=some b→(b.Size=20∨b.Size=40)→Wp (B b) Q) :
  Wp (bnd (G6a boxes y) fun r162=>
     bnd (bif ((!(!r162.2))&&(decide (0 < (pre.length:Int)))) then chk ((pre.length:Int) - 1) some else some 0) fun v165=>
     bnd (bif ((!(!r162.2))&&(decide (0 < (pre.length:Int)))) then Z3 ashore v165 some else some default) fun y166=>
     bnd (bif (!((!r162.2)||((decide (0 < (pre.length:Int)))&&(decide (y≤y166))))) then Hy state (fun z0=>G26 z0 y) else some default) fun r167=>
     bif (((!r162.2)||((decide (0 < (pre.length:Int)))&&(decide (y≤y166))))||r167) then A else B r162.1) Q:=by
 refine Gs (R7a boxes y) ?_
 cases hf:Qj boxes y with
 | none=>
  have hA:=hA (.inl fun b hb=>by rw [hf] at hb; cases hb)
  exact Gy (Gg (Gy (Gg (Gy (Gg hA)))))
 | some b=>
  simp only
  by_cases hz:b.Size=20∨b.Size=40
  ·have h0:Q7f b=true:=by unfold Q7f; simpa using hz
   rw [h0]
   simp only [Bool.not_true,Bool.not_false,Bool.true_and,Bool.false_or]
   have hc:=J29 (l:=state) (f:=fun z0=>G26 z0 y) (p:=fun x=>decide (x.Box=y)) (fun x _=>rfl)
   have h5:(state.any fun x=>decide (x.Box=y))=true→y∈state.map (·.Box):=fun h=>by
    obtain⟨x,hx,e⟩:=List.any_eq_true.1 h
    exact Mm.2 ⟨x,hx,Kz e⟩
   by_cases hp:0 < (pre.length:Int)
   ·obtain⟨p,h1,h2,h3⟩:=Q41 (l:=ashore) (y:=y) e (by omega)
    rw [M1 hp]
    simp only [cond_true,Bool.true_and]
    refine Gy (Qy (by omega) (Gg (Gy (Ya (show (pre.length:Int) - 1=((pre.length - 1:Nat):Int) by omega) h1 (Gg ?_)))))
    by_cases h4:y≤p
    ·rw [M1 h4]
     exact Gy (Gg (hA (.inr (.inl ⟨p,h3,h4⟩))))
    ·rw [M2 h4]
     refine Gs hc (He (fun h=>hA (.inr (.inr (h5 (by simpa using h))))) (fun _=>hB b hf hz))
   ·rw [M2 hp]
    refine Gy (Gg (Gy (Gg (Gs hc (He (fun h=>hA (.inr (.inr (h5 (by simpa using h))))) (fun _=>hB b hf hz))))))
  ·have h0:Q7f b=false:=by unfold Q7f; simpa using hz
   rw [h0]
   have hA:=hA (.inl fun d hd=>by rw [hf] at hd; cases hd; exact hz)
   exact Gy (Gg (Gy (Gg (Gy (Gg hA)))))
theorem R29 {β:Type} {Q:β→Prop} {s:Gk} (hr:∀ x∈s.Covers,x.Rows.length≤1000000) {K:List G8→Option β} (hK:Wp (K s.Covers) Q) :
  Wp (each (fun y41 i41 (s41:(List G8)) nx41=>
   Z3 s.Covers (i41:Int) fun y46=>
   bnd (Q4 y46.Rows) fun r48=>
   Z3 s41 (i41:Int) fun y49=>
   nx41 (s41.set (i41:Int).toNat (G8.mk y49.Bay r48))) K s.Covers 0 s.Covers) Q:=by
 refine Rc (fun _ t=>t=s.Covers) rfl (fun pre y post t nx e hI h0=>?_) (fun t ht=>by rw [ht]; exact hK)
 subst hI
 have hy:s.Covers[pre.length]? = some y:=by rw [e]; simp
 refine Ya rfl hy (Gs (R0d (hr y (M6 hy))) (Ya rfl hy (h0 _ ?_)))
 apply List.ext_getElem?
 intro q
 rw [show ((pre.length:Int)).toNat=pre.length by omega,List.getElem?_set]
 split
 ·rename_i h
  subst h
  have:=(M3 hy).1
  rw [if_pos this,hy]
 ·rfl
theorem Rea {s:Gk} {boxes:List Box} {l:List Stowed} {a:List Int} (hL:Qc1 s) (hr:Yz s boxes l) (hl:l.length≤10) (h5:a.length≤1000)
  (h2:∀ i∈a,∃ b,Qj boxes i=some b∧(b.Size=20∨b.Size=40)) (h0:a.Pairwise (· < ·)) (h3:∀ i∈a,i ∉ l.map (·.Box)) :
  Wp (Ge8 s boxes l a) (fun r=>r.2=0∧Gf8 s boxes r.1 ⟨l,[],a⟩∧r.1.lifts=0):=by
 have hs:=G27 hL
 have h6:=hL.covs.len
 have h7:=hL.len
 unfold Ge8
 refine Gy (wp_mono (H0f hs.right hs.tier (by omega)) (fun r4 h4=>He (fun h=>?_) (fun _=>?_)))
 ·rw [h4.2 hr] at h; cases h
 refine Gs (Y73 (by omega)) (Gs (Y72 (by omega)) (R29 (fun x hx=>by have:=hs.rows x hx; omega) ?_))
 refine Rc (fun pre (st:Gu Slot Box)=>∀ y b,(y,b)∈Gu.Hf st ↔ (⟨b.ID,y⟩:Stowed)∈pre∧Qj boxes b.ID=some b) (fun y b=>⟨fun h=>(Q4f h).elim,fun h=>by cases h.1⟩) (fun pre x post st nx e hI h1=>?_) (fun st hI=>?_)
 ·have hx:x∈l:=by rw [e]; simp
  obtain⟨d,hd,_⟩:=hr.each x hx
  refine Gs (R7a boxes x.Box) ?_
  rw [hd]
  refine h1 _ (fun y b=>?_)
  have hid:=G68 hd
  show (y,b)∈Gu.Hf (Gu.put st x.Slot d) ↔ _
  rw [Q4e,hI,Mk,Mn]
  constructor
  ·rintro(⟨rfl,rfl⟩ | ⟨g1,g2,g3⟩)
   ·exact⟨.inr (by rw [hid]),by rw [hid]; exact hd⟩
   ·exact⟨.inl g2,g3⟩
  ·rintro⟨g | g,g3⟩
   ·refine .inr ⟨fun h=>?_,g,g3⟩
    have ha:=hr.apart
    rw [e] at ha
    exact Gad ha _ g (by rw [show (⟨b.ID,y⟩:Stowed).Slot=x.Slot from h]; exact⟨rfl,rfl,.inl rfl⟩)
   ·have e1:b.ID=x.Box:=congrArg Stowed.Box g
    refine .inl ⟨congrArg Stowed.Slot g,?_⟩
    rw [e1,hd] at g3
    cases g3; rfl
 ·refine Rc (fun pre (qt:Gu Int Box)=>∀ i b,(i,b)∈Gu.Hf qt ↔ i∈pre∧Qj boxes i=some b) (fun i b=>⟨fun h=>(Q4f h).elim,fun h=>by cases h.1⟩) (fun pre y post qt nx e hJ h1=>?_) (fun qt hJ=>?_)
  ·have hy:y∈a:=by rw [e]; simp
   refine Reb e (by have:=congrArg List.length e; simp only [Mf] at this; omega) (fun h=>?_) (fun b hb _=>h1 _ (fun i d=>?_))
   ·rcases h with h | ⟨p,hp,h⟩ | h
    ·obtain⟨b,hb,hz⟩:=h2 y hy
     exact(h b hb hz).elim
    ·rw [e] at h0
     have:=Gad h0 p hp
     omega
    ·exact(h3 y hy h).elim
   ·show (i,d)∈Gu.Hf (Gu.put qt y b) ↔ _
    rw [Q4e,hJ,Mk,Mn]
    constructor
    ·rintro(⟨rfl,rfl⟩ | ⟨g1,g2,g3⟩)
     ·exact⟨.inr rfl,hb⟩
     ·exact⟨.inl g2,g3⟩
    ·rintro⟨g | g,g3⟩
     ·by_cases h:i=y
      ·subst h
       refine .inl ⟨rfl,?_⟩
       rw [hb] at g3
       cases g3; rfl
      ·exact .inr ⟨h,g,g3⟩
     ·subst g
      refine .inl ⟨rfl,?_⟩
      rw [hb] at g3
      cases g3; rfl
  ·exact Gg ⟨rfl,⟨rfl,rfl,hI,hJ,fun k v=>⟨fun h=>(Q4f h).elim,fun h=>by cases h.1⟩⟩,rfl⟩

theorem Y39:Yn=some true:=by kernel_rfl
def Q8a (l:List Stowed) (b:Box):Bool:=!(l.any fun x=>decide (x.Box=b.ID))
def Ja7 (l:List Stowed) (boxes:List Box):List Int:=(boxes.filter (Q8a l)).map (·.ID)
theorem J3e {l:List Stowed} {b:Box}:Q8a l b=true ↔ b.ID ∉ l.map (·.Box):=by
 unfold Q8a
 rw [Bool.not_eq_true',← Bool.not_eq_true,List.any_eq_true,Mm]
 exact not_congr ⟨fun⟨x,hx,e⟩=>⟨x,hx,Kz e⟩,fun⟨x,hx,e⟩=>⟨x,hx,M1 e⟩⟩
theorem Y90 {s:Gk} {boxes:List Box} {l:List Stowed} (hB:Jc8 boxes) (hr:Yz s boxes l):l.length+(Ja7 l boxes).length=boxes.length:=by
 have h1:=(List.filter_append_perm (Q8a l) boxes).length_eq
 have h0:(boxes.map (·.ID)).Nodup:=G36 (List.pairwise_map.2 hB.asc)
 have hp:(l.map (·.Box)).Perm ((boxes.filter (fun b=>!Q8a l b)).map (·.ID)):=by
  refine(List.perm_ext_iff_of_nodup (J20 hr.sorted) (h0.sublist (List.filter_sublist.map _))).2 fun i=>?_
  rw [Mm,Mm]
  constructor
  ·rintro⟨x,hx,rfl⟩
   obtain⟨b,hb,_⟩:=hr.each x hx
   refine⟨b,Mp.2 ⟨Ye4 hb,?_⟩,G68 hb⟩
   rw [Bool.not_eq_true',← Bool.not_eq_true,J3e,G68 hb]
   exact fun h=>h (Mm.2 ⟨x,hx,rfl⟩)
  ·rintro⟨b,hb,rfl⟩
   have h2:=(Mp.1 hb).2
   rw [Bool.not_eq_true',← Bool.not_eq_true,J3e,Classical.not_not] at h2
   exact Mm.1 h2
 have h2:=hp.length_eq
 rw [Mj,Mj] at h2
 unfold Ja7
 rw [Mj]
 rw [Mf] at h1
 omega
theorem R7f {l:List Stowed} {boxes:List Box} (hB:Jc8 boxes):(Ja7 l boxes).Pairwise (· < ·):=List.pairwise_map.2 (hB.asc.filter _)
theorem R84 {l:List Stowed} {boxes:List Box} {i:Int}:i∈Ja7 l boxes ↔ ∃ b∈boxes,b.ID=i∧i ∉ l.map (·.Box):=by
 unfold Ja7
 rw [Mm]
 constructor
 ·rintro⟨b,hb,rfl⟩
  exact⟨b,(Mp.1 hb).1,rfl,J3e.1 (Mp.1 hb).2⟩
 ·rintro⟨b,hb,rfl,h⟩
  exact⟨b,Mp.2 ⟨hb,J3e.2 h⟩,rfl⟩
theorem R00 (places:List H8) (covers:Int) (drops:List Gv) (hp:∀ p∈places,Hf4 p) (hd:∀ x∈drops,J8c x) :
  Wp (Qs places covers drops) (fun r=>Jc8 r.2.1∧∃ t:St,t.l=r.2.2.1∧t.o=[]∧Good r.1 r.2.1 t∧Gf8 r.1 r.2.1 r.2.2.2 t∧r.2.2.2.lifts=0):=by
 unfold Qs
 refine Gy (wp_mono (Y0c places covers hp) (fun s h8=>?_))
 have hL:=Y65 h8
 have hs:=G27 hL
 refine Gy (wp_mono (Ra0 hs hd (most:=8) (by decide)) (fun r5 h5=>?_))
 obtain⟨g1,g2,g3⟩:=h5
 have hB:Jc8 r5.1:=by rw [g1]; exact Y76 (by rw [List.length_take]; omega)
 refine Rc (fun pre st=>Yz s r5.1 st∧st.length≤pre.length) ⟨J7b,M8⟩ (fun pre y post st nx e hI h0=>?_) (fun l hI=>?_)
 ·obtain⟨h1,h2⟩:=hI
  have h9:pre.length < 8:=by have:=congrArg List.length e; simp only [Mf,Mb] at this; omega
  refine G51 (fun j=>Yz s r5.1 j∧j.length≤pre.length+1) (fun K hK=>?_) (fun j hj=>h0 _ ⟨hj.1,by rw [Mf,Mg]; exact hj.2⟩)
  refine Gs (Yab (by omega)) (G00 (G82 (by rw [Mg]; omega) (by omega)) (Gy (H09 (by decide) ?_)))
  by_cases hc:y.Box.tmod 10=0
  ·rw [M1 hc]
   refine Gy (wp_mono (H0f hs.right hs.tier (by simp only [Mf,Mg]; omega)) (fun v hv=>He (fun h=>hK _ ⟨hv.1 (by simpa using h),?_⟩) (fun h=>hK _ ⟨h1,by omega⟩)))
   simp only [Mf,Mg]; omega
  ·rw [M2 hc]
   exact Gy (Gg (hK _ ⟨h1,by omega⟩))
 ·obtain⟨h1,h2⟩:=hI
  have a1:l.length≤8:=by omega
  have a0:=hB.few
  refine Rc (fun pre (a:List Int)=>a=(pre.filter (Q8a l)).map (·.ID)) rfl (fun pre y post a nx e hI h0=>?_) (fun a hI=>?_)
  ·have h9:pre.length < 8:=by have:=congrArg List.length e; simp only [Mf,Mb] at this; omega
   have a2:a.length≤pre.length:=by rw [hI,Mj]; exact Kw _ _
   refine G51 (fun j=>j=((pre++[y]).filter (Q8a l)).map (·.ID)) (fun K hK=>?_) (fun j hj=>h0 _ hj)
   refine Gs (J29 (p:=fun x=>decide (x.Box=y.ID)) (fun x _=>rfl)) (He (fun h=>?_) (fun h=>hK _ ?_))
   ·refine G00 (G82 (by rw [Mg]; omega) (by omega)) (hK _ ?_)
    rw [hI,List.filter_append,List.map_append,List.filter_cons_of_pos (by exact h)]
    rfl
   ·rw [hI,List.filter_append,List.map_append,List.filter_cons_of_neg (by rw [Bool.not_eq_true]; exact h)]
    simp
  ·have ha:a=Ja7 l r5.1:=hI
   subst ha
   have h7:=Y90 hB h1
   have h3:∀ i∈Ja7 l r5.1,∃ b,Qj r5.1 i=some b∧(b.Size=20∨b.Size=40):=fun i hi=>by
    obtain⟨b,hb,rfl,_⟩:=R84.1 hi
    exact⟨b,R92 hB.asc hb,hB.size b hb⟩
   have h4:∀ i∈Ja7 l r5.1,i ∉ l.map (·.Box):=fun i hi=>by
    obtain⟨_,_,_,h⟩:=R84.1 hi
    exact h
   refine Gy (wp_mono (Rea hL h1 (by omega) (by omega) h3 (R7f hB) h4) (fun r70 h6=>Gg ⟨hB,⟨l,[],Ja7 l r5.1⟩,rfl,rfl,?_,h6.2.1,h6.2.2⟩))
   exact⟨hL,h1,Qfa,fun k hk=>(by cases hk),h3,R7f hB,h4,h7,hB.few⟩

theorem J79 (l:List Stowed):Q3 l l=some true:=by
 refine G30 ?_
 unfold Q3
 refine He (fun h=>((Kz h) rfl).elim) (fun _=>?_)
 refine Rc (fun _ _=>True) trivial (fun pre y post u nx e _ h0=>?_) (fun u _=>Gg rfl)
 refine Ya (x:=y) rfl (by rw [e]; simp) (He (fun h=>?_) (fun _=>h0 _ trivial))
 rw [M1 (rfl:y=y)] at h
 cases h
structure J85 (x:Hd):Prop where
 kind:Byte x.Kind
 box:Byte x.Box
 column:Byte x.G2
 tier:Byte x.Tier
 half:Byte x.Half
 cover:Byte x.G8
structure J87 (s:Gk) (x:Move):Prop where
 kind:0≤x.Kind∧x.Kind≤4
 lift:x.Kind=2∨x.Kind=3→x.G8=0
 cover:x.Kind=1∨x.Kind=4→x.Box=0∧x.Slot=⟨0,0,0⟩∧0≤x.G8∧x.G8≤(s.Covers.length:Int)
theorem Q3d {z n:Int} (hz:0≤z) (hn:0 < n):0≤z.tmod n∧z.tmod n < n:=by
 rw [Int.tmod_eq_emod_of_nonneg hz]
 exact⟨Int.emod_nonneg _ (by omega),Int.emod_lt_of_pos _ hn⟩
theorem Qfd {s:Gk} {boxes:List Box} {m:Gb} {t:St} (hG:Good s boxes t) (hR:Gf8 s boxes m t) {y:Hd} (hy:J85 y):Wp (Yt y s boxes m) (J87 s):=by
 obtain⟨⟨k1,k2⟩,⟨b1,b2⟩,⟨c1,c2⟩,⟨t1,t2⟩,⟨h1,h2⟩,⟨o1,o2⟩⟩:=hy
 have h9:=hG.ship.covs.len
 have h8:=hG.ship.some
 have h6:=G27 hG.ship
 unfold Yt
 refine Gy (H09 (by decide) ?_)
 have hv:=Q3d (n:=5) k1 (by decide)
 generalize y.Kind.tmod 5=v3 at hv
 refine G51 (fun j=>J87 s (Move.mk v3 j.1 (Slot.mk j.2.1 j.2.2.1 j.2.2.2.1) j.2.2.2.2)) (fun K hK=>?_) (fun j hj=>Gg hj)
 refine G51 (fun j=>j=true ↔ (v3=1∨v3=4)) (fun K' h5=>He (fun h=>h5 _ ?_) (fun h=>h5 _ ?_)) (fun j hj=>?_)
 ·rw [h]; exact⟨fun _=>.inl (Kz h),fun _=>rfl⟩
 ·rw [Mi]
  exact⟨.inr,fun g=>g.resolve_left (M0 h)⟩
 refine He (fun h=>?_) (fun h=>?_)
 ·have hm:=Q3d (z:=y.G8) (n:=(s.Covers.length:Int)+1) o1 (by omega)
  refine Qy (by omega) (Qy (by omega) (Gy (H09 (by omega) (hK _ ⟨by show 0≤v3∧v3≤4; omega,fun g=>?_,fun _=>⟨rfl,rfl,hm.1,?_⟩⟩))))
  ·have g:v3=2∨v3=3:=g
   have:=hj.1 h
   omega
  ·show y.G8.tmod ((s.Covers.length:Int)+1)≤_
   omega
 have hn:¬ (v3=1∨v3=4):=fun g=>by rw [hj.2 g] at h; cases h
 have ok:∀ (a b c d:Int),J87 s (Move.mk v3 a (Slot.mk b c d) 0):=fun a b c d=>⟨by show 0≤v3∧v3≤4; omega,fun _=>rfl,fun g=>(hn g).elim⟩
 refine He (fun h7=>?_) (fun h7=>He (fun h3=>?_) (fun h3=>hK _ (ok _ _ _ _)))
 ·refine G51 (fun j=>0≤j.2.2.1∧j.2.2.1≤1000000) (fun K2 h0=>?_) (fun j a0=>Gy (H09 (by decide) (He (fun _=>Qy (by omega) (hK _ (ok _ _ _ _))) (fun _=>hK _ (ok _ _ _ _)))))
  refine Gs (Hb8 hG hR) (He (fun hl=>?_) (fun _=>h0 _ ⟨Int.le_refl _,by show (0:Int)≤1000000; decide⟩))
  have hl:=Kz hl
  have hm:=Q3d (z:=y.Box) (n:=(t.l.length:Int)) b1 hl
  obtain⟨q,hq⟩:∃ q:Nat,y.Box.tmod (t.l.length:Int)=(q:Int):=⟨_,(Int.toNat_of_nonneg hm.1).symm⟩
  have h4:q < t.l.length:=by omega
  refine Qy (by omega) (Gy (H09 (by omega) (Ya hq (M4 h4) (h0 _ ?_))))
  obtain⟨b,_,hs,_⟩:=hG.right.each t.l[q] (List.getElem_mem h4)
  obtain⟨i,c,_,hc,ht⟩:=hs.col
  have:=h6.tiers c (M6 hc)
  have:=hs.tier
  show 0≤t.l[q].Slot.Tier∧t.l[q].Slot.Tier≤1000000
  omega
 ·refine G51 (fun j=>True) (fun K2 h0=>?_) (fun j _=>?_)
  ·refine Gs (Hc1 hG hR) (He (fun hl=>?_) (fun _=>h0 _ trivial))
   have hl:=Kz hl
   have hm:=Q3d (z:=y.Box) (n:=(t.a.length:Int)) b1 hl
   obtain⟨q,hq⟩:∃ q:Nat,y.Box.tmod (t.a.length:Int)=(q:Int):=⟨_,(Int.toNat_of_nonneg hm.1).symm⟩
   have h4:q < t.a.length:=by omega
   exact Qy (by omega) (Gy (H09 (by omega) (Ya hq (M4 h4) (h0 _ trivial))))
  ·refine Qy (by omega) (Gy (H09 (by omega) (Qy (by omega) (Gy (H09 (by decide) (Gs (Hb7 boxes j) (He (fun _=>?_) (fun _=>hK _ (ok _ _ _ _)))))))))
   exact Gy (H09 (by decide) (hK _ (ok _ _ _ _)))
theorem Jb0 (x:Move):0≤G83 x∧G83 x≤1:=by unfold G83; split <;> omega

theorem Z1e (l:List Stowed) (v:Stowed):R5 l v=some (decide (v∈l)):=by
 have e:G06 l v=some (J54 (fun y:Stowed=>decide (v=y)) l):=H7d (f:=fun y=>some (decide (v=y))) (fun x _=>rfl)
 unfold R5
 refine G30 (Gs e (Gg ?_))
 rw [H2e,Bool.eq_iff_iff,List.any_eq_true,Mi]
 exact⟨fun⟨y,hy,e⟩=>Kz e ▸ hy,fun h=>⟨v,h,M1 rfl⟩⟩
theorem Q98 (l:List Int) (v:Int):J3 l v=some (decide (v∈l)):=by
 rw [H55]
 refine congrArg some ?_
 rw [Bool.eq_iff_iff,Mi]
 exact H56
theorem Y0a {F:Nat} {s:Gk} {boxes:List Box} {l:List Stowed} {o:List Int} (h:Sta s boxes l) (hO:Gf9 s o) (hF:20≤F) {k:Nat} (hk:k < s.Covers.length) :
  Wp (G1e F s boxes l o (k:Int)) (fun r=>(k:Int)∈o→r=(Hc0 (k:Int) o,0)):=by
 have hs:=G27 h.ship
 have h8:=h.ship.covs.len
 have h9:=hO.len
 unfold G1e
 refine Gs (h.checked hO) (He (fun h=>by cases h) (fun _=>He (fun h=>?_) (fun _=>?_)))
 ·simp only [Mq,Mi] at h; omega
 refine Gy (wp_mono (Q1a hO.sorted (by omega) (by omega)) (fun r hr=>?_))
 obtain⟨n,h1,h2,h3,h4,h5⟩:=hr
 refine He (fun hf=>?_) (fun hf=>?_)
 ·have hn:¬ o[n]? = some (k:Int):=fun e=>by rw [h5.2 e] at hf; cases hf
  refine Gs (R0d (by omega)) (Gg fun ha=>?_)
  obtain⟨j,hj,e3⟩:=List.mem_iff_getElem.1 ha
  have hp:=List.pairwise_iff_getElem.1 hO.sorted
  rcases Nat.lt_trichotomy j n with g | g | g
  ·have:=h3 o[j] (List.mem_iff_getElem.2 ⟨j,by rw [List.length_take]; omega,by rw [List.getElem_take]⟩)
   rw [e3] at this
   omega
  ·subst g
   exact(hn (by rw [M4 hj,e3])).elim
  ·have h6:n < o.length:=by omega
   have g1:=hp n j h6 hj g
   have g2:=h4 o[n] (List.mem_iff_getElem.2 ⟨0,by rw [List.length_drop]; omega,by rw [List.getElem_drop]; simp⟩)
   omega
 ·have hf:o[n]? = some (k:Int):=h5.1 (by simpa using hf)
  have h7:=(M3 hf).1
  have hg:=(M3 hf).2
  have e:Zy o r.1=some (o.eraseIdx n):=by
   unfold Zy
   rw [h1,M1 (show (0:Int)≤(n:Int) by omega),M1 (show (n:Int) < (o.length:Int) by omega),M1 (show o.length≤100000 by omega),show ((n:Int)).toNat=n by omega]
   rfl
  refine Gs e (Gg fun _=>?_)
  have h0:=hO.sorted
  have ho:o=o.take n++(k:Int)::o.drop (n+1):=by
   have:=List.take_append_drop n o
   rw [List.drop_eq_getElem_cons h7,hg] at this
   exact this.symm
  rw [ho] at h0
  obtain⟨s1,s2,s3⟩:=List.pairwise_append.1 h0
  have e2:Hc0 (k:Int) o=o.eraseIdx n:=by
   rw [List.eraseIdx_eq_take_drop_succ]
   unfold Hc0
   conv=>lhs; rw [ho]
   rw [List.filter_append,List.filter_cons_of_neg (by simp)]
   congr 1
   ·refine List.filter_eq_self.2 fun z hz=>M1 ?_
    have:=s3 z hz (k:Int) (List.mem_cons_self ..)
    omega
   ·refine List.filter_eq_self.2 fun z hz=>M1 ?_
    have:=(List.pairwise_cons.1 s2).1 z hz
    omega
  rw [e2]
theorem Y95 {F:Nat} {s:Gk} {boxes:List Box} {l:List Stowed} {o:List Int} (h:Sta s boxes l) (hO:Gf9 s o):G3f F s boxes l o (s.Covers.length:Int)=some ([],6):=by
 refine G30 ?_
 unfold G3f
 refine Gs (h.checked hO) (He (fun h=>by cases h) (fun _=>He (fun h=>Gg rfl) (fun h=>?_)))
 simp at h
theorem Y71 {F:Nat} {s:Gk} {boxes:List Box} {l:List Stowed} {o:List Int} (h:Sta s boxes l) (hO:Gf9 s o):G1e F s boxes l o (s.Covers.length:Int)=some ([],6):=by
 refine G30 ?_
 unfold G1e
 refine Gs (h.checked hO) (He (fun h=>by cases h) (fun _=>He (fun h=>Gg rfl) (fun h=>?_)))
 simp at h
theorem Y03 {s:Gk} {boxes:List Box} {t:St} (h:Good s boxes t):Yo s boxes t.l=some true:=by
 have hs:=G27 h.ship
 have:=h.sta.len
 exact G30 (wp_mono (H0f hs.right hs.tier (by omega)) (fun r hr=>hr.2 h.right))
theorem Rfc {l:List Stowed} (hl:l.length≤1000):Za l []=some (l.map (·.Box)):=by
 refine G30 ?_
 unfold Za
 refine Rc (fun pre r=>r=pre.map (·.Box)) rfl (fun pre y post r nx e hI h0=>?_) (fun r hI=>Gg hI)
 subst hI
 have hp:pre.length+1≤l.length:=by rw [e]; simp
 refine G51 (fun j=>j=(pre++[y]).map (·.Box)) (fun K hK=>?_) (fun j hj=>h0 _ hj)
 refine Gs (J29 (l:=[]) (p:=fun _=>false) (fun x hx=>by cases hx)) (He (fun _=>?_) (fun h=>by cases h))
 exact G00 (G82 (by simp only [Mj,Mg]; omega) (by omega)) (hK _ (by simp))
section
variable {s:Gk} {boxes:List Box} {m:Gb} {t:St} {x:Move}
theorem Jdc (hG:Good s boxes t) (hR:Gf8 s boxes m t):Ys s boxes m=some true:=by
 have h3:=hG.num
 have h4:=hG.few
 refine G30 ?_
 unfold Ys
 refine Gs (Hb8 hG hR) (Gs (Y03 hG) (Gs (Hc1 hG hR) (Gy (Qy (by omega) (Gg ?_)))))
 rw [M2 (show ¬ ((t.l.length:Int)+(t.a.length:Int)≠(boxes.length:Int)) by omega)]
 refine Gs (Rfc (by omega)) (He (fun h=>?_) (fun _=>?_))
 ·simp at h
 refine Rc (fun _ _=>True) trivial (fun pre y post u nx e _ h0=>?_) (fun _ _=>Gg rfl)
 have hy:y∈t.l:=by rw [e]; simp
 have h2:y.Box ∉ t.a:=fun h=>hG.disj _ h (Mm.2 ⟨y,hy,rfl⟩)
 obtain⟨i,c,hi,hc⟩:=hG.sta.colIn hy
 refine Gs (Hc1 hG hR) (Gs (Q98 _ _) ?_)
 rw [M2 h2,hi]
 refine Gy (Ya rfl hc (Gg ?_))
 cases hd:c.Deck with
 | false=>exact Gy (Gg (Gy (Gg (Gy (Gg (He (fun h=>by cases h) (fun _=>h0 _ trivial)))))))
 | true=>
  have h1:=G27 hG.ship
  refine Gs (Jaa hG hR) (Gs (H53 hc (fun x hx=>by have:=h1.rows x hx; omega) (by have:=h1.covs; omega)) (Gs (Q98 _ _) ?_))
  rw [M2 (show R4 s c ∉ t.o from fun h=>hG.free _ h y hy i c hi hc hd rfl)]
  exact He (fun h=>by cases h) (fun _=>h0 _ trivial)
end

section
variable {s:Gk} {boxes:List Box} {m:Gb} {t:St} {x:Move}
theorem Yeb (hk:x.Kind=1):Can s boxes t x ↔ J50 s t x:=by
 constructor
 ·rintro(h | h | h | h)
  ·exact h.2
  all_goals exact absurd h.1 (by omega)
 ·exact fun h=>.inl ⟨hk,h⟩
theorem can4 (hk:x.Kind=4):Can s boxes t x ↔ J4f s t x:=by
 constructor
 ·rintro(h | h | h | h)
  ·exact absurd h.1 (by omega)
  ·exact h.2
  all_goals exact absurd h.1 (by omega)
 ·exact fun h=>.inr (.inl ⟨hk,h⟩)
theorem Z25 (hk:x.Kind=2):Can s boxes t x ↔ Jf6 s t x:=by
 constructor
 ·rintro(h | h | h | h)
  ·exact absurd h.1 (by omega)
  ·exact absurd h.1 (by omega)
  ·exact h.2
  ·exact absurd h.1 (by omega)
 ·exact fun h=>.inr (.inr (.inl ⟨hk,h⟩))
theorem Z24 (hk:x.Kind=3):Can s boxes t x ↔ Qca s boxes t x:=by
 constructor
 ·rintro(h | h | h | h)
  ·exact absurd h.1 (by omega)
  ·exact absurd h.1 (by omega)
  ·exact absurd h.1 (by omega)
  ·exact h.2
 ·exact fun h=>.inr (.inr (.inr ⟨hk,h⟩))
def Says (s:Gk) (boxes:List Box) (t:St) (x:Move) (j:List Stowed×List Int×Int):Prop:=
 (Can s boxes t x→j=((nxt t x).l,(nxt t x).o,0))∧(¬ Can s boxes t x→j.2.2≠0)
theorem Y58 (hG:Good s boxes t) (hx:J87 s x) (hk:x.Kind=2) (h2:(⟨x.Box,x.Slot⟩:Stowed)∈t.l):Wp (G98 s boxes t.l t.o x.Box) (fun r=>Says s boxes t x (r.1,t.o,r.2)):=by
 have hS:=hG.sta
 obtain⟨v,hv,hc⟩:=free_spec hS hG.opn h2
 refine wp_mono (Y52 hS h2 hv) (fun r hr=>⟨fun h=>?_,fun h h0=>h ((Z25 hk).2 ⟨hx.lift (.inl hk),h2,?_⟩)⟩)
 ·have h:=(Z25 hk).1 h
  have h1:v=0:=by
   rcases hc with ⟨_,g⟩ | ⟨_,_,g⟩ | ⟨g,_⟩
   ·exact(g h.2.2.1).elim
   ·exact(h.2.2.2 g).elim
   ·exact g
  obtain⟨pre,post,e1,e2⟩:=hr.2 h1
  have h3:=hG.right.sorted
  have hd:H43 x.Box t.l=pre++post:=by rw [e1] at h3 ⊢; exact J4b h3
  rw [Y99 hk]
  show (r.1,t.o,r.2)=(H43 x.Box t.l,t.o,(0:Int))
  rw [hd,e2,hr.1,h1]
 ·have h0:r.2=0:=h0
  rcases hc with ⟨g,_⟩ | ⟨g,_⟩ | ⟨_,g⟩
  ·exfalso; have:=hr.1; omega
  ·exfalso; have:=hr.1; omega
  ·exact g
theorem Y8f {F:Nat} (hF:20≤F) (hG:Good s boxes t) (hx:J87 s x) (hk:x.Kind=3) (h2:x.Box∈t.a):Wp (G99 F s boxes t.l t.o ⟨x.Box,x.Slot⟩) (fun r=>Says s boxes t x (r.1,t.o,r.2)):=by
 obtain⟨b,hb,hz⟩:=hG.box _ h2
 have h1:x.Box ∉ t.l.map (·.Box):=hG.disj _ h2
 have h4:=hG.right.sorted
 have bad:∀ (e:Int) {r:List Stowed×Int},e≠0→¬ Qca s boxes t x→r=([],e)→Says s boxes t x (r.1,t.o,r.2):=fun e r h0 hn hr=>by
  subst hr
  exact⟨fun h=>(hn ((Z24 hk).1 h)).elim,fun _=>h0⟩
 refine wp_mono (R81 hG.sta hG.opn hF (x:=⟨x.Box,x.Slot⟩) hb hz h1) (fun r hr=>?_)
 rcases hr with ⟨g,e⟩ | ⟨g1,⟨g,e⟩ | ⟨g2,⟨g,e⟩ | ⟨g3,⟨g,e⟩ | ⟨g4,q,h3,⟨g,e⟩ | ⟨g5,e⟩⟩⟩⟩⟩
 ·exact bad 97 (by decide) (fun⟨_,_,d,d1,d2,_⟩=>g (by rw [hb] at d1; cases d1; exact d2)) e
 ·exact bad 91 (by decide) (fun⟨_,_,d,d1,d2,d3,_⟩=>d3 g) e
 ·exact bad 92 (by decide) (fun⟨_,_,d,d1,d2,d3,d4,_⟩=>d4 g) e
 ·exact bad 93 (by decide) (fun⟨_,_,d,d1,d2,d3,d4,d5,_⟩=>g d5) e
 ·have hq:=R8d h4 h1 h3
  subst hq
  exact bad 94 (by decide) (fun⟨_,_,d,d1,d2,d3,d4,d5,d6⟩=>g d6) e
 ·have hq:=R8d h4 h1 h3
  subst hq
  have hc:Can s boxes t x:=(Z24 hk).2 ⟨hx.lift (.inr hk),h2,b,hb,g1,g2,g3,g4,g5⟩
  subst e
  exact⟨fun _=>by rw [Y98 hk],fun h=>(h hc).elim⟩
theorem Y5a {F:Nat} (hF:20≤F) (hG:Good s boxes t) (hx:J87 s x) (hk:x.Kind=1):Wp (G3f F s boxes t.l t.o x.G8) (fun r=>(x.G8 ∉ t.o→Says s boxes t x (t.l,r.1,r.2))∧(x.G8∈t.o→Says s boxes t x (t.l,r.1,4))):=by
 obtain⟨e1,e2,e3,e4⟩:=hx.cover (.inl hk)
 have h0:∀ l':List Int,x.G8∈t.o→Says s boxes t x (t.l,l',4):=fun l' h=>⟨fun g=>(((Yeb hk).1 g).2.2.2.2.1 h).elim,fun _=>by show (4:Int)≠0; decide⟩
 by_cases h1:x.G8 < (s.Covers.length:Int)
 ·obtain⟨k,h3⟩:∃ k:Nat,x.G8=(k:Int):=⟨_,(Int.toNat_of_nonneg e3).symm⟩
  have h4:k < s.Covers.length:=by omega
  have h2:=Y61 (F:=F) hG.sta hG.opn hF h4
  rw [← h3] at h2
  refine wp_mono h2 (fun r hr=>⟨fun h5=>?_,h0 _⟩)
  rcases hr with ⟨g,e⟩ | ⟨g1,g2,g3,g4⟩
  ·subst e
   exact⟨fun h=>(g ((Yeb hk).1 h).2.2.2.2.2).elim,fun _=>by show (95:Int)≠0; decide⟩
  ·have hc:Can s boxes t x:=(Yeb hk).2 ⟨e1,e2,e3,h1,h5,g1⟩
   refine⟨fun _=>?_,fun h=>(h hc).elim⟩
   rw [Y9a hk,g2,H54 g3.sorted (Hbe (k:=x.G8) hG.opn.sorted) (fun i=>by rw [g4,G71]; exact Or.comm)]
 ·have he:x.G8=(s.Covers.length:Int):=by omega
  rw [he]
  refine⟨_,Y95 hG.sta hG.opn,fun _=>⟨fun h=>?_,fun _=>by show (6:Int)≠0; decide⟩,fun h=>h0 _ (by rw [he]; exact h)⟩
  exact absurd ((Yeb hk).1 h).2.2.2.1 h1
theorem Y59 {F:Nat} (hF:20≤F) (hG:Good s boxes t) (hx:J87 s x) (hk:x.Kind=4):Wp (G1e F s boxes t.l t.o x.G8) (fun r=>(x.G8∈t.o→Says s boxes t x (t.l,r.1,r.2))∧(x.G8 ∉ t.o→Says s boxes t x (t.l,r.1,4))):=by
 obtain⟨e1,e2,e3,e4⟩:=hx.cover (.inr hk)
 have h0:∀ l':List Int,x.G8 ∉ t.o→Says s boxes t x (t.l,l',4):=fun l' h=>⟨fun g=>(h ((can4 hk).1 g).2.2.2.2).elim,fun _=>by show (4:Int)≠0; decide⟩
 by_cases h3:x.G8 < (s.Covers.length:Int)
 ·obtain⟨k,h4⟩:∃ k:Nat,x.G8=(k:Int):=⟨_,(Int.toNat_of_nonneg e3).symm⟩
  have h5:k < s.Covers.length:=by omega
  have h1:=Y0a (F:=F) hG.sta hG.opn hF h5
  rw [← h4] at h1
  refine wp_mono h1 (fun r hr=>⟨fun h2=>?_,h0 _⟩)
  have hc:Can s boxes t x:=(can4 hk).2 ⟨e1,e2,e3,h3,h2⟩
  refine⟨fun _=>?_,fun h=>(h hc).elim⟩
  rw [Y97 hk,hr h2]
 ·have he:x.G8=(s.Covers.length:Int):=by omega
  rw [he]
  refine⟨_,Y71 hG.sta hG.opn,fun h=>?_,fun h=>h0 _ (by rw [he]; exact h)⟩
  have:=(hG.opn.mem _ h).2
  omega
end
theorem R8a {F:Nat} (hF:40≤F) (places:List H8) (covers:Int) (drops:List Gv) (steps:List Hd) (hp:∀ p∈places,Hf4 p) (hd:∀ x∈drops,J8c x) (h9:∀ x∈steps,J85 x) :
  Z0 F places covers drops steps=some true:=by
 refine G30 ?_
 unfold Z0
 refine Gs Y39 (He (fun h=>by cases h) (fun _=>?_))
 refine Gy (wp_mono (R00 places covers drops hp hd) (fun r7 h7=>?_))
 obtain⟨hB,t0,a9,b0,h4,h5,a0⟩:=h7
 refine Gs (Jdc h4 h5) (He (fun h=>by cases h) (fun _=>?_))
 refine Gy (H67 (m:=min steps.length 30) (by omega) (by omega) ?_)
 have h8:(steps.take (min steps.length 30)).length≤30:=by rw [List.length_take]; omega
 have h3:∀ x∈steps.take (min steps.length 30),J85 x:=fun x hx=>h9 x (List.mem_of_mem_take hx)
 generalize steps.take (min steps.length 30)=st at h8 h3
 refine Rc (fun pre m=>∃ t,Good r7.1 r7.2.1 t∧Gf8 r7.1 r7.2.1 m t∧0≤m.lifts∧m.lifts≤pre.length) ⟨t0,h4,h5,by omega,by rw [a0]; simp⟩ (fun pre y post m nx e hI h6=>?_) (fun m hI=>Gg rfl)
 obtain⟨t,hG,hR,b1,b2⟩:=hI
 have b3:pre.length < 30:=by have:=congrArg List.length e; simp only [Mf,Mb] at this; omega
 refine Gs (Hb8 hG hR) (Gs (Jaa hG hR) (Gs (Hc1 hG hR) (Gs (show Rz m=some m.lifts from rfl) ?_)))
 refine Gy (wp_mono (Qfd hG hR (h3 y (by rw [e]; simp))) (fun x hx=>?_))
 refine Gy (wp_mono (R3a hG hR (by omega) x) (fun r hr=>?_))
 -- what layer 9 says
 have block:∀ (K:List Stowed×List Int×Int→Option Bool) (Q:Bool→Prop),(∀ j,Says r7.1 r7.2.1 t x j→Wp (K j) Q)→Wp (
   bif decide (x.Kind=2) then
    (bnd (R5 t.l (Stowed.mk x.Box x.Slot)) fun r392=>
     bif r392 then
     (bnd (G98 r7.1 r7.2.1 t.l t.o x.Box) fun r393=>
      K (r393.1,t.o,r393.2))
     else
     (K (t.l,t.o,6)))
    else
    (bif decide (x.Kind=3) then
     (bnd (J3 t.a x.Box) fun r396=>
      bif r396 then
      (bnd (G99 F r7.1 r7.2.1 t.l t.o (Stowed.mk x.Box x.Slot)) fun r397=>
       K (r397.1,t.o,r397.2))
      else
      (K (t.l,t.o,6)))
     else
     (bif decide (x.Kind=1) then
      (bnd (G3f F r7.1 r7.2.1 t.l t.o x.G8) fun r400=>
       bnd (J3 t.o x.G8) fun r402=>
       bif r402 then
       (K (t.l,r400.1,4))
       else
       (K (t.l,r400.1,r400.2)))
      else
      (bif decide (x.Kind=4) then
       (bnd (G1e F r7.1 r7.2.1 t.l t.o x.G8) fun r405=>
        bnd (J3 t.o x.G8) fun r407=>
        bif (!r407) then
        (K (t.l,r405.1,4))
        else
        (K (t.l,r405.1,r405.2)))
       else
       (K (t.l,t.o,2)))))) Q:=fun K Q hK=>by
  refine He (fun h=>?_) (fun a5=>He (fun h=>?_) (fun a6=>He (fun h=>?_) (fun a7=>He (fun h=>?_) (fun a8=>?_))))
  ·have hk:=Kz h
   refine Gs (Z1e _ _) (He (fun h=>?_) (fun h=>hK _ ⟨fun g=>?_,fun _=>by show (6:Int)≠0; decide⟩))
   ·exact Gy (wp_mono (Y58 hG hx hk (Kz h)) (fun r hr=>hK _ hr))
   ·exact(M0 h ((Z25 hk).1 g).2.1).elim
  ·have hk:=Kz h
   refine Gs (Q98 _ _) (He (fun h=>?_) (fun h=>hK _ ⟨fun g=>?_,fun _=>by show (6:Int)≠0; decide⟩))
   ·exact Gy (wp_mono (Y8f (by omega) hG hx hk (Kz h)) (fun r hr=>hK _ hr))
   ·exact(M0 h ((Z24 hk).1 g).2.1).elim
  ·have hk:=Kz h
   refine Gy (wp_mono (Y5a (by omega) hG hx hk) (fun r hr=>Gs (Q98 _ _) (He (fun h=>hK _ (hr.2 (Kz h))) (fun h=>hK _ (hr.1 (M0 h))))))
  ·have hk:=Kz h
   refine Gy (wp_mono (Y59 (by omega) hG hx hk) (fun r hr=>Gs (Q98 _ _) (He (fun h=>hK _ (hr.2 ?_)) (fun h=>hK _ (hr.1 ?_)))))
   ·exact M0 (by simpa using h)
   ·exact Kz (by simpa using h)
  ·refine hK _ ⟨fun g=>?_,fun _=>by show (2:Int)≠0; decide⟩
   have a1:=M0 a7
   have a2:=M0 a5
   have a3:=M0 a6
   have a4:=M0 a8
   rcases g with g | g | g | g
   ·exact(a1 g.1).elim
   ·exact(a4 g.1).elim
   ·exact(a2 g.1).elim
   ·exact(a3 g.1).elim
 have b4:=Jb0 x
 rcases hr with ⟨hc,h0,h1,b5⟩ | ⟨hc,h0,he⟩
 ·have h2:=hc.step hG
  refine Gs (Jdc h2 h1) (He (fun h=>by cases h) (fun _=>?_))
  rw [M2 (show ¬ r.1≠0 by omega),M1 h0]
  refine Gy (Gg (Gy (Gg (Gy (Gg (Gy (Gg (Gy (Gg (Gy (Gg (Gy (Gg (He (fun h=>by cases h) (fun _=>?_)))))))))))))))
  refine G51 (fun j=>j=((nxt t x).l,(nxt t x).o,0)) (fun K hK=>block K _ (fun j hj=>hK j (hj.1 hc))) (fun j hj=>?_)
  subst hj
  refine Gs (Hb8 h2 h1) (Gs (J79 _) (Gs (Jaa h2 h1) (Gs (Jdb _) (He (fun h=>by cases h) (fun _=>h6 _ ⟨nxt t x,h2,h1,by omega,?_⟩)))))
  rw [Mf,Mg]; omega
 ·have h1:Gf8 r7.1 r7.2.1 r.2 t:=by rw [he]; exact hR
  refine Gs (Jdc hG h1) (He (fun h=>by cases h) (fun _=>?_))
  rw [M1 h0,M2 h0]
  refine Gs (Hb8 hG h1) (Gs (J79 _) (Gs (Jaa hG h1) (Gs (Jdb _) (Gs (Hc1 hG h1) (Gs (Jdb _) (Gs (show Rz r.2=some m.lifts by rw [he]; rfl) ?_))))))
  refine He (fun h=>?_) (fun _=>?_)
  ·simp at h
  refine G51 (fun j=>j.2.2≠0) (fun K hK=>block K _ (fun j hj=>hK j (hj.2 hc))) (fun j hj=>?_)
  rw [M2 hj]
  refine Gy (Gg (Gy (Gg (Gy (Gg (Gy (Gg (He (fun h=>by cases h) (fun _=>h6 _ ⟨t,hG,h1,by rw [he]; omega,?_⟩)))))))))
  rw [he,Mf,Mg]; omega
theorem Rff (places:List H8) (covers:Int) (drops:List Gv) (steps:List Hd) (hp:∀ p∈places,Hf4 p) (hd:∀ x∈drops,J8c x) (h0:∀ x∈steps,J85 x) :
  Z0 60 places covers drops steps=some true:=R8a (by decide) places covers drops steps hp hd h0
end Go.Proofs.YtidpfkmbfgihlaaGreat
