/-
  What has to be lifted so that some boxes can be: the same,of the reference.
-/
import Derived.Test.YthcpolfodgjekaaGreatStowB
set_option maxRecDepth 100000
set_option linter.unusedVariables false
namespace Go.Proofs.YthcpolfodgjekaaGreat
open Go.RowKit

theorem ref_hatch {s:H2} {m:Nat} {c:G4} (hc:s.Columns[m]? = some c):Zq s (m:Int)=some (if c.Deck=true then -1 else Yt s c):=by
  refine Zz ?_
  unfold Zq
  exact G58 rfl hc (J3 (fun h=>Gt (by rw [if_pos h])) (fun h=>H1 (ref_cover hc) (Gt (by rw [if_neg (by rw [h]; exact Bool.false_ne_true)]))))
theorem ref_uponB {s:H2} {m:Nat} {c:G4} {k:Int} (hc:s.Columns[m]? = some c):Yu s (m:Int) k=some (c.Deck&&decide (Yt s c=k)):=by
  refine Zz ?_
  unfold Yu
  refine G58 rfl hc ?_
  cases hd:c.Deck with
  | true=>exact H1 (ref_cover hc) (Gt rfl)
  | false=>exact Hs (Gt (Gt rfl))
def Jb1 (bs:List Bool):Nat:=bs.countP (fun b=>!b)
theorem fals_set:∀ (bs:List Bool) (k:Nat),bs[k]? = some false→Jb1 (bs.set k true) < Jb1 bs
  | [],k,h=>by simp at h
  | b::r,0,h=>by
    simp at h; subst h
    unfold Jb1
    simp
  | b::r,k+1,h=>by
    have:=fals_set r k (by simpa using h)
    unfold Jb1 at this ⊢
    rw [List.set_cons_succ,List.countP_cons,List.countP_cons]
    omega
theorem fals_le (bs:List Bool):Jb1 bs≤bs.length:=List.countP_le_length
structure MkR (s:H2) (l:List Stowed) (ids:List Int) (pre:List Int) (bs:List Bool):Prop where
  len:bs.length=l.length
  seeds:∀ a∈pre,∃ (i:Nat) (x:Stowed),l[i]? = some x∧x.Gg=a∧bs[i]? = some true
  sound:∀ (i:Nat) (x:Stowed),l[i]? = some x→bs[i]? = some true→∀ C:Int→Prop,(∀ a b,C a→Pl s l a b→C b)→(∀ a∈ids,C a)→C x.Gg
def ClAt (s:H2) (l:List Stowed) (bs:List Bool) (i k:Nat):Prop:=∀ x y,l[i]? = some x→l[k]? = some y→bs[i]? = some true→(H35 y.Slot x.Slot∨upon s x.Slot y.Slot)→bs[k]? = some true
theorem MkR.set {s:H2} {l:List Stowed} {ids pre:List Int} {bs:List Bool} (h:MkR s l ids pre bs) {k:Nat} {y:Stowed} (hy:l[k]? = some y) (hs:∀ C:Int→Prop,(∀ a b,C a→Pl s l a b→C b)→(∀ a∈ids,C a)→C y.Gg):MkR s l ids pre (bs.set k true):=by
  refine⟨by rw [List.length_set]; exact h.len,fun a ha=>?_,fun i x hx hb=>?_⟩
  · obtain⟨i,x,h1,h2,h3⟩:=h.seeds a ha
    refine⟨i,x,h1,h2,?_⟩
    by_cases e:k=i
    · subst e
      rw [List.getElem?_set_self (List.getElem?_eq_some_iff.1 h3).1]
    · rw [List.getElem?_set_ne e]; exact h3
  · by_cases e:k=i
    · subst e
      rw [hy] at hx; cases hx
      exact hs
    · rw [List.getElem?_set_ne e] at hb
      exact h.sound i x hx hb
theorem ref_reach {F:Nat} {s:H2} {boxes:List Gg} {l:List Stowed} {ids:List Int} (hp:∀ c∈s.Columns,c.Plugs.length≤1048576) (hr:∀ x∈s.Covers,x.Rows.length≤1000000) (hc:s.Covers.length≤1000000) (hb:∀ b∈boxes,0≤b.Size∧b.Size≤255) (hl:l.length≤1000) (hF:l.length+2≤F) :
    Wp (Qv F s boxes l ids) (J2b s boxes l ids):=by
  unfold Qv
  refine Hs (wp_mono (ref_stow (F:=F) (boxes:=boxes) (l:=l) hp (fun x hx=>by have:=hr x hx; omega) hb (by omega)) (fun r4 h4=>J3 (fun h=>Gt (.inl ⟨fun hh=>?_,rfl⟩)) (fun h=>?_)))
  · rw [h4.2 hh] at h; cases h
  obtain⟨hS,hR⟩:=h4.1 (by simpa using h)
  have hB:Brd s boxes l:=⟨hS,hR,hr,hc,hl⟩
  have hn:Gf1 (l.length:Int)=some l.length:=by
    unfold Gf1
    rw [decide_eq_true (by omega),cond_true]; rfl
  refine H1 hn (G0b (decide_eq_true ⟨by omega,by simp only [maxLen]; omega,by omega⟩) ?_)
  have atL:∀ {a:Int} {i:Nat} {x:Stowed},l[i]? = some x→x.Gg=a→a∈l.map (·.Gg):=fun h1 h2=>List.mem_map.2 ⟨_,List.mem_of_getElem? h1,h2⟩
  refine Qi (fun pre bs=>MkR s l ids pre bs∧∀ a∈pre,a∈l.map (·.Gg)) ⟨⟨List.length_replicate,fun a ha=>(List.not_mem_nil ha).elim,fun i x hx hbt=>?_⟩,fun a ha=>(List.not_mem_nil ha).elim⟩ (fun pre y post bs nx e hI hnx=>H1 (ref_at l y) ?_) (fun bs hI=>?_)
  · have:=List.eq_of_mem_replicate (List.mem_of_getElem? hbt); cases this
  · obtain⟨hM,hI⟩:=hI
    rcases G6a (fun x:Stowed=>decide (x.Gg=y)) l with ⟨h1,h2,_⟩ | ⟨q,x,h1,h2,h3,_⟩
    · rw [h1]
      refine J3 (fun _=>Gt (.inr ⟨hS,hR,.inl ⟨fun hh=>?_,rfl⟩⟩)) (fun h=>absurd (of_decide_eq_false h) (by omega))
      obtain⟨x,hx,hb⟩:=List.mem_map.1 (hh y (by rw [e]; simp))
      have:=h2 x hx; rw [decide_eq_true hb] at this; cases this
    · rw [h1]
      have hq:q < bs.length:=by rw [hM.len]; exact(List.getElem?_eq_some_iff.1 h2).1
      have hxb:x.Gg=y:=of_decide_eq_true h3
      refine J3 (fun h=>absurd (of_decide_eq_true h) (by omega)) (fun _=>H1 (x:=(q:Int)) ((ref_at l y).trans (by rw [h1])) (G58 rfl (List.getElem?_eq_getElem hq) (hnx _ ⟨?_,Qn hI (atL h2 hxb)⟩)))
      rw [Int.toNat_natCast]
      have hM':=hM.set h2 (fun C _ h=>by rw [hxb]; exact h y (by rw [e]; simp))
      exact⟨hM'.len,Qn hM'.seeds ⟨q,x,h2,hxb,List.getElem?_set_self hq⟩,hM'.sound⟩
  obtain⟨hM,hIn⟩:=hI
  refine wp_loop (fun st:Bool×List Bool=>MkR s l ids ids st.2∧(st.1=false→∀ i k,ClAt s l st.2 i k)) (fun st=>Jb1 st.2+(if st.1=true then 1 else 0)) ⟨hM,fun h=>by cases h⟩ (by
    have:=fals_le bs
    rw [hM.len] at this
    simp only [if_true]; omega) (fun st nx hI hnx=>?_)
  obtain⟨more,bs0⟩:=st
  obtain⟨hM0,hC0⟩:=hI
  refine J3 (fun hmore=>?_) (fun hmore=>?_)
  · -- a pass
    have hmore:more=true:=hmore
    subst hmore
    refine Qi (fun pre st=>MkR s l ids ids st.2∧(st.1=false→st.2=bs0∧∀ i,i < pre.length→∀ k,ClAt s l bs0 i k)∧(st.1=true→Jb1 st.2 < Jb1 bs0)) ⟨hM0,fun _=>⟨rfl,fun i hi=>absurd hi (Nat.not_lt_zero _)⟩,fun h=>Bool.noConfusion h⟩ (fun pre x post st nx1 e hI hnx1=>?_) (fun st hI=>hnx _ ⟨hI.1,fun h i k x y hx=>?_⟩ ?_)
    · have hxi:l[pre.length]? = some x:=by rw [e]; simp
      have hxm:x∈l:=List.mem_of_getElem? hxi
      obtain⟨i1,i2,i3⟩:=hI
      refine Qi (fun pre2 st=>MkR s l ids ids st.2∧(st.1=false→st.2=bs0∧(∀ i,i < pre.length→∀ k,ClAt s l bs0 i k)∧∀ k,k < pre2.length→ClAt s l bs0 pre.length k)∧(st.1=true→Jb1 st.2 < Jb1 bs0)) ⟨i1,fun h=>⟨(i2 h).1,(i2 h).2,fun k hk=>by simp at hk⟩,i3⟩ (fun pre2 y post2 st2 nx2 e2 hI2 hnx2=>?_) (fun st2 hI2=>hnx1 _ ⟨hI2.1,fun h=>⟨(hI2.2.1 h).1,fun i hi k=>?_⟩,hI2.2.2⟩)
      · have hyk:l[pre2.length]? = some y:=by rw [e2]; simp
        have hym:y∈l:=List.mem_of_getElem? hyk
        obtain⟨more2,bs2⟩:=st2
        obtain⟨j1,j2,j3⟩:=hI2
        simp only at j1 j2 j3
        have hil:pre.length < bs2.length:=by rw [j1.len]; exact(List.getElem?_eq_some_iff.1 hxi).1
        have hkl:pre2.length < bs2.length:=by rw [j1.len]; exact(List.getElem?_eq_some_iff.1 hyk).1
        refine Haa (fun j=>MkR s l ids ids j.2∧(j.1=false→j.2=bs0∧(∀ i,i < pre.length→∀ k,ClAt s l bs0 i k)∧∀ k,k < (pre2++[y]).length→ClAt s l bs0 pre.length k)∧(j.1=true→Jb1 j.2 < Jb1 bs0)) (fun K hK=>?_) (fun j hj=>hnx2 _ hj)
        -- nothing turns
        have same:ClAt s l bs2 pre.length pre2.length→Wp (K (more2,bs2)) (J2b s boxes l ids):=fun hcl=>hK _ ⟨j1,fun h=>⟨(j2 h).1,(j2 h).2.1,fun k hk=>by
          rw [List.length_append,List.length_singleton] at hk
          by_cases ek:k=pre2.length
          · subst ek; rw [(j2 h).1] at hcl; exact hcl
          · exact(j2 h).2.2 k (by omega)⟩,j3⟩
        refine G58 rfl (List.getElem?_eq_getElem hil) ?_
        obtain⟨q184,e184,h184⟩:=Gee (c:=!(!bs2[pre.length])) (m:=Qr bs2 (pre2.length:Int) some) (x:=bs2[pre2.length]) (fun _=>Z2 (List.getElem?_eq_getElem hkl) some)
        refine H1 e184 (J3 (fun h=>same (fun x' y' hx' hy' hbt _=>?_)) (fun h=>?_))
        · have hbi:bs2[pre.length]=true:=by
            rw [List.getElem?_eq_getElem hil] at hbt; exact Option.some.inj hbt
          rw [hbi] at h h184
          simp only [Bool.not_true,Bool.false_or,Bool.not_false] at h h184
          rw [List.getElem?_eq_getElem hkl,← h184 trivial,h]
        · simp only [Bool.or_eq_false_iff,Bool.not_eq_false'] at h
          have hbi:bs2[pre.length]=true:=h.1
          have hbk:bs2[pre2.length]=false:=by rw [← h184 (by rw [hbi]; rfl)]; exact h.2
          obtain⟨mc,c,hmc,hcc⟩:=hB.col hxm
          obtain⟨md,d,hmd,hdd⟩:=hB.col hym
          rw [hmc,hmd]
          refine H1 (ref_hatch hcc) (Hs (wp_mono (ref_over y.Slot x.Slot) (fun r188 h188=>?_)))
          obtain⟨r189,e189,h189⟩:=Gee (c:=(!r188)&&decide (0≤(if c.Deck=true then (-1:Int) else Yt s c))) (m:=Yu s (md:Int) (if c.Deck=true then -1 else Yt s c)) (x:=d.Deck&&decide (Yt s d=(if c.Deck=true then -1 else Yt s c))) (fun _=>ref_uponB hdd)
          have hup:upon s x.Slot y.Slot ↔ (0≤(if c.Deck=true then (-1:Int) else Yt s c)∧d.Deck=true∧Yt s d=(if c.Deck=true then (-1:Int) else Yt s c)):=by
            constructor
            · rintro⟨n0,d0,n1,d1,e1,e2,e3,e4,q1,q2,q3,q4⟩
              have e5:n0=mc:=by omega
              have e6:n1=md:=by omega
              subst e5 e6
              rw [hcc] at e2; cases e2
              rw [hdd] at e4; cases e4
              rw [if_neg (by rw [q1]; exact Bool.false_ne_true)]
              exact⟨q3,q2,q4⟩
            · rintro⟨q1,q2,q3⟩
              by_cases hd:c.Deck=true
              · rw [if_pos hd] at q1; omega
              · rw [if_neg hd] at q1 q3
                exact⟨mc,c,md,d,hmc,hcc,hmd,hdd,by simpa using hd,q2,q1,q3⟩
          have hiff:(r188||(decide (0≤(if c.Deck=true then (-1:Int) else Yt s c))&&r189))=true ↔ (H35 y.Slot x.Slot∨upon s x.Slot y.Slot):=by
            rw [hup,← h188]
            cases hr:r188 with
            | true=>simp
            | false=>
              by_cases h0:0≤(if c.Deck=true then (-1:Int) else Yt s c)
              · have:=h189 (by rw [hr,decide_eq_true h0]; rfl)
                rw [this]
                simp [h0]
              · simp [h0]
          refine H1 e189 (J3 (fun h=>?_) (fun h=>same (fun x' y' hx' hy' hbt hpl=>?_)))
          · have hpl:Pl s l x.Gg y.Gg:=⟨x,hxm,rfl,y,hym,rfl,hiff.1 h⟩
            refine G58 rfl (List.getElem?_eq_getElem hkl) (hK _ ⟨?_,fun h=>Bool.noConfusion h,fun _=>?_⟩)
            · rw [Int.toNat_natCast]
              exact j1.set hyk (fun C h1 h2=>h1 _ _ (j1.sound pre.length x hxi (by rw [List.getElem?_eq_getElem hil,hbi]) C h1 h2) hpl)
            · rw [Int.toNat_natCast]
              have hlt:=fals_set bs2 pre2.length (by rw [List.getElem?_eq_getElem hkl,hbk])
              cases hm2:more2 with
              | true=>exact Nat.lt_trans hlt (j3 hm2)
              | false=>rw [(j2 hm2).1] at hlt ⊢; exact hlt
          · rw [hxi] at hx'; cases hx'
            rw [hyk] at hy'; cases hy'
            rw [hiff.2 hpl] at h; cases h
      · rw [List.length_append,List.length_singleton] at hi
        by_cases ei:i=pre.length
        · subst ei
          by_cases hk:k < l.length
          · exact(hI2.2.1 h).2.2 k hk
          · intro x' y' _ hy'
            exact absurd (List.getElem?_eq_some_iff.1 hy').1 hk
        · exact(hI2.2.1 h).2.1 i (by omega) k
    · have h2:=hI.2.1 h
      rw [h2.1]
      exact h2.2 i (List.getElem?_eq_some_iff.1 hx).1 k x y hx
    · cases hm:st.1 with
      | true=>have:=hI.2.2 hm; simp only [if_true]; omega
      | false=>
        rw [(hI.2.1 hm).1]
        simp
  · have hmore:more=false:=hmore
    subst hmore
    have hcl:=hC0 rfl
    simp only at hM0 hcl
    refine Qi (fun pre out=>out.length≤pre.length∧out.Pairwise (· < ·)∧(∀ a∈out,∃ (i:Nat) (x:Stowed),i < pre.length∧l[i]? = some x∧x.Gg=a∧bs0[i]? = some true)∧∀ (i:Nat) (x:Stowed),i < pre.length→l[i]? = some x→bs0[i]? = some true→x.Gg∈out) ⟨Nat.le_refl _,List.Pairwise.nil,fun a ha=>(List.not_mem_nil ha).elim,fun i x hi=>by simp at hi⟩ (fun pre x post out nx1 e hI hnx1=>?_) (fun out hI=>Gt (.inr ⟨hS,hR,.inr ⟨hIn,rfl,?_⟩⟩))
    · have hxi:l[pre.length]? = some x:=by rw [e]; simp
      have hil:pre.length < bs0.length:=by rw [hM0.len]; exact(List.getElem?_eq_some_iff.1 hxi).1
      have hpl:pre.length≤l.length:=by rw [e]; simp
      obtain⟨k0,k1,k2,k3⟩:=hI
      refine Haa (fun j=>j.length≤(pre++[x]).length∧j.Pairwise (· < ·)∧(∀ a∈j,∃ (i:Nat) (x':Stowed),i < (pre++[x]).length∧l[i]? = some x'∧x'.Gg=a∧bs0[i]? = some true)∧∀ (i:Nat) (x':Stowed),i < (pre++[x]).length→l[i]? = some x'→bs0[i]? = some true→x'.Gg∈j) (fun K hK=>?_) (fun j hj=>hnx1 _ hj)
      refine G58 rfl (List.getElem?_eq_getElem hil) (J3 (fun h=>G0b (room8 (by omega)) (hK _ ?_)) (fun h=>hK _ ?_))
      · refine⟨by simp; omega,H96 k1 (fun a ha=>?_),Qn (fun a ha=>?_) ⟨pre.length,x,by simp,hxi,rfl,by rw [List.getElem?_eq_getElem hil,h]⟩,fun i x' hi hx' hbt=>?_⟩
        · obtain⟨i,x',g1,g2,g3,_⟩:=k2 a ha
          have:=List.pairwise_iff_getElem.1 hR.sorted i pre.length (by omega) (List.getElem?_eq_some_iff.1 hxi).1 g1
          rw [(List.getElem?_eq_some_iff.1 g2).2,(List.getElem?_eq_some_iff.1 hxi).2] at this
          omega
        · obtain⟨i,x',g1,g2⟩:=k2 a ha
          exact⟨i,x',by simp; omega,g2⟩
        · rw [List.length_append,List.length_singleton] at hi
          by_cases ei:i=pre.length
          · subst ei; rw [hxi] at hx'; cases hx'; simp
          · exact List.mem_append.2 (.inl (k3 i x' (by omega) hx' hbt))
      · refine⟨by simp; omega,k1,fun a ha=>?_,fun i x' hi hx' hbt=>?_⟩
        · obtain⟨i,x',g1,g2⟩:=k2 a ha
          exact⟨i,x',by simp; omega,g2⟩
        · rw [List.length_append,List.length_singleton] at hi
          by_cases ei:i=pre.length
          · subst ei; rw [List.getElem?_eq_getElem hil,h] at hbt; cases hbt
          · exact k3 i x' (by omega) hx' hbt
    · obtain⟨k0,k1,k2,k3⟩:=hI
      refine⟨k1,fun a ha=>?_,fun a ha b hpl=>?_,fun C h1 h2 a ha=>?_⟩
      · obtain⟨i,x,g1,g2,g3⟩:=hM0.seeds a ha
        rw [← g2]
        exact k3 i x (List.getElem?_eq_some_iff.1 g1).1 g1 g3
      · obtain⟨i,x,g1,g2,g3,g4⟩:=k2 a ha
        obtain⟨x',hx',ex',y,hy,ey,hh⟩:=hpl
        have hxx:x=x':=Jbf hR.sorted (List.mem_of_getElem? g2) hx' (by rw [g3,ex'])
        subst hxx
        obtain⟨k,hk,rfl⟩:=List.mem_iff_getElem.1 hy
        have hky:l[k]? = some l[k]:=List.getElem?_eq_getElem hk
        rw [← ey]
        exact k3 k _ hk hky (hcl i k x _ g2 hky g4 hh)
      · obtain⟨i,x,g1,g2,g3,g4⟩:=k2 a ha
        rw [← g3]
        exact hM0.sound i x g2 g4 C h1 h2
end Go.Proofs.YthcpolfodgjekaaGreat
