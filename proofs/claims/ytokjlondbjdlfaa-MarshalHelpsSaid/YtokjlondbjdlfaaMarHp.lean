/- In a sorted yard the next box of the order is on top: -/
import Derived.Test.YtokjlondbjdlfaaMarR
import Derived.Test.YtokjlondbjdlfaaXM
set_option maxRecDepth 100000
set_option linter.unusedVariables false
namespace Go.Proofs.Ytokjlondbjdlfaa
open Go.RowKit Go.Sort Go.Shelf

def He0 (order:List Int) (k:Nat) (s:List Int):List Int:=s.filter fun b=>decide (k≤rnk order b)
theorem Jcd {order:List Int} {b:Int} {k:Nat} (h:rnk order b=k) (hk:k < order.length):order[k]? = some b:=by
 subst h
 unfold rnk at hk ⊢
 rw [Ez hk,List.getElem_idxOf]
theorem Rc6 {order:List Int} (hn:order.Nodup) {b:Int} {k:Nat} (h:order[k]? = some b):rnk order b=k:=by
 obtain⟨hk,e⟩:=Ey h
 subst e
 exact hn.idxOf_getElem k hk
theorem J11 {order:List Int}:∀ {s:List Int} {m:Nat},G1c order m s=[]→s.Pairwise (fun a b=>rnk order b≤rnk order a)∧∀ b∈s,rnk order b≤m
 | [],m,_=>⟨List.Pairwise.nil,by simp⟩
 | x::s,m,h=>by
  rw [G1c] at h
  split at h
  ·cases h
  ·rename_i hx
   obtain⟨h1,h2⟩:=J11 h
   refine⟨List.pairwise_cons.2 ⟨h2,h1⟩,fun b hb=>?_⟩
   rcases Ks.1 hb with rfl | hb
   ·omega
   ·have:=h2 b hb; omega
theorem R7f {order:List Int} {s:List Int} {k:Nat} {b:Int} (hw:G1c order order.length s=[]) (hs:s.Nodup) (hb:b∈s) (hk:rnk order b=k) (h3:k < order.length):He0 order k s=He0 order (k+1) s++[b]:=by
 obtain⟨p,q,e⟩:=List.append_of_mem hb
 subst e
 have hd:=(J11 hw).1
 have h0:∀ a,rnk order a=k→a=b:=fun a ha=>by
  have h1:=Jcd ha h3
  have h2:=Jcd hk h3
  rw [h1] at h2; exact K0 h2
 have h4:b ∉ p:=fun h=>(List.nodup_append.1 hs).2.2 b h b (by simp) rfl
 have h5:b ∉ q:=(List.nodup_cons.1 (List.nodup_append.1 hs).2.1).1
 have hq:∀ a∈q,rnk order a < k:=fun a ha=>by
  have h1:=(List.pairwise_cons.1 (List.pairwise_append.1 hd).2.1).1 a ha
  have h2:rnk order a≠k:=fun h=>h5 (h0 a h ▸ ha)
  omega
 have q1:∀ j,k≤j→q.filter (fun a=>decide (j≤rnk order a))=[]:=fun j hj=>List.filter_eq_nil_iff.2 fun a ha=>by
  have:=hq a ha
  simp; omega
 have p1:p.filter (fun a=>decide (k≤rnk order a))=p.filter (fun a=>decide (k+1≤rnk order a)):=List.filter_congr fun a ha=>by
  have:rnk order a≠k:=fun h=>h4 (h0 a h ▸ ha)
  exact decide_eq_decide.2 (by omega)
 unfold He0
 rw [List.filter_append,List.filter_append,List.filter_cons,List.filter_cons,q1 k (Kc),q1 (k+1) (by omega),p1,if_pos (Ew (by omega)),if_neg (by simp; omega),List.append_nil]
theorem R3a {order:List Int} {s:List Int} {k:Nat} {b:Int} (hb:b ∉ s) (hk:rnk order b=k) (h0:k < order.length):He0 order (k+1) s=He0 order k s:=by
 have h3:∀ a,rnk order a=k→a=b:=fun a ha=>by
  have h1:=Jcd ha h0
  have h2:=Jcd hk h0
  rw [h1] at h2; exact K0 h2
 refine List.filter_congr fun a ha=>?_
 have:rnk order a≠k:=fun h=>hb (h3 a h ▸ ha)
 exact decide_eq_decide.2 (by omega)
theorem cut0 (order s:List Int):He0 order 0 s=s:=List.filter_eq_self.2 fun a _=>Ew (Nat.zero_le _)

/-! ### One step -/
structure J26 (ss:List (List Int)) (order:List Int) (k:Nat) (l:List G8) (j:Gf):Prop where
 stacks:j.stacks=ss.map (He0 order k)
 order_:j.order=order
 next:j.next=(k:Int)
 steps:j.steps=l
def atS (ss:List (List Int)) (b:Int):G8:=⟨b,(G31 b ss 0).1,-1⟩
theorem Q36 (s:List Int) (b:Int):R1 s b=some (decide (b∈s)):=by
 unfold R1 G06
 rw [J7c]
 by_cases h:b∈s
 ·rw [if_pos h,G09,Ew h,Ew (by omega)]; rfl
 ·rw [if_neg h,G09,Ex h]; rfl
theorem Je6 {l:List (List Int)} {b:Int} {i:Nat} {s:List Int} (hi:l[i]? = some s) (hs:b∈s) (hu:∀ (j:Nat) (t:List Int),l[j]? = some t→b∈t→j=i):Yg l (fun z0=>R1 z0 b)=some (i:Int):=by
 refine Ra ?_
 unfold Yg
 refine Q3 (fun pre _=>∀ t∈pre,b ∉ t) (by simp) (fun pre x post _ nx e hI h0=>?_) (fun _ hI=>?_)
 ·refine Gn (Q36 x b) (Hi (fun h=>Hj ?_) (fun h=>h0 _ fun t ht=>?_))
  ·have h:=Eu h
   have:=hu pre.length x (by rw [e]; simp) h
   rw [this]
  ·rcases Kp.1 ht with ht | ht
   ·exact hI t ht
   ·rw [Kr] at ht; subst ht; exact Ev h
 ·exact absurd hs (hI s (Ka hi))
section
variable {ss:List (List Int)} {H:Int} {order:List Int} {k:Nat} {b:Int} {l:List G8} {j:Gf}
theorem Qb8 (hR:Re ss H order) (hw:Q0 order ss=[]) (hb:order[k]? = some b):∃ (i:Nat) (s:List Int),ss[i]? = some s∧b∈s∧(G31 b ss 0).1=(i:Int)∧He0 order k s=He0 order (k+1) s++[b]∧(∀ (q:Nat) (t:List Int),ss[q]? = some t→b∈t→q=i)∧rnk order b=k∧k < order.length∧s.length≤6:=by
 have h1:=(Ey hb).1
 have h2:=Rc6 hR.o.nodup hb
 obtain⟨i,p,hc⟩:=Hd5 (hR.o.in_ b (Ka hb))
 unfold cellAt at hc
 obtain⟨s,hs,hp⟩:=Option.bind_eq_some_iff.1 hc
 have hf:=Ga4 (o:=0) hR.y.nodup hs hp
 have h3:=Ka hp
 have h0:=Ka hs
 have h5:s.Nodup:=by
  have:=hR.y.nodup
  obtain⟨p,q,e⟩:=List.append_of_mem h0
  rw [e,List.flatten_append,List.flatten_cons] at this
  exact(List.nodup_append.1 (List.nodup_append.1 this).2.1).1
 have h6:G1c order order.length s=[]:=List.flatMap_eq_nil_iff.1 hw s h0
 refine⟨i,s,hs,h3,by rw [hf,Nat.zero_add],R7f h6 h5 h3 h2 h1,fun q t ht h7=>?_,h2,h1,hR.y.len s h0⟩
 obtain⟨p',h8⟩:=List.mem_iff_getElem?.1 h7
 have h4:=Ga4 (o:=0) hR.y.nodup ht h8
 rw [hf] at h4
 have:=congrArg Prod.fst h4
 dsimp only at this
 omega
theorem R13 {i:Nat} {a:List Int} (hj:j.stacks[i]? = some (a++[b])) (hl:a.length≤6):Z3 j (i:Int)=some b:=by
 have hi:=(Ey hj).1
 unfold Z3
 rw [Ex (by omega:¬ (i:Int) < 0),Ex (by omega:¬ (j.stacks.length:Int)≤(i:Int))]
 refine Ra ?_
 refine Gn (x:=a++[b]) (Ra (Ju (m:=i) rfl hj (Hj rfl))) ?_
 refine Hi (fun h=>?_) (fun _=>?_)
 ·simp at h; omega
 ·refine Ju (m:=i) rfl hj (Ju (m:=i) rfl hj (Q4 (by rw [Kj,Kk]; omega) ?_))
  refine Ju (m:=a.length) (by rw [Kj,Kk]; omega) (x:=b) (by simp) (Hj rfl)
theorem R0f (hR:Re ss H order) (hw:Q0 order ss=[]) (hj:J26 ss order k l j) (hb:order[k]? = some b):Zh j=some ((G31 b ss 0).1,true):=by
 obtain⟨i,s,h1,h2,h3,h4,h5,h6,h7,h8⟩:=Qb8 hR hw hb
 have hm:j.stacks[i]? = some (He0 order (k+1) s++[b]):=by rw [hj.stacks,Kg,h1,Option.map_some,h4]
 refine Ra ?_
 unfold Zh
 refine Ju (m:=k) hj.next (by rw [hj.order_]; exact hb) ?_
 refine Gn (Je6 hm (by simp) fun q t ht h0=>?_) ?_
 ·rw [hj.stacks,Kg] at ht
  obtain⟨t',h9,rfl⟩:=Option.map_eq_some_iff.1 ht
  exact h5 q t' h9 (Kt.1 h0).1
 ·refine Gn (R13 hm (Nat.le_trans (Ep _ _) h8)) (Hj ?_)
  rw [h3,Ew rfl]
theorem Raf (hR:Re ss H order) (hw:Q0 order ss=[]) (hj:J26 ss order k l j) (hb:order[k]? = some b) (hl:l.length≤1000) (ho:order.length≤1000):∃ j',Yh j (atS ss b)=some (true,j')∧J26 ss order (k+1) (l++[atS ss b]) j':=by
 obtain⟨i,s,h1,h2,h3,h4,h5,h6,h7,h8⟩:=Qb8 hR hw hb
 have hm:j.stacks[i]? = some (He0 order (k+1) s++[b]):=by rw [hj.stacks,Kg,h1,Option.map_some,h4]
 have h9:(He0 order (k+1) s).length≤6:=Nat.le_trans (Ep _ _) h8
 have a2:=(hR.y.ids b (hR.o.in_ b (Ka hb))).1
 have ht:=R13 hm h9
 have h0:Wp (Yh j (atS ss b)) (fun r=>r.1=true∧J26 ss order (k+1) (l++[atS ss b]) r.2):=by
  unfold Yh atS
  dsimp only
  rw [h3,Ex (by omega:¬ b < 1)]
  refine Gn ht (Hi (fun h=>by simp at h) (fun _=>?_))
  refine Hi (fun _=>?_) (fun h=>by simp at h)
  rw [Ex (by rw [hj.next,hj.order_]; omega:¬ j.next=(j.order.length:Int))]
  refine Gn (x:=b) (Ra (Ju (m:=k) hj.next (by rw [hj.order_]; exact hb) (Hj rfl))) (Hi (fun h=>by simp at h) (fun _=>?_))
  refine Q4 (by rw [hj.next]; omega) (Ju (m:=i) rfl hm (Ju (m:=i) rfl hm (Q4 (by rw [Kj,Kk]; omega) ?_)))
  refine Yu (Rr (m:=(He0 order (k+1) s).length) (by rw [Kj,Kk]; omega) (by simp) ?_)
  refine Ju (m:=i) rfl hm (Q2 (Zi (by rw [hj.steps,Kk]; omega) (by decide)) (Hj ⟨rfl,?_,hj.order_,?_,?_⟩))
  ·dsimp only
   rw [show ((i:Int)).toNat=i by omega,List.take_left,hj.stacks]
   refine List.ext_getElem? fun q=>?_
   rw [List.getElem?_set,Ko]
   by_cases e:i=q
   ·subst e
    rw [if_pos rfl,if_pos (Ey h1).1,Kg,h1]; rfl
   ·rw [if_neg e,Kg,Kg]
    cases hq:ss[q]? with
    | none=>rfl
    | some t=>
     have:b ∉ t:=fun h=>e (h5 q t hq h).symm
     rw [Option.map_some,Option.map_some,R3a this h6 h7]
  ·dsimp only
   rw [hj.next]; omega
  ·dsimp only
   rw [hj.steps]
 obtain⟨r,e,a0,a1⟩:=h0
 exact⟨r.2,by rw [e,← a0],a1⟩
end

/-! ### All steps -/
theorem Q25 {ss:List (List Int)} {H:Int} {order:List Int} (h:Re ss H order):∃ j,Jp ⟨ss,H⟩ order=some (j,true)∧J26 ss order 0 [] j:=by
 have hw:Wp (Jp ⟨ss,H⟩ order) (fun r=>r.2=true∧J26 ss order 0 [] r.1):=by
  unfold Jp
  refine Gn (Gb7 ss H) ?_
  rw [Ew h.y]
  refine H83 h.y.most h.y.len (fun m=>Wp m _) ?_
  refine Q3 (fun pre s=>(∀ a,Hu.has s a=decide (a∈pre))∧∀ a,a∈pre→Hu.get s a 0=(rnk pre a:Int)) ⟨fun a=>by simp; rfl,by simp⟩ (fun pre b post s nx e hI h3=>?_) (fun s hI=>Hj ⟨rfl,?_,rfl,rfl,rfl⟩)
  ·refine Gn (He9 ss H b) (Gn rfl ?_)
   have h0:=h.o.nodup
   rw [e] at h0
   have hn:b ∉ pre:=fun hb=>(List.nodup_append.1 h0).2.2 b hb b (by simp) rfl
   rw [H5f,hI.1,Ex hn,Ew (h.o.in_ b (by rw [e]; simp))]
   exact h3 _ (Ja5 hn hI.1 hI.2)
  ·dsimp only
   rw [show (He0 order 0)=id from funext fun s=>cut0 order s,List.map_id]
 obtain⟨r,e,h1,h2⟩:=hw
 exact⟨r.1,by rw [e,← h1],h2⟩
theorem Rdf {F:Nat} (hF:1000 < F) {ss:List (List Int)} {H:Int} {order:List Int} (hR:Re ss H order) (hw:Q0 order ss=[]) (ho:order.length≤900):G4f F ⟨ss,H⟩ order=some (order.map (atS ss),0):=by
 obtain⟨j,hb,hj⟩:=Q25 hR
 refine Ra ?_
 unfold G4f
 refine Gn hb (Hi (fun h=>by cases h) (fun _=>?_))
 refine wp_loop (fun z=>∃ k,k≤order.length∧J26 ss order k ((order.take k).map (atS ss)) z) (fun z=>order.length - z.next.toNat) ⟨0,Nat.zero_le _,by rw [List.take_zero,List.map_nil]; exact hj⟩ (show order.length - j.next.toNat < F by omega) (fun z nx hz h3=>?_)
 obtain⟨k,hk,hz⟩:=hz
 refine Hi (fun h=>?_) (fun h=>Hj ?_)
 ·have h:=Eu h
  have h0:k < order.length:=by rw [hz.next] at h; omega
  have h1:order[k]? = some order[k]:=Ez h0
  refine Gn (R0f hR hw hz h1) (Hi (fun _=>?_) (fun h=>by cases h))
  refine Ju (m:=k) hz.next h1 ?_
  obtain⟨j',hd,h2⟩:=Raf hR hw hz h1 (by rw [Ko,List.length_take]; omega) (by omega)
  refine Gn hd (h3 _ ⟨k+1,h0,?_⟩ ?_)
  ·have e:(order.take (k+1)).map (atS ss)=(order.take k).map (atS ss)++[atS ss order[k]]:=by
    rw [List.take_add_one,h1,List.map_append]; rfl
   rw [e]; exact h2
  ·dsimp only
   rw [h2.next,hz.next]; omega
 ·have h:=Ev h
  have h0:k=order.length:=by rw [hz.next] at h; omega
  subst h0
  rw [hz.steps,List.take_length]
theorem Q9d {ss:List (List Int)} {H:Int} {order:List Int} (hR:Re ss H order) (hw:Q0 order ss=[]) (ho:order.length≤900):G23 ⟨ss,H⟩ order (order.map (atS ss))=some (0,0):=by
 obtain⟨j,hb,hj⟩:=Q25 hR
 refine Ra ?_
 unfold G23
 refine Gn hb (Hi (fun h=>by cases h) (fun _=>Hi (fun h=>?_) (fun _=>?_)))
 ·rw [Ko] at h
  have:=Eu h; omega
 refine Q3 (fun pre z=>z.1=0∧∃ l,l.length=pre.length∧J26 ss order pre.length l z.2) ⟨rfl,[],rfl,hj⟩ (fun pre x post z nx e hI h2=>?_) (fun z hI=>?_)
 ·obtain⟨h0,l,hl,hz⟩:=hI
  have hx:(order.map (atS ss))[pre.length]? = some x:=by rw [e]; simp
  rw [Kg] at hx
  obtain⟨b,h1,rfl⟩:=Option.map_eq_some_iff.1 hx
  have h4:=(Ey h1).1
  obtain⟨j',hd,h3⟩:=Raf hR hw hz h1 (by omega) (by omega)
  refine H42 (fun q=>q=(0,j')) (fun K hK=>?_) (fun q hq=>?_)
  ·refine Gn hd (Hi (fun h=>by cases h) (fun _=>?_))
   refine Hi (fun h=>?_) (fun _=>hK _ (by rw [h0]))
   have h:=Eu h
   have:(0:Int) ≤ -1:=h
   omega
  ·subst hq
   refine h2 _ ⟨rfl,l++[atS ss b],?_,?_⟩
   ·simp only [Kj,Kf,List.length_nil,hl]
   ·rw [Kj,Kk]; exact h3
 ·obtain⟨h0,l,hl,hz⟩:=hI
  rw [Ko] at hz
  refine Hi (fun h=>?_) (fun _=>Hj (by rw [h0]))
  have h:=Eu h
  rw [hz.next] at h; omega
theorem Q89 (stacks height:Int) (l o:List Int) (hs:0≤stacks∧stacks≤255) (hh:0≤height∧height≤255) (hl:∀ v∈l,0≤v∧v≤255) (ho:∀ v∈o,0≤v∧v≤255):Ry 9000100 stacks height l o=some true:=by
 refine Ra ?_
 unfold Ry
 refine Gn Q27 (Hi (fun h=>by cases h) (fun _=>?_))
 refine Yu (wp_mono (J78 hs hh hl) (fun y hy=>?_))
 obtain⟨hm,hr⟩:=hy
 refine Yu (wp_mono (H92 (F:=9000100) (by decide) hm.len hr.nodup ho (by decide)) (fun order hO=>?_))
 obtain⟨h8,hO⟩:=hO
 obtain⟨ss,H⟩:=y
 have hr:Jz ss H:=hr
 have hR:Re ss H order:=⟨hr,hO⟩
 obtain⟨la,ea,hA,_,h9,h6⟩:=H3e (F:=9000100) (by decide) ss H (order:=order) (by omega)
 rcases h6 hR with ⟨rfl,rfl,h3⟩ | ⟨rfl,t,h2,h3,h4⟩
 ·refine Gn hA (Hi (fun _=>Hj (by simp)) (fun h=>by simp at h))
 refine Gn hA (Hi (fun h=>by simp at h) (fun _=>?_))
 have a0:(la.map mv).length≤180:=by
  have:=(G7f order ss).length_le
  have:=hr.all
  rw [Ko]; omega
 have h0:=Hcb (h:=H.toNat) (la.map mv) ss 0
 rw [h2] at h0
 have h1:(Rs H.toNat ss 0 (la.map mv)).2.2=0:=by
  by_cases g:(Rs H.toNat ss 0 (la.map mv)).2.2=0
  ·exact g
  ·rw [if_neg g] at h0; cases h0
 rw [if_pos h1] at h0
 have ht:=K0 h0
 have h7:Z6 ss H (la.map mv)=(t,H,(Rs H.toNat ss 0 (la.map mv)).2):=by
  rw [G9f hr (by omega),if_pos h1,← ht]
 obtain⟨r1,r2,_⟩:=Hf3 hr h2
 have h5:Re t H order:=⟨r1,hO.nodup,fun b hb=>(r2 b).2 (hO.in_ b hb)⟩
 refine Gn (Jdf ss H (la.map mv)) ?_
 rw [h7]
 refine Gn (Rdf (F:=9000100) (by decide) h5 h3 (by omega)) (Gn (Q9d h5 h3 (by omega)) (Hj ?_))
 dsimp only
 rw [h1,Ko]
 simp
end Go.Proofs.Ytokjlondbjdlfaa
