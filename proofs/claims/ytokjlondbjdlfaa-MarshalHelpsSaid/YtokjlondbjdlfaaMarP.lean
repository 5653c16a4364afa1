/-
 Small yards: The moves of a small yard,in order; Yards are told apart by their bytes and by where their boxes Check of program and reference. The search for the fewest moves: Way and place of program and reference; The search,from yard to yard. Moves one af the other;
-/
import Derived.Test.YtokjlondbjdlfaaMarD
set_option maxRecDepth 100000
set_option linter.unusedVariables false
namespace Go.Proofs.Ytokjlondbjdlfaa
open Go.RowKit

theorem wp_loop {β σ:Type} {Q:β→Prop} (I:σ→Prop) (μ:σ→Nat) {b:(σ→Option β)→σ→Option β} {F:Nat} {s:σ} (h0:I s) (hF:μ s < F)
  (hb:∀ s nx,I s→(∀ s',I s'→μ s' < μ s→Wp (nx s') Q)→Wp (b nx s) Q):Wp (loop b F s) Q:=by
 induction F generalizing s with
 | zero=>omega
 | succ F ih=>
  rw [loop]
  exact hb s _ h0 (fun s' h1 h2=>ih h1 (by omega))

def cellAt (ss:List (List Int)) (i k:Nat):Option Int:=(ss[i]?).bind (·[k]?)
theorem G65 {ss:List (List Int)} {i k:Nat} {s:List Int} (h:ss[i]? = some s):cellAt ss i k=s[k]? := by unfold cellAt; rw [h]; rfl
/-! ### Sorted -/
structure SmY (boxes:List Int) (n:Nat) (H:Int) (ss:List (List Int)):Prop where
 right:Jz ss H
 len:ss.length=n
 few:n≤4
 in_:∀ b,b∈ss.flatten ↔ b∈boxes
theorem SmY.at_ {boxes:List Int} {n:Nat} {H:Int} {ss:List (List Int)} (h:SmY boxes n H ss) {i:Nat} (hi:i < n):∃ s,ss[i]? = some s∧s.length≤6∧(s.length:Int)≤H∧∀ b∈s,b∈boxes:=by
 have hi:i < ss.length:=by rw [h.len]; exact hi
 refine⟨ss[i],Ez hi,h.right.len _ (List.getElem_mem hi),h.right.fit _ (List.getElem_mem hi),fun b hb=>(h.in_ b).1 (List.mem_flatten.2 ⟨_,List.getElem_mem hi,hb⟩)⟩

def G39 (ss:List (List Int)) (h a b:Nat):List (G5×List (List Int)):=if (Hq ss h ⟨a,b⟩).2=0 then [(⟨a,b⟩,(Hq ss h ⟨a,b⟩).1)] else []
def H11 (ss:List (List Int)) (h a m:Nat):List (G5×List (List Int)):=(List.range m).flatMap (G39 ss h a)
def H3a (ss:List (List Int)) (h n m:Nat):List (G5×List (List Int)):=(List.range m).flatMap fun a=>H11 ss h a n
def G74 (ss:List (List Int)) (h:Nat):List (G5×List (List Int)):=H3a ss h ss.length ss.length
theorem H75 (ss:List (List Int)) (h a m:Nat):H11 ss h a (m+1)=H11 ss h a m++G39 ss h a m:=by
 unfold H11; rw [List.range_succ,List.flatMap_append]; simp
theorem H84 (ss:List (List Int)) (h n m:Nat):H3a ss h n (m+1)=H3a ss h n m++H11 ss h m n:=by
 unfold H3a; rw [List.range_succ,List.flatMap_append]; simp
theorem Jaa {ss:List (List Int)} {h:Nat} {x:G5×List (List Int)} (hx:x∈G74 ss h):∃ a b:Nat,a < ss.length∧b < ss.length∧x.1=⟨a,b⟩∧(Hq ss h x.1).2=0∧x.2=(Hq ss h x.1).1:=by
 unfold G74 H3a at hx
 obtain⟨a,ha,hx⟩:=List.mem_flatMap.1 hx
 unfold H11 at hx
 obtain⟨b,hb,hx⟩:=List.mem_flatMap.1 hx
 unfold G39 at hx
 split at hx
 ·rename_i h0
  rw [Kr] at hx
  subst hx
  exact⟨a,b,List.mem_range.1 ha,List.mem_range.1 hb,rfl,h0,rfl⟩
 ·exact absurd hx (by simp)

/-! ### The reference -/
def addN (H at_:Int) (all:List Ge) (x:G5×List (List Int)):List Ge:=if ∃ z∈all,z.y.Stacks=x.2 then all else all++[⟨⟨x.2,H⟩,at_,⟨x.1.From,x.1.To⟩⟩]
def G49 (H at_:Int) (all:List Ge) (l:List (G5×List (List Int))):List Ge:=l.foldl (addN H at_) all

theorem Q80:∀ (n:Nat) (l:List Nat),l.Nodup→(∀ x∈l,x < n)→l.length≤n
 | 0,l,_,h=>by
  cases l with
  | nil=>simp
  | cons x r=>exact absurd (h x (by simp)) (by omega)
 | n+1,l,hn,h=>by
  have h1:=Q80 n (l.filter (fun x=>decide (x≠n))) (hn.filter _) (fun x hx=>by
   have:=Kt.1 hx
   have h2:=h x this.1
   have h3:=Eu this.2
   omega)
  have h2:l.count n≤1:=List.nodup_iff_count.1 hn n
  have h3:=List.length_eq_countP_add_countP (fun x=>decide (x≠n)) (l:=l)
  rw [← List.countP_eq_length_filter] at h1
  have h4:l.countP (fun a=>decide (¬ decide (a≠n)=true))=l.count n:=by
   unfold List.count
   congr 1
   funext a
   by_cases e:a=n <;> simp [e]
  rw [h4] at h3
  omega

theorem Jb8 {n:Nat} {a b:List (List Int)} (ha:a.length=n) (hb:b.length=n) (h:∀ i k,i < n→cellAt a i k=cellAt b i k):a=b:=by
 refine List.ext_getElem (by omega) fun i h1 h2=>List.ext_getElem? fun k=>?_
 have:=h i k (by omega)
 rw [G65 (Ez h1),G65 (Ez h2)] at this
 exact this
theorem SmY.Gf9 {boxes:List Int} {n:Nat} {H:Int} {ss:List (List Int)} (h:SmY boxes n H ss) {i k:Nat} {b:Int} (hc:cellAt ss i k=some b):i < n∧k < 6∧b∈boxes:=by
 unfold cellAt at hc
 obtain⟨s,hs,hk⟩:=Option.bind_eq_some_iff.1 hc
 have hi:=(Ey hs).1
 rw [h.len] at hi
 obtain⟨s',h0,h6,_,hb⟩:=h.at_ hi
 rw [hs] at h0; cases h0
 have:=(Ey hk).1
 exact⟨hi,by omega,hb b (Ka hk)⟩
/-! ### Where the boxes stand -/
theorem Ga4 {b:Int}:∀ {ss:List (List Int)} {o i k:Nat} {s:List Int},ss.flatten.Nodup→ss[i]? = some s→s[k]? = some b→G31 b ss o=(((o+i:Nat):Int),(k:Int),true)
 | [],o,i,k,s,_,h,_=>by simp at h
 | x::ss,o,0,k,s,hn,h,hk=>by
  simp at h; subst h
  have hm:b∈x:=Ka hk
  rw [G31,if_pos hm]
  have hx:x.Nodup:=(List.nodup_append.1 (by rw [List.flatten_cons] at hn; exact hn)).1
  have hl:=(Ey hk).1
  have h1:x[k]=b:=by rw [Ez hl] at hk; exact K0 hk
  have:x.idxOf b=k:=by
   have hi:=List.idxOf_lt_length_of_mem hm
   exact(List.getElem?_inj hi hx).1 (by rw [Ez hi,List.getElem_idxOf hi,hk])
  rw [this]; simp
 | x::ss,o,i+1,k,s,hn,h,hk=>by
  rw [List.flatten_cons] at hn
  have h0:=List.nodup_append.1 hn
  have h:ss[i]? = some s:=by simpa using h
  have hm:b∈ss.flatten:=List.mem_flatten.2 ⟨s,Ka h,Ka hk⟩
  have hx:b ∉ x:=fun hb=>h0.2.2 b hb b hm rfl
  rw [G31,if_neg hx,Ga4 h0.2.1 h hk]
  simp only [Prod.mk.injEq,and_true]
  omega
theorem Hd5 {b:Int} {ss:List (List Int)} (h:b∈ss.flatten):∃ i k,cellAt ss i k=some b:=by
 obtain⟨s,hs,hb⟩:=List.mem_flatten.1 h
 obtain⟨i,hi⟩:=List.mem_iff_getElem?.1 hs
 obtain⟨k,hk⟩:=List.mem_iff_getElem?.1 hb
 exact⟨i,k,by rw [G65 hi]; exact hk⟩
def J91 (ss:List (List Int)) (b:Int):Nat:=(G31 b ss 0).1.toNat*6+(G31 b ss 0).2.1.toNat
theorem Hf5 {boxes:List Int} {n:Nat} {H:Int} {ss:List (List Int)} (h:SmY boxes n H ss) {i k:Nat} {b:Int} (hc:cellAt ss i k=some b):J91 ss b=i*6+k:=by
 unfold cellAt at hc
 obtain⟨s,hs,hk⟩:=Option.bind_eq_some_iff.1 hc
 unfold J91
 rw [Ga4 h.right.nodup hs hk]
 dsimp only
 omega
theorem Jd0 {boxes:List Int} {n:Nat} {H:Int} {ss:List (List Int)} (h:SmY boxes n H ss) {b:Int} (hb:b∈boxes):J91 ss b < 24:=by
 obtain⟨i,k,hc⟩:=Hd5 ((h.in_ b).2 hb)
 have:=h.Gf9 hc
 have:=h.few
 rw [Hf5 h hc]; omega
def H61 (ss:List (List Int)):List Int→Nat
 | []=>0
 | b::r=>J91 ss b+24*H61 ss r
theorem Q22 {boxes:List Int} {n:Nat} {H:Int} {ss:List (List Int)} (h:SmY boxes n H ss):∀ l:List Int,(∀ b∈l,b∈boxes)→H61 ss l < 24 ^ l.length
 | [],_=>by simp [H61]
 | b::r,hl=>by
  have h1:=Jd0 h (hl b (List.mem_cons_self ..))
  have h2:=Q22 h r (fun x hx=>hl x (List.mem_cons_of_mem _ hx))
  rw [H61,Kf,Nat.pow_succ]
  omega
theorem Jb7 {boxes:List Int} {n:Nat} {H:Int} {a c:List (List Int)} (ha:SmY boxes n H a) (hc:SmY boxes n H c):∀ l:List Int,(∀ b∈l,b∈boxes)→H61 a l=H61 c l→∀ b∈l,J91 a b=J91 c b
 | [],_,_,b,hb=>by simp at hb
 | x::r,hl,h,b,hb=>by
  rw [H61,H61] at h
  have h1:=Jd0 ha (hl x (List.mem_cons_self ..))
  have h2:=Jd0 hc (hl x (List.mem_cons_self ..))
  have e1:J91 a x=J91 c x:=by omega
  rcases Ks.1 hb with rfl | hb
  ·exact e1
  ·exact Jb7 ha hc r (fun x hx=>hl x (List.mem_cons_of_mem _ hx)) (by omega) b hb
theorem R0d {boxes:List Int} {n:Nat} {H:Int} {a c:List (List Int)} (ha:SmY boxes n H a) (hc:SmY boxes n H c) (h:H61 a boxes=H61 c boxes):a=c:=by
 have hp:=Jb7 ha hc boxes (fun _ h=>h) h
 have one:∀ {a c:List (List Int)},SmY boxes n H a→SmY boxes n H c→(∀ b∈boxes,J91 a b=J91 c b)→∀ i k b,cellAt a i k=some b→cellAt c i k=some b:=fun {a c} ha hc hp i k b h3=>by
  have hl:=ha.Gf9 h3
  obtain⟨i',k',h0⟩:=Hd5 ((hc.in_ b).2 hl.2.2)
  have h4:=hc.Gf9 h0
  have e:=hp b hl.2.2
  rw [Hf5 ha h3,Hf5 hc h0] at e
  have e1:i=i':=by omega
  have e2:k=k':=by omega
  rw [e1,e2]; exact h0
 refine Jb8 ha.len hc.len fun i k _=>?_
 cases h1:cellAt a i k with
 | some b=>exact(one ha hc hp i k b h1).symm
 | none=>
  cases h2:cellAt c i k with
  | none=>rfl
  | some b=>rw [one hc ha (fun b hb=>(hp b hb).symm) i k b h2] at h1; cases h1

/-! ### What is met -/
structure Met (boxes:List Int) (n:Nat) (H:Int) (all:List Ge):Prop where
 ok:∀ z∈all,SmY boxes n H z.y.Stacks∧z.y.Height=H
 nodup:(all.map (·.y.Stacks)).Nodup
 first:∃ z,all[0]? = some z∧z.from_ = -1
 from_:∀ (i:Nat) z,all[i]? = some z→0 < i→∃ j:Nat,z.from_=(j:Int)∧j < i
theorem Met.len {boxes:List Int} {n:Nat} {H:Int} {all:List Ge} (h:Met boxes n H all) (hb:boxes.length≤5):all.length≤7962624:=by
 have hn:(all.map fun z=>H61 z.y.Stacks boxes).Nodup:=by
  have:=h.nodup
  unfold List.Nodup at this ⊢
  rw [List.pairwise_map] at this ⊢
  exact this.imp_of_mem fun {a c} ha hc h0 e=>h0 (R0d (h.ok a ha).1 (h.ok c hc).1 e)
 have:=Q80 7962624 _ hn (fun x hx=>by
  obtain⟨z,hz,rfl⟩:=Kq.1 hx
  have h1:=Q22 (h.ok z hz).1 boxes (fun _ h=>h)
  have h2:24 ^ boxes.length≤24 ^ 5:=Nat.pow_le_pow_right (by decide) hb
  have h3:(24:Nat) ^ 5=7962624:=by decide
  omega)
 rwa [Ko] at this
theorem Met.addN {boxes:List Int} {n:Nat} {H:Int} {all:List Ge} (h:Met boxes n H all) {at_:Nat} (h3:at_ < all.length) {x:G5×List (List Int)} (hx:SmY boxes n H x.2):Met boxes n H (addN H (at_:Int) all x):=by
 unfold Go.Proofs.Ytokjlondbjdlfaa.addN
 split
 ·exact h
 ·rename_i h0
  refine⟨fun z hz=>?_,?_,?_,fun i z hz hi=>?_⟩
  ·rcases Kp.1 hz with hz | hz
   ·exact h.ok z hz
   ·rw [Kr] at hz; subst hz; exact⟨hx,rfl⟩
  ·rw [List.map_append]
   refine List.nodup_append.2 ⟨h.nodup,by simp,fun a ha c hc=>?_⟩
   simp only [List.map_cons,List.map_nil,Kr] at hc
   subst hc
   obtain⟨z,hz,rfl⟩:=Kq.1 ha
   exact fun e=>h0 ⟨z,hz,e⟩
  ·obtain⟨z,h1,h2⟩:=h.first
   exact⟨z,by rw [Ke (by omega)]; exact h1,h2⟩
  ·rcases Er i all.length with hl | hl
   ·rw [Ke hl] at hz
    exact h.from_ i z hz hi
   ·rw [Kd hl] at hz
    have e:i - all.length=0:=by
     have:=(Ey hz).1
     simp at this; omega
    rw [e] at hz
    simp at hz
    subst hz
    exact⟨at_,rfl,by omega⟩
theorem Met.G49 {boxes:List Int} {n:Nat} {H:Int} {at_:Nat}:∀ (l:List (G5×List (List Int))) {all:List Ge},Met boxes n H all→at_ < all.length→(∀ x∈l,SmY boxes n H x.2)→Met boxes n H (G49 H (at_:Int) all l)
 | [],all,h,_,_=>h
 | x::l,all,h,h0,hl=>by
  have h1:=h.addN h0 (hl x (List.mem_cons_self ..))
  refine Met.G49 l h1 ?_ (fun y hy=>hl y (List.mem_cons_of_mem _ hy))
  unfold Go.Proofs.Ytokjlondbjdlfaa.addN
  split
  ·exact h0
  ·rw [Kj]; omega

theorem G7e {α β:Type} {Q:β→Prop} {c:Bool} {m d:Option α} {x:α} {k:α→Option β} (hc:c=true) (e:m=some x) (h:Wp (k x) Q):Wp (bnd (bif c then m else d) k) Q:=by
 subst hc
 exact Gn e h
theorem Ra6 {α β:Type} {Q:β→Prop} {c:Bool} {m:Option α} {x:α} {k:α→Option β} (hc:c=false) (h:Wp (k x) Q):Wp (bnd (bif c then m else some x) k) Q:=by
 subst hc
 exact h
theorem Ga6 (l:List G5):Jy l l=some true:=by
 unfold Jy
 refine Qad (fun i y nx hy=>?_)
 rw [Gcb hy,Ew rfl]; rfl

/-! ### A list the other way round -/
/-! ### The way back to the first yard -/
inductive J82 (all:List Ge):Nat→List G9→Prop
 | stop:J82 all 0 []
 | go {i j:Nat} {z:Ge} {l:List G9} (hz:all[i]? = some z) (hi:0 < i) (hf:z.from_=(j:Int)) (hj:j < i) (h:J82 all j l):J82 all i (z.by_::l)
/-! ### The map of what is met -/
open Go.RowKit Go.Sort Go.Shelf

/-! ### The reference's sort -/
/-! ### The place -/
def mnL (order:List Int) (s:List Int):Nat:=s.foldl (fun m b=>min m (rnk order b)) (order.length+1)
theorem Q11 (order:List Int) (s:List Int) (b:Int):mnL order (s++[b])=min (mnL order s) (rnk order b):=by
 unfold mnL; rw [List.foldl_append]; rfl
def okP (H:Int) (order:List Int) (from_ rank:Nat) (i:Nat) (s:List Int):Prop:=i≠from_∧(s.length:Int) < H∧rank≤mnL order s
def Hea (ss:List (List Int)) (H:Int) (order:List Int) (from_ rank:Nat) (D:Nat→Prop) (out:Int):Prop:=
 (out = -1∧∀ i s,D i→ss[i]? = some s→¬ okP H order from_ rank i s) ∨
 ∃ (i:Nat) (s:List Int),out=(i:Int)∧D i∧ss[i]? = some s∧okP H order from_ rank i s∧∀ j t,D j→ss[j]? = some t→okP H order from_ rank j t→mnL order s≤mnL order t∧(mnL order s=mnL order t→i≤j)
theorem Hea.uniq {ss:List (List Int)} {H:Int} {order:List Int} {from_ rank:Nat} {D E:Nat→Prop} (h0:∀ i,i < ss.length→(D i ↔ E i)) {a b:Int} (ha:Hea ss H order from_ rank D a) (hb:Hea ss H order from_ rank E b):a=b:=by
 have lt:∀ {i s},ss[i]? = some s→i < ss.length:=fun h=>(Ey h).1
 rcases ha with ⟨rfl,h1⟩ | ⟨i,s,rfl,d1,g1,o1,h1⟩
 ·rcases hb with ⟨rfl,_⟩ | ⟨j,t,rfl,d2,g2,o2,h2⟩
  ·rfl
  ·exact absurd o2 (h1 j t ((h0 j (lt g2)).2 d2) g2)
 ·rcases hb with ⟨rfl,h2⟩ | ⟨j,t,rfl,d2,g2,o2,h2⟩
  ·exact absurd o1 (h2 i s ((h0 i (lt g1)).1 d1) g1)
  ·have p1:=h1 j t ((h0 j (lt g2)).2 d2) g2 o2
   have p2:=h2 i s ((h0 i (lt g1)).1 d1) g1 o1
   have e:mnL order s=mnL order t:=by omega
   have:=p1.2 e
   have:=p2.2 e.symm
   have:i=j:=by omega
   rw [this]
theorem Q7e {ss:List (List Int)} {H:Int} {order:List Int} (hr:Jz ss H) (ho:order.length≤1000000) (from_ rank:Nat):Wp (Rj ⟨ss,H⟩ order (from_:Int) (rank:Int)) (Hea ss H order from_ rank (fun _=>True)):=by
 unfold Rj
 refine Q3 (fun pre s=>Hea ss H order from_ rank (fun i=>i < pre.length) s.1∧∀ (i:Nat) t,s.1=(i:Int)→ss[i]? = some t→s.2=(mnL order t:Int)) ⟨.inl ⟨rfl,fun i s h=>by simp at h⟩,fun i t h=>by dsimp only at h; omega⟩ (fun pre x post s nx e hI a1=>?_) (fun s hI=>Hj ?_)
 ·have e:ss=pre++x::post:=e
  have hx:ss[pre.length]? = some x:=by rw [e]; simp
  have a2:=hr.fit x (Ka hx)
  obtain⟨hB,hv⟩:=hI
  refine H42 (fun r=>Hea ss H order from_ rank (fun i=>i < (pre++[x]).length) r.1∧∀ (i:Nat) t,r.1=(i:Int)→ss[i]? = some t→r.2=(mnL order t:Int)) (fun K hK=>?_) (fun a ha=>a1 _ ha)
  rw [Kj,Kk] at hK
  -- no, or not better
  have stay:(okP H order from_ rank pre.length x→0≤s.1∧s.2≤(mnL order x:Int))→Wp (K (s.1,s.2)) _:=fun h8=>hK _ ⟨by
   rcases hB with ⟨h1,h2⟩ | ⟨i,t,h1,h2,h3,h4,h5⟩
   ·refine .inl ⟨h1,fun j u hj hu=>?_⟩
    by_cases ej:j=pre.length
    ·subst ej
     rw [hx] at hu; cases hu
     intro ho
     have:=(h8 ho).1; omega
    ·exact h2 j u (by omega) hu
   ·refine .inr ⟨i,t,h1,by omega,h3,h4,fun j u hj hu h9=>?_⟩
    by_cases ej:j=pre.length
    ·subst ej
     rw [hx] at hu; cases hu
     have g1:=(h8 h9).2
     rw [hv i t h1 h3] at g1
     exact⟨by omega,fun _=>by omega⟩
    ·exact h5 j u (by omega) hu h9,hv⟩
  refine Hi (fun h=>stay fun h0=>?_) (fun h=>?_)
  ·simp only [Ku,Kn] at h
   have:=h0.1; have:=h0.2.1
   omega
  ·simp only [Kv,decide_eq_false_iff_not] at h
   refine Q4 (by omega) ?_
   refine Q3 (fun pr z=>z=(mnL order pr:Int)) (by unfold mnL; simp) (fun pr b po z nx' e' hJ a0=>?_) (fun z hJ=>?_)
   ·subst hJ
    refine Gn (H86 order b) (a0 _ ?_)
    rw [Q11]; omega
   ·have hJ:z=(mnL order x:Int):=hJ
    subst hJ
    refine Hi (fun h2=>hK _ ⟨.inr ⟨pre.length,x,rfl,by omega,hx,⟨by omega,by omega,?_⟩,fun j t hj ht h0=>?_⟩,fun i t hi ht=>?_⟩) (fun h2=>stay fun h0=>?_)
    ·simp only [Km,Ku,Kn] at h2; omega
    ·simp only [Km,Ku,Kn] at h2
     by_cases ej:j=pre.length
     ·subst ej
      rw [hx] at ht; cases ht
      exact⟨Kc,fun _=>Kc⟩
     ·rcases hB with ⟨h3,h4⟩ | ⟨i,u,h3,h4,h5,h6,h7⟩
      ·exact absurd h0 (h4 j t (by omega) ht)
      ·have g1:=h7 j t (by omega) ht h0
       have g2:=hv i u h3 h5
       rw [g2] at h2
       exact⟨by omega,fun _=>by omega⟩
    ·have hi:(pre.length:Int)=(i:Int):=hi
     have:i=pre.length:=by omega
     subst this
     rw [hx] at ht; cases ht; rfl
    ·have:=h0.2.2
     simp only [Bool.and_eq_false_iff,Kv,decide_eq_false_iff_not] at h2
     omega
 ·have hI:Hea ss H order from_ rank (fun i=>i < ss.length) s.1:=hI.1
  rcases hI with ⟨h1,h2⟩ | ⟨i,t,h1,h2,h3,h4,h5⟩
  ·exact .inl ⟨h1,fun j u _ hu=>h2 j u (Ey hu).1 hu⟩
  ·exact .inr ⟨i,t,h1,trivial,h3,h4,fun j u _ hu=>h5 j u (Ey hu).1 hu⟩
theorem Ja2 {order s:List Int} (ho:order.length≤1000000):Rk s order=some (mnL order s:Int):=by
 refine Ra ?_
 unfold Rk
 refine Q4 (by omega) (Q3 (fun pr z=>z=(mnL order pr:Int)) (by unfold mnL; simp) (fun pr b po z nx' e' hJ h0=>?_) (fun z hJ=>Hj hJ))
 subst hJ
 refine H42 (fun r=>r=(mnL order (pr++[b]):Int)) (fun K hK=>?_) (fun a ha=>h0 _ ha)
 rw [Q11] at hK
 refine Gn (Gb8 order b) (Hi (fun h=>Gn (Gb8 order b) (hK _ ?_)) (fun h=>hK _ ?_))
 ·have:=Eu h; omega
 ·have:=Ev h; omega
theorem Q07 {F:Nat} (hF:400 < F) {ss:List (List Int)} {H:Int} {order:List Int} (hr:Jz ss H) (ho:order.length≤1000000) (from_:Nat) (box:Int):Wp (Qf F ⟨ss,H⟩ order (from_:Int) box) (Hea ss H order from_ (rnk order box) (fun _=>True)):=by
 unfold Qf
 have h9:=hr.most
 have a0:=hr.some_
 refine Q4 (by dsimp only; omega) ?_
 refine wp_loop (fun z=>∃ k:Nat,z.2=(k:Int) - 1∧k≤ss.length∧Hea ss H order from_ (rnk order box) (fun i=>k≤i) z.1) (fun z=>(z.2+1).toNat) ⟨ss.length,rfl,Kc,.inl ⟨rfl,fun i s h1 h2=>by have:=(Ey h2).1; omega⟩⟩ (by dsimp only; omega) (fun z nx hz h8=>?_)
 obtain⟨out,kz⟩:=z
 obtain⟨k,hk,a1,hB⟩:=hz
 have hk:kz=(k:Int) - 1:=hk
 subst hk
 have hB:Hea ss H order from_ (rnk order box) (fun i=>k≤i) out:=hB
 refine Hi (fun h=>?_) (fun h=>Hj ?_)
 ·have h:(0:Int)≤(k:Int) - 1:=Eu h
  obtain⟨m,rfl⟩:∃ m,k=m+1:=⟨k - 1,by omega⟩
  have em:((m+1:Nat):Int) - 1=(m:Int):=by omega
  have hx:ss[m]? = some ss[m]:=Ez (by omega)
  dsimp only
  rw [em]
  refine H42 (fun r=>Hea ss H order from_ (rnk order box) (fun i=>m≤i) r) (fun K hK=>?_) (fun a ha=>Q4 (by omega) (h8 _ ⟨m,by dsimp only,by omega,ha⟩ (by dsimp only; omega)))
  have skip:(okP H order from_ (rnk order box) m ss[m]→∃ (i:Nat) (t:List Int),out=(i:Int)∧ss[i]? = some t∧mnL order t < mnL order ss[m])→Wp (K out) _:=fun h7=>hK _ (by
   rcases hB with ⟨h1,h2⟩ | ⟨i,t,h1,h2,h3,h4,h5⟩
   ·refine .inl ⟨h1,fun j u hj hu=>?_⟩
    by_cases ej:j=m
    ·subst ej
     rw [hx] at hu; cases hu
     intro ho
     obtain⟨i,t,g1,_⟩:=h7 ho
     omega
    ·exact h2 j u (by omega) hu
   ·refine .inr ⟨i,t,h1,by omega,h3,h4,fun j u hj hu h6=>?_⟩
    by_cases ej:j=m
    ·subst ej
     rw [hx] at hu; cases hu
     obtain⟨i',t',g1,g2,g3⟩:=h7 h6
     have:i=i':=by omega
     subst this
     rw [h3] at g2; cases g2
     exact⟨by omega,fun _=>by omega⟩
    ·exact h5 j u (by omega) hu h6)
  refine Ju rfl hx (Gn (Ja2 ho) ?_)
  by_cases c1:(m:Int)≠(from_:Int)
  case neg=>
   have e1:decide ((m:Int)≠(from_:Int))=false:=Ex c1
   rw [e1]
   exact Gn (x:=default) rfl (Gn (x:=default) rfl (Gn (x:=default) rfl (Gn (x:=default) rfl (Hi (fun h=>by cases h) (fun _=>skip fun h0=>absurd h0.1 (by omega))))))
  have e1:decide ((m:Int)≠(from_:Int))=true:=Ew c1
  rw [e1]
  refine G7e rfl (Gcb hx _) ?_
  by_cases c2:(ss[m].length:Int) < H
  case neg=>
   have e2:decide ((ss[m].length:Int) < H)=false:=Ex c2
   rw [e2]
   exact Gn (x:=default) rfl (Gn (x:=default) rfl (Gn (x:=default) rfl (Hi (fun h=>by cases h) (fun _=>skip fun h0=>absurd h0.2.1 c2))))
  have e2:decide ((ss[m].length:Int) < H)=true:=Ew c2
  rw [e2]
  refine G7e rfl (Gb8 order box) ?_
  by_cases c3:(rnk order box:Int)≤(mnL order ss[m]:Int)
  case neg=>
   have e3:decide ((rnk order box:Int)≤(mnL order ss[m]:Int))=false:=Ex c3
   rw [e3]
   exact Gn (x:=default) rfl (Gn (x:=default) rfl (Hi (fun h=>by cases h) (fun _=>skip fun h0=>absurd h0.2.2 (by omega))))
  have e3:decide ((rnk order box:Int)≤(mnL order ss[m]:Int))=true:=Ew c3
  rw [e3]
  have h0:okP H order from_ (rnk order box) m ss[m]:=⟨by omega,c2,by omega⟩
  rcases hB with ⟨h1,h2⟩ | ⟨i,t,h1,h2,h3,h4,h5⟩
  ·subst h1
   refine Gn (x:=default) rfl (Gn (x:=default) rfl (Hi (fun _=>hK _ (.inr ⟨m,ss[m],rfl,Kc,hx,h0,fun j u hj hu h6=>?_⟩)) (fun h=>by cases h)))
   by_cases ej:j=m
   ·subst ej
    rw [hx] at hu; cases hu
    exact⟨Kc,fun _=>Kc⟩
   ·exact absurd h6 (h2 j u (by omega) hu)
  ·subst h1
   have e4:decide ((i:Int) < 0)=false:=Ex (by omega)
   rw [e4]
   refine G7e rfl (Gcb h3 _) (G7e rfl (Ja2 ho) (Hi (fun h=>hK _ (.inr ⟨m,ss[m],rfl,Kc,hx,h0,fun j u hj hu h6=>?_⟩)) (fun h=>skip fun _=>⟨i,t,rfl,h3,?_⟩)))
   ·simp only [Bool.true_and,Bool.false_or,Kn] at h
    by_cases ej:j=m
    ·subst ej
     rw [hx] at hu; cases hu
     exact⟨Kc,fun _=>Kc⟩
    ·have:=h5 j u (by omega) hu h6
     exact⟨by omega,fun _=>by omega⟩
   ·simp only [Bool.true_and,Bool.false_or,decide_eq_false_iff_not] at h
    omega
 ·have h:¬ (0:Int)≤(k:Int) - 1:=Ev h
  have:k=0:=by omega
  subst this
  rcases hB with ⟨h1,h2⟩ | ⟨i,t,h1,h2,h3,h4,h5⟩
  ·exact .inl ⟨h1,fun j u _ hu=>h2 j u (Nat.zero_le _) hu⟩
  ·exact .inr ⟨i,t,h1,trivial,h3,h4,fun j u _ hu=>h5 j u (Nat.zero_le _) hu⟩
theorem places {F:Nat} (hF:400 < F) {ss:List (List Int)} {H:Int} {order:List Int} (hr:Jz ss H) (ho:order.length≤1000000) (from_:Nat) (box:Int):∃ v,Rj ⟨ss,H⟩ order (from_:Int) (rnk order box:Int)=some v∧Qf F ⟨ss,H⟩ order (from_:Int) box=some v∧Hea ss H order from_ (rnk order box) (fun _=>True) v:=by
 obtain⟨v,h1,h2⟩:=Q7e hr ho from_ (rnk order box)
 obtain⟨u,h3,h4⟩:=Q07 hF hr ho from_ box
 have:=Hea.uniq (fun i _=>Iff.rfl) h2 h4
 subst this
 exact⟨v,h1,h3,h2⟩


/-! ### Which moves come first -/
def ltM (a b:G5):Prop:=a.From < b.From∨(a.From=b.From∧a.To < b.To)
def Q19:List G5→List G5→Prop
 | a::p,b::q=>ltM a b∨(a=b∧Q19 p q)
 | _,_=>False
def slt (p q:List G5):Prop:=p.length < q.length∨(p.length=q.length∧Q19 p q)
def sle (p q:List G5):Prop:=p=q∨slt p q
theorem Qf1 {a b c:G5} (h:ltM a b) (g:ltM b c):ltM a c:=by unfold ltM at *; omega
theorem J5e:∀ {p q r:List G5},Q19 p q→Q19 q r→Q19 p r
 | a::p,b::q,c::r,h,g=>by
  rcases h with h | ⟨rfl,h⟩
  ·rcases g with g | ⟨rfl,g⟩
   ·exact .inl (Qf1 h g)
   ·exact .inl h
  ·rcases g with g | ⟨rfl,g⟩
   ·exact .inl g
   ·exact .inr ⟨rfl,J5e h g⟩
 | [],_,_,h,_=>h.elim
 | _::_,[],_,h,_=>h.elim
 | _::_,_::_,[],_,g=>g.elim
theorem Qe3 {p q r:List G5} (h:slt p q) (g:slt q r):slt p r:=by
 rcases h with h | ⟨h1,h2⟩
 ·rcases g with g | ⟨g1,g2⟩
  ·exact .inl (by omega)
  ·exact .inl (by omega)
 ·rcases g with g | ⟨g1,g2⟩
  ·exact .inl (by omega)
  ·exact .inr ⟨by omega,J5e h2 g2⟩
theorem H72 {p q r:List G5} (h:sle p q) (g:sle q r):sle p r:=by
 rcases h with rfl | h
 ·exact g
 ·rcases g with rfl | g
  ·exact .inr h
  ·exact .inr (Qe3 h g)
theorem Q18 {a b:List G5}:∀ {p q:List G5},Q19 p q→Q19 (p++a) (q++b)
 | x::p,y::q,h=>by
  rcases h with h | ⟨rfl,h⟩
  ·exact .inl h
  ·exact .inr ⟨rfl,Q18 h⟩
 | [],_,h=>h.elim
 | _::_,[],h=>h.elim
theorem Jaf {m m':G5} (h:ltM m m'):∀ p:List G5,Q19 (p++[m]) (p++[m'])
 | []=>.inl h
 | x::p=>.inr ⟨rfl,Jaf h p⟩
theorem Qac {p q:List G5} {m m':G5} (h:slt p q):slt (p++[m]) (q++[m']):=by
 rcases h with h | ⟨h1,h2⟩
 ·exact .inl (by rw [Kj,Kj,Kk,Kk]; omega)
 ·exact .inr ⟨by rw [Kj,Kj,Kk,Kk,h1],Q18 h2⟩
theorem R18 {m m':G5} (h:ltM m m') (p:List G5):slt (p++[m]) (p++[m']):=.inr ⟨by simp,Jaf h p⟩
theorem R6d {p q:List G5} {m:G5} (h:sle p q):sle (p++[m]) (q++[m]):=by
 rcases h with rfl | h
 ·exact .inl rfl
 ·exact .inr (Qac h)
theorem R6c (p q:List G5):sle p (p++q):=by
 cases q with
 | nil=>exact .inl (by simp)
 | cons x q=>exact .inr (.inl (by rw [Kj,Kf]; omega))

/-! ### Moves that can be done -/
def run (h:Nat):List (List Int)→List G5→Option (List (List Int))
 | ss,[]=>some ss
 | ss,m::p=>if (Hq ss h m).2=0 then run h (Hq ss h m).1 p else none
theorem J4c {h:Nat} {m:G5}:∀ {p:List G5} {ss t:List (List Int)},run h ss (p++[m])=some t ↔ ∃ u,run h ss p=some u∧(Hq u h m).2=0∧(Hq u h m).1=t
 | [],ss,t=>by
  show (if (Hq ss h m).2=0 then some (Hq ss h m).1 else none)=some t ↔ _
  constructor
  ·intro g
   split at g
   ·rename_i h0; exact⟨ss,rfl,h0,K0 g⟩
   ·cases g
  ·rintro⟨u,hu,h0,rfl⟩
   cases hu
   rw [if_pos h0]
 | x::p,ss,t=>by
  rw [List.cons_append,run,run]
  split
  ·exact J4c
  ·exact⟨fun g=>(by cases g),fun⟨u,hu,_⟩=>(by cases hu)⟩
theorem Qee {ss:List (List Int)} {h:Nat} {m:G5} (h0:(Hq ss h m).2=0):(m,(Hq ss h m).1)∈G74 ss h:=by
 rcases G44 ss h m with h' | ⟨f,t,a,b,x,c⟩
 ·exact(h' h0).elim
 ·have h3:=(Ey c.hf).1
  have h4:=(Ey c.ht).1
  have e:m=⟨(f:Int),(t:Int)⟩:=by
   obtain⟨p,q⟩:=m
   have h1:p=(f:Int):=c.from_
   have h2:q=(t:Int):=c.to_
   rw [h1,h2]
  unfold G74 H3a
  refine List.mem_flatMap.2 ⟨f,List.mem_range.2 h3,?_⟩
  unfold H11
  refine List.mem_flatMap.2 ⟨t,List.mem_range.2 h4,?_⟩
  unfold G39
  rw [← e,if_pos h0]
  exact Kr.2 rfl
theorem J14 (ss:List (List Int)) (h a:Nat):∀ m,(H11 ss h a m).Pairwise (fun x y=>ltM x.1 y.1)∧∀ x∈H11 ss h a m,x.1.From=(a:Int)∧x.1.To < (m:Int)
 | 0=>⟨by simp [H11],by simp [H11]⟩
 | m+1=>by
  obtain⟨h1,h2⟩:=J14 ss h a m
  have h3:∀ x∈G39 ss h a m,x.1=⟨(a:Int),(m:Int)⟩:=fun x hx=>by
   unfold G39 at hx
   split at hx
   ·rw [Kr] at hx; rw [hx]
   ·simp at hx
  rw [H75]
  refine⟨List.pairwise_append.2 ⟨h1,?_,fun x hx y hy=>?_⟩,fun x hx=>?_⟩
  ·unfold G39; split <;> simp
  ·have:=h2 x hx
   rw [h3 y hy]
   exact .inr ⟨this.1,this.2⟩
  ·rcases Kp.1 hx with hx | hx
   ·have:=h2 x hx; exact⟨this.1,by omega⟩
   ·rw [h3 x hx]; exact⟨rfl,by show (m:Int) < ((m+1:Nat):Int); omega⟩
theorem Jd5 (ss:List (List Int)) (h:Nat):(G74 ss h).Pairwise (fun x y=>ltM x.1 y.1):=by
 have key:∀ m,(H3a ss h ss.length m).Pairwise (fun x y=>ltM x.1 y.1)∧∀ x∈H3a ss h ss.length m,x.1.From < (m:Int):=by
  intro m
  induction m with
  | zero=>exact⟨by simp [H3a],by simp [H3a]⟩
  | succ m ih=>
   obtain⟨h1,h2⟩:=J14 ss h m ss.length
   rw [H84]
   refine⟨List.pairwise_append.2 ⟨ih.1,h1,fun x hx y hy=>?_⟩,fun x hx=>?_⟩
   ·have:=ih.2 x hx
    have:=(h2 y hy).1
    exact .inl (by omega)
   ·rcases Kp.1 hx with hx | hx
    ·have:=ih.2 x hx; omega
    ·have:=(h2 x hx).1; omega
 exact(key _).1

/-! ### The search with the ways it came -/
structure H3c (h:Nat) (order:List Int) (ss:List (List Int)) (all:List Ge) (ps:List (List G5)) (at_:Nat):Prop where
 len:ps.length=all.length
 node:∀ (i:Nat) z p,all[i]? = some z→ps[i]? = some p→run h ss p=some z.y.Stacks
 inc:∀ (i j:Nat) p q,i < j→ps[i]? = some p→ps[j]? = some q→slt p q
 root:ps[0]? = some []
 par:∀ (j:Nat) z q,0 < j→all[j]? = some z→ps[j]? = some q→∃ (i:Nat) (p:List G5),i < at_∧z.from_=(i:Int)∧ps[i]? = some p∧q=p++[mv z.by_]
 cl:∀ (i:Nat) z p,i < at_→all[i]? = some z→ps[i]? = some p→∀ m,(Hq z.y.Stacks h m).2=0→∃ (j:Nat) (z':Ge) (q:List G5),all[j]? = some z'∧ps[j]? = some q∧z'.y.Stacks=(Hq z.y.Stacks h m).1∧sle q (p++[m])
 uns:∀ (i:Nat) z,i < at_→all[i]? = some z→Q0 order z.y.Stacks≠[]
structure J23 (h:Nat) (order:List Int) (ss:List (List Int)) (all:List Ge) (ps:List (List G5)) (at_:Nat) (za:Ge) (pa:List G5) (pre:List (G5×List (List Int))):Prop where
 hza:all[at_]? = some za
 hpa:ps[at_]? = some pa
 len:ps.length=all.length
 node:∀ (i:Nat) z p,all[i]? = some z→ps[i]? = some p→run h ss p=some z.y.Stacks
 inc:∀ (i j:Nat) p q,i < j→ps[i]? = some p→ps[j]? = some q→slt p q
 root:ps[0]? = some []
 par:∀ (j:Nat) z q,0 < j→all[j]? = some z→ps[j]? = some q→∃ (i:Nat) (p:List G5),z.from_=(i:Int)∧ps[i]? = some p∧q=p++[mv z.by_]∧(i < at_∨(i=at_∧∃ x∈pre,x.1=mv z.by_))
 cl:∀ (i:Nat) z p,i < at_→all[i]? = some z→ps[i]? = some p→∀ m,(Hq z.y.Stacks h m).2=0→∃ (j:Nat) (z':Ge) (q:List G5),all[j]? = some z'∧ps[j]? = some q∧z'.y.Stacks=(Hq z.y.Stacks h m).1∧sle q (p++[m])
 cla:∀ x∈pre,∃ (j:Nat) (z':Ge) (q:List G5),all[j]? = some z'∧ps[j]? = some q∧z'.y.Stacks=x.2∧sle q (pa++[x.1])
 uns:∀ (i:Nat) z,i < at_→all[i]? = some z→Q0 order z.y.Stacks≠[]
theorem G48 {α:Type} {l:List α} {i:Nat} {x:α} (h:l[i]? = some x):i < l.length:=(Ey h).1
theorem J23.step {h:Nat} {order:List Int} {ss:List (List Int)} {all:List Ge} {ps:List (List G5)} {at_:Nat} {za:Ge} {pa:List G5} {pre:List (G5×List (List Int))} (hS:J23 h order ss all ps at_ za pa pre) {H:Int} {x:G5×List (List Int)}
  (hx:(Hq za.y.Stacks h x.1).2=0∧x.2=(Hq za.y.Stacks h x.1).1) (h7:∀ y∈pre,ltM y.1 x.1):∃ ps',J23 h order ss (addN H (at_:Int) all x) ps' at_ za pa (pre++[x]):=by
 -- all ways so far are ahead of this one
 have below:∀ (j:Nat) q,ps[j]? = some q→slt q (pa++[x.1]):=fun j q hq=>by
  by_cases hj:j=0
  ·subst hj
   rw [hS.root] at hq
   have hq:=K0 hq
   subst hq
   exact .inl (by rw [Kj,Kk,List.length_nil]; omega)
  ·have h8:j < all.length:=by rw [← hS.len]; exact G48 hq
   obtain⟨i,p,h1,h2,h3,h4⟩:=hS.par j _ q (by omega) (Ez h8) hq
   rw [h3]
   rcases h4 with h4 | ⟨rfl,y,hy,e⟩
   ·exact Qac (hS.inc i at_ p pa h4 h2 hS.hpa)
   ·rw [hS.hpa] at h2
    have h2:=K0 h2
    subst h2
    rw [← e]
    exact R18 (h7 y hy) pa
 have a3:=G48 hS.hza
 unfold addN
 split
 ·rename_i h9
  obtain⟨z,hz,e⟩:=h9
  obtain⟨j,hj⟩:=List.mem_iff_getElem?.1 hz
  have h5:j < ps.length:=by rw [hS.len]; exact G48 hj
  refine⟨ps,hS.hza,hS.hpa,hS.len,hS.node,hS.inc,hS.root,fun j z q h0 h1 h2=>?_,hS.cl,fun y hy=>?_,hS.uns⟩
  ·obtain⟨i,p,g1,g2,g3,g4⟩:=hS.par j z q h0 h1 h2
   exact⟨i,p,g1,g2,g3,g4.imp id fun⟨a,y,hy,e⟩=>⟨a,y,Kp.2 (.inl hy),e⟩⟩
  ·rcases Kp.1 hy with hy | hy
   ·exact hS.cla y hy
   ·rw [Kr] at hy
    subst hy
    exact⟨j,z,ps[j],hj,Ez h5,e,.inr (below j _ (Ez h5))⟩
 ·obtain⟨z,hz⟩:∃ z:Ge,z=⟨⟨x.2,H⟩,(at_:Int),⟨x.1.From,x.1.To⟩⟩:=⟨_,rfl⟩
  rw [← hz]
  have h6:mv z.by_=x.1:=by rw [hz]; rfl
  have old:∀ {i:Nat} {z':Ge},(all++[z])[i]? = some z'→(i < all.length∧all[i]? = some z')∨(i=all.length∧z'=z):=fun {i z'} g=>by
   rcases Er i all.length with hl | hl
   ·rw [Ke hl] at g; exact .inl ⟨hl,g⟩
   ·have:=G48 g
    rw [Kj,Kk] at this
    have e:i=all.length:=by omega
    subst e
    rw [Kd hl,Nat.sub_self] at g
    exact .inr ⟨rfl,(K0 g).symm⟩
  have oldp:∀ {i:Nat} {q:List G5},(ps++[pa++[x.1]])[i]? = some q→(i < ps.length∧ps[i]? = some q)∨(i=ps.length∧q=pa++[x.1]):=fun {i q} g=>by
   rcases Er i ps.length with hl | hl
   ·rw [Ke hl] at g; exact .inl ⟨hl,g⟩
   ·have:=G48 g
    rw [Kj,Kk] at this
    have e:i=ps.length:=by omega
    subst e
    rw [Kd hl,Nat.sub_self] at g
    exact .inr ⟨rfl,(K0 g).symm⟩
  have up:∀ {i:Nat} {z':Ge},all[i]? = some z'→(all++[z])[i]? = some z':=fun g=>by rw [Ke (G48 g)]; exact g
  have upp:∀ {i:Nat} {q:List G5},ps[i]? = some q→(ps++[pa++[x.1]])[i]? = some q:=fun g=>by rw [Ke (G48 g)]; exact g
  have newz:(all++[z])[all.length]? = some z:=by simp
  have newp:(ps++[pa++[x.1]])[all.length]? = some (pa++[x.1]):=by rw [← hS.len]; simp
  have hl:=hS.len
  refine⟨ps++[pa++[x.1]],up hS.hza,upp hS.hpa,by rw [Kj,Kj,hl,Kk,Kk],fun i z' p h1 h2=>?_,fun i j p q a0 h1 h2=>?_,upp hS.root,fun j z' q h0 h1 h2=>?_,fun i z' p hi h1 h2 m hm=>?_,fun y hy=>?_,fun i z' hi h1=>?_⟩
  ·rcases old h1 with ⟨a1,a2⟩ | ⟨rfl,rfl⟩
   ·rcases oldp h2 with ⟨b1,b2⟩ | ⟨rfl,rfl⟩
    ·exact hS.node i z' p a2 b2
    ·omega
   ·rcases oldp h2 with ⟨b1,b2⟩ | ⟨_,rfl⟩
    ·omega
    ·refine J4c.2 ⟨za.y.Stacks,hS.node at_ za pa hS.hza hS.hpa,hx.1,?_⟩
     rw [hz]; exact hx.2.symm
  ·rcases oldp h1 with ⟨a1,a2⟩ | ⟨rfl,rfl⟩
   ·rcases oldp h2 with ⟨b1,b2⟩ | ⟨rfl,rfl⟩
    ·exact hS.inc i j p q a0 a2 b2
    ·exact below i p a2
   ·have:=G48 h2
    rw [Kj,Kk] at this
    omega
  ·rcases old h1 with ⟨a1,a2⟩ | ⟨rfl,rfl⟩
   ·rcases oldp h2 with ⟨b1,b2⟩ | ⟨rfl,rfl⟩
    ·obtain⟨i,p,g1,g2,g3,g4⟩:=hS.par j z' q h0 a2 b2
     exact⟨i,p,g1,upp g2,g3,g4.imp id fun⟨a,y,hy,e⟩=>⟨a,y,Kp.2 (.inl hy),e⟩⟩
    ·omega
   ·rcases oldp h2 with ⟨b1,b2⟩ | ⟨_,rfl⟩
    ·omega
    ·exact⟨at_,pa,by rw [hz],upp hS.hpa,by rw [h6],.inr ⟨rfl,x,by simp,h6.symm⟩⟩
  ·rcases old h1 with ⟨a1,a2⟩ | ⟨rfl,rfl⟩
   ·rcases oldp h2 with ⟨b1,b2⟩ | ⟨rfl,rfl⟩
    ·obtain⟨j,z2,q,g1,g2,g3,g4⟩:=hS.cl i z' p hi a2 b2 m hm
     exact⟨j,z2,q,up g1,upp g2,g3,g4⟩
    ·omega
   ·omega
  ·rcases Kp.1 hy with hy | hy
   ·obtain⟨j,z2,q,g1,g2,g3,g4⟩:=hS.cla y hy
    exact⟨j,z2,q,up g1,upp g2,g3,g4⟩
   ·rw [Kr] at hy
    subst hy
    exact⟨all.length,z,_,newz,newp,by rw [hz],.inl rfl⟩
  ·rcases old h1 with ⟨a1,a2⟩ | ⟨rfl,rfl⟩
   ·exact hS.uns i z' hi a2
   ·omega
theorem J23.steps {h:Nat} {order:List Int} {ss:List (List Int)} {H:Int} {at_:Nat} {za:Ge} {pa:List G5}:∀ (l:List (G5×List (List Int))) {all:List Ge} {ps:List (List G5)} {pre:List (G5×List (List Int))},J23 h order ss all ps at_ za pa pre→(∀ x∈l,(Hq za.y.Stacks h x.1).2=0∧x.2=(Hq za.y.Stacks h x.1).1)→(pre++l).Pairwise (fun x y=>ltM x.1 y.1) →
  ∃ ps',J23 h order ss (G49 H (at_:Int) all l) ps' at_ za pa (pre++l)
 | [],all,ps,pre,hS,_,_=>⟨ps,by rw [List.append_nil]; exact hS⟩
 | x::l,all,ps,pre,hS,hl,ho=>by
  have h0:=List.pairwise_append.1 ho
  obtain⟨ps1,h1⟩:=hS.step (H:=H) (hl x (List.mem_cons_self ..)) (fun y hy=>h0.2.2 y hy x (List.mem_cons_self ..))
  have e:pre++x::l=(pre++[x])++l:=by simp
  obtain⟨ps2,h2⟩:=J23.steps l h1 (fun y hy=>hl y (List.mem_cons_of_mem _ hy)) (by rw [← e]; exact ho)
  exact⟨ps2,by rw [e]; exact h2⟩
theorem H3c.next {h:Nat} {order:List Int} {ss:List (List Int)} {all:List Ge} {ps:List (List G5)} {at_:Nat} (hS:H3c h order ss all ps at_) {za:Ge} (hza:all[at_]? = some za) (hw:Q0 order za.y.Stacks≠[]) (H:Int):∃ ps',H3c h order ss (G49 H (at_:Int) all (G74 za.y.Stacks h)) ps' (at_+1):=by
 have h3:=G48 hza
 have hpa:ps[at_]? = some (ps[at_]'(by rw [hS.len]; exact h3)):=Ez _
 obtain⟨ps',hM⟩:=J23.steps (H:=H) (G74 za.y.Stacks h) (pre:=[]) ⟨hza,hpa,hS.len,hS.node,hS.inc,hS.root,fun j z q h0 h1 h2=>by
  obtain⟨i,p,g1,g2,g3,g4⟩:=hS.par j z q h0 h1 h2
  exact⟨i,p,g2,g3,g4,.inl g1⟩,hS.cl,fun x hx=>by simp at hx,hS.uns⟩ (fun x hx=>by
   obtain⟨a,b,_,_,_,h0,e⟩:=Jaa hx
   exact⟨h0,e⟩) (by rw [List.nil_append]; exact Jd5 _ _)
 rw [List.nil_append] at hM
 refine⟨ps',hM.len,hM.node,hM.inc,hM.root,fun j z q h0 h1 h2=>?_,fun i z p hi h1 h2 m hm=>?_,fun i z hi h1=>?_⟩
 ·obtain⟨i,p,g1,g2,g3,g4⟩:=hM.par j z q h0 h1 h2
  exact⟨i,p,by rcases g4 with g4 | ⟨g4,_⟩ <;> omega,g1,g2,g3⟩
 ·by_cases e:i=at_
  ·subst e
   rw [hM.hza] at h1; cases h1
   rw [hM.hpa] at h2; cases h2
   exact hM.cla _ (Qee hm)
  ·exact hM.cl i z p (by omega) h1 h2 m hm
 ·by_cases e:i=at_
  ·subst e
   rw [hM.hza] at h1; cases h1
   exact hw
  ·exact hM.uns i z (by omega) h1
theorem H3c.cover {h:Nat} {order:List Int} {ss:List (List Int)} {all:List Ge} {ps:List (List G5)} {at_:Nat} (hS:H3c h order ss all ps at_):∀ (n:Nat) (q:List G5) (t:List (List Int)),q.length=n→run h ss q=some t →
  (∃ (i:Nat) (z:Ge) (p:List G5),all[i]? = some z∧ps[i]? = some p∧z.y.Stacks=t∧sle p q)∨∃ (k:Nat) (z:Ge) (p q1 q2:List G5),at_≤k∧all[k]? = some z∧ps[k]? = some p∧q=q1++q2∧sle p q1
 | 0,q,t,hn,hr=>by
  have:q=[]:=En hn
  subst this
  have hl:=G48 hS.root
  rw [hS.len] at hl
  have h0:=hS.node 0 _ [] (Ez hl) hS.root
  rw [hr] at h0
  exact .inl ⟨0,_,[],Ez hl,hS.root,(K0 h0).symm,.inl rfl⟩
 | n+1,q,t,hn,hr=>by
  rcases List.eq_nil_or_concat q with rfl | ⟨q0,m,rfl⟩
  ·simp at hn
  rw [List.concat_eq_append] at hn hr ⊢
  obtain⟨u,hu,h0,ht⟩:=J4c.1 hr
  rcases hS.cover n q0 u (by rw [Kj,Kk] at hn; omega) hu with ⟨i,z,p,h1,h2,h3,h4⟩ | ⟨k,z,p,q1,q2,h1,h2,h3,h4,h5⟩
  ·rcases Er i at_ with hi | hi
   ·obtain⟨j,z',q',g1,g2,g3,g4⟩:=hS.cl i z p hi h1 h2 m (by rw [h3]; exact h0)
    exact .inl ⟨j,z',q',g1,g2,by rw [g3,h3]; exact ht,H72 g4 (R6d h4)⟩
   ·exact .inr ⟨i,z,p,q0,[m],hi,h1,h2,rfl,h4⟩
  ·exact .inr ⟨k,z,p,q1,q2++[m],h1,h2,h3,by rw [h4,List.append_assoc],h5⟩
theorem H3c.le {h:Nat} {order:List Int} {ss:List (List Int)} {all:List Ge} {ps:List (List G5)} {at_:Nat} (hS:H3c h order ss all ps at_) {i j:Nat} {p q:List G5} (h0:i≤j) (hp:ps[i]? = some p) (hq:ps[j]? = some q):sle p q:=by
 rcases Er i j with hl | hl
 ·exact .inr (hS.inc i j p q hl hp hq)
 ·have:i=j:=by omega
  subst this
  rw [hp] at hq
  exact .inl (K0 hq)
theorem H3c.first {h:Nat} {order:List Int} {ss:List (List Int)} {all:List Ge} {ps:List (List G5)} {at_:Nat} (hS:H3c h order ss all ps at_) {p:List G5} (hp:ps[at_]? = some p) {q:List G5} {t:List (List Int)} (hr:run h ss q=some t) (hw:Q0 order t=[]):sle p q:=by
 rcases hS.cover q.length q t rfl hr with ⟨i,z,p',h1,h2,h3,h4⟩ | ⟨k,z,p',q1,q2,h1,h2,h3,h4,h5⟩
 ·have hi:at_≤i:=Nat.le_of_not_lt fun hl=>hS.uns i z hl h1 (by rw [h3]; exact hw)
  exact H72 (hS.le hi hp h2) h4
 ·rw [h4]
  exact H72 (H72 (hS.le h1 hp h3) h5) (R6c q1 q2)
theorem H3c.back {h:Nat} {order:List Int} {ss:List (List Int)} {all:List Ge} {ps:List (List G5)} {at_:Nat} (hS:H3c h order ss all ps at_):∀ {i:Nat} {l:List G9},J82 all i l→∀ {p:List G5},ps[i]? = some p→p=(l.map mv).reverse
 | _,_,.stop,p,hp=>by rw [hS.root] at hp; exact(K0 hp).symm
 | i,_,.go (z:=z) (j:=j) (l:=l) hz h0 hf hj hb,p,hp=>by
  obtain⟨k,p',g1,g2,g3,g4⟩:=hS.par i z p h0 hz hp
  have:k=j:=by omega
  subst this
  have:=hS.back hb g3
  rw [g4,this]; simp
theorem H3c.start {h:Nat} {order:List Int} {ss:List (List Int)} {z:Ge} (hz:z.y.Stacks=ss):H3c h order ss [z] [[]] 0:=by
 refine⟨rfl,fun i z' p h1 h2=>?_,fun i j p q h3 h1 h2=>?_,rfl,fun j z' q h0 h1=>?_,fun i z' p hi=>by omega,fun i z' hi=>by omega⟩
 ·have:=G48 h1
  have e:i=0:=by simpa using this
  subst e
  simp at h1 h2
  subst h1 h2
  rw [hz]; rfl
 ·have:=G48 h2
  simp at this; omega
 ·have:=G48 h1
  simp at this; omega
end Go.Proofs.Ytokjlondbjdlfaa
