/-
 Check; The search for the fewest moves:
-/
import Derived.Test.YtokjlondbjdlfaaAwake36
import Derived.Test.YtokjlondbjdlfaaXF
set_option maxRecDepth 100000
set_option linter.unusedVariables false
namespace Go.Proofs.Ytokjlondbjdlfaa
open Go.RowKit

theorem G59 {α β:Type} {Q:β→Prop} {c:Bool} {m d:Option α} {x:α} {k:α→Option β} (hc:c=true) (e:m=some x) (h:Wp (k x) Q):Wp (bnd (bif c then m else d) k) Q:=by
 subst hc
 exact He e h
theorem Q16 {α β:Type} {Q:β→Prop} {c:Bool} {m:Option α} {x:α} {k:α→Option β} (hc:c=false) (h:Wp (k x) Q):Wp (bnd (bif c then m else some x) k) Q:=by
 subst hc
 exact h
theorem Jab (y:Gp):Wp (Qs y) (fun r=>r=true→(∀ s∈y.Stacks,s.length≤10)∧y.Stacks.length≤32):=by
 unfold Qs
 refine Qf (fun pre s=>∀ x∈pre,x.length≤10) (by simp) (fun pre x post s nx e hI h0=>?_) (fun s hI=>Hs fun h=>⟨hI,by have:=Er h; omega⟩)
 refine Jt (fun h=>Hs (fun h=>by cases h)) (fun h=>h0 _ fun z hz=>?_)
 have h:=Es h
 rcases Kn.1 hz with hz | hz
 ·exact hI z hz
 ·rw [Kp] at hz; subst hz; omega
theorem J50 (l:List G5):Jn l l=some true:=by
 unfold Jn
 refine Q1b (fun i y nx hy=>?_)
 rw [J63 hy,Eu rfl]; rfl

/-! ### A list the other way round -/
theorem rev_at {α:Type} (l:List α) {q:Nat} (h:q < l.length):l.reverse[q]? = l[l.length - 1 - q]? := List.getElem?_reverse h
theorem Q05 {F:Nat} {s:List G5} (hF:s.length < F) (hl:s.length≤10000000):Q8 F s=some s.reverse:=by
 refine Yi ?_
 unfold Q8
 refine Yj (by omega) ?_
 refine wp_loop (fun z=>∃ k:Nat,z.1=(k:Int)∧z.2.1=(s.length:Int) - 1 - k∧2*k≤s.length∧z.2.2.length=s.length∧∀ q,q < s.length→z.2.2[q]? = if q < k∨s.length≤q+k then s[s.length - 1 - q]? else s[q]?) (fun z=>s.length - z.1.toNat) ⟨0,rfl,by simp,by omega,rfl,fun q hq=>by rw [if_neg (by omega)]⟩ (by dsimp only; omega) (fun z nx hz h4=>?_)
 obtain⟨i,j,cur⟩:=z
 obtain⟨k,hi,hj,hk,h0,hc⟩:=hz
 have hi:i=(k:Int):=hi
 have hj:j=(s.length:Int) - 1 - k:=hj
 subst hi
 refine Jt (fun h=>?_) (fun h=>Hs ?_)
 ·have h:(k:Int) < j:=Er h
  have h7:k+1 < s.length - k:=by omega
  obtain⟨m,hm⟩:∃ m:Nat,m=s.length - 1 - k:=⟨_,rfl⟩
  have h5:j=(m:Int):=by omega
  subst h5
  have h1:m < cur.length:=by
   have h0:cur.length=s.length:=h0
   omega
  have h2:k < cur.length:=by
   have h0:cur.length=s.length:=h0
   omega
  have h6:k≠m:=by omega
  have gm:cur[m]? = s[m]? := by rw [hc m (by omega),if_neg (by omega)]
  have gk:cur[k]? = s[k]? := by rw [hc k (by omega),if_neg (by omega)]
  have vm:cur[m]? = some cur[m]:=Ex h1
  have vk:cur[k]? = some cur[k]:=Ex h2
  have tk:((k:Int)).toNat=k:=by omega
  have tm:((m:Int)).toNat=m:=by omega
  refine Rj rfl vm (Rj rfl vk (Rj rfl vk ?_))
  dsimp only
  rw [tk]
  refine Rj (m:=m) (x:=cur[m]) rfl (by rw [List.getElem?_set_ne h6]; exact vm) (Yj (by omega) (Yj (by omega) (h4 _ ⟨k+1,by dsimp only; omega,by dsimp only; omega,by omega,?_,fun q hq=>?_⟩ (by dsimp only; omega))))
  ·dsimp only
   rw [List.length_set,List.length_set]; exact h0
  ·dsimp only
   rw [tm]
   by_cases e1:q=m
   ·subst e1
    rw [List.getElem?_set_self (by rw [List.length_set]; exact h1),if_pos (by omega),← vk,gk]
    congr 1; omega
   ·rw [List.getElem?_set_ne (Ne.symm e1)]
    by_cases e2:q=k
    ·subst e2
     rw [List.getElem?_set_self h2,if_pos (by omega),← vm,gm]
     congr 1 <;> omega
    ·rw [List.getElem?_set_ne (Ne.symm e2),hc q hq]
     by_cases h3:q < k∨s.length≤q+k
     ·rw [if_pos h3,if_pos (by omega)]
     ·rw [if_neg h3,if_neg (by omega)]
 ·have h:¬ (k:Int) < j:=Es h
  have h0:cur.length=s.length:=h0
  refine List.ext_getElem? fun q=>?_
  rcases Eo q s.length with hq | hq
  ·rw [hc q hq,rev_at s hq]
   by_cases h3:q < k∨s.length≤q+k
   ·rw [if_pos h3]
   ·rw [if_neg h3]; congr 1; omega
  ·rw [List.getElem?_eq_none (by omega),List.getElem?_eq_none (by rw [List.length_reverse]; exact hq)]

/-! ### The way back to the first yard -/
inductive Jad (all:List Gd):Nat→List G8→Prop
 | stop:Jad all 0 []
 | go {i j:Nat} {z:Gd} {l:List G8} (hz:all[i]? = some z) (hi:0 < i) (hf:z.from_=(j:Int)) (hj:j < i) (h:Jad all j l):Jad all i (z.by_::l)
theorem Q35 {boxes:List Int} {n:Nat} {H:Int} {all:List Gd} (hA:Met boxes n H all):∀ (k i:Nat),i≤k→i < all.length→∃ l,Jad all i l∧l.length≤i
 | k,0,_,_=>⟨[],.stop,by simp⟩
 | 0,i+1,h,_=>by omega
 | k+1,i+1,hk,hi=>by
  obtain⟨j,hf,hj⟩:=hA.from_ (i+1) _ (Ex hi) (by omega)
  obtain⟨l,h1,h2⟩:=Q35 hA k j (by omega) (by omega)
  exact⟨_,.go (Ex hi) (by omega) hf hj h1,by rw [Kd]; omega⟩
def cv (boxes:List Int) (z:Gd):Gq:=⟨G68 boxes z.y.Stacks,z.from_,mv z.by_⟩
theorem R02 {boxes:List Int} {n:Nat} {H:Int} {all:List Gd} (hA:Met boxes n H all) {G:Nat} (hG:8000000 < G):∀ (f i:Nat) {l:List G8} {out:List G5},Jad all i l→i < f→i < all.length→out.length+l.length≤8000000 →
  loop (fun nx156 (s156:Int×(List G5))=>Qn (all.map (cv boxes)) s156.1 fun y159=>bif decide (0≤y159.from_) then (Qn (all.map (cv boxes)) s156.1 fun y162=>need (decide ((s156.2.length+[y162.by_].length)*16≤140737488355328∧s156.2.length+[y162.by_].length≤maxLen)) <| Qn (all.map (cv boxes)) s156.1 fun y165=>nx156 (y165.from_,(s156.2++[y162.by_]))) else (bnd (Q8 G s156.2) fun r168=>some (r168,(0:Int)))) f ((i:Int),out)=some ((out++l.map mv).reverse,0)
 | 0,i,l,out,h,hf,_,_=>by omega
 | f+1,_,_,out,.stop,hf,hi,hl=>by
  obtain⟨z,hz,h1⟩:=hA.first
  refine Yi ?_
  rw [loop]
  refine Rj (m:=0) (x:=cv boxes z) rfl (by rw [Ke,hz]; rfl) ?_
  have hd:decide (0≤(cv boxes z).from_)=false:=Ev (by show ¬ 0≤z.from_; omega)
  rw [hd,cond_false]
  simp only [List.length_nil,Nat.add_zero] at hl
  refine He (Q05 (by dsimp only; omega) (by dsimp only; omega)) (Hs ?_)
  simp
 | f+1,i,_,out,.go (z:=z) (j:=j) (l:=l) hz h0 h2 hj h,hf,hi,hl=>by
  refine Yi ?_
  rw [loop]
  have hg:(all.map (cv boxes))[i]? = some (cv boxes z):=by rw [Ke,hz]; rfl
  have hd:decide (0≤(cv boxes z).from_)=true:=Eu (by show 0≤z.from_; omega)
  rw [Kd] at hl
  refine Rj rfl hg ?_
  rw [hd,cond_true]
  refine Rj rfl hg (Qk (G28 (by dsimp only; rw [Ki]; omega) (by decide)) (Rj rfl hg ?_))
  have e:(cv boxes z).from_=(j:Int):=h2
  rw [e]
  refine⟨_,R02 hA hG f j (out:=out++[(cv boxes z).by_]) h (by omega) (by omega) (by rw [Kh,Ki]; omega),?_⟩
  show ((out++[mv z.by_]++l.map mv).reverse,(0:Int))=((out++mv z.by_::l.map mv).reverse,0)
  rw [List.append_assoc]; rfl
theorem R01 {boxes:List Int} {n:Nat} {H:Int} {all:List Gd} (hA:Met boxes n H all):∀ (f i:Nat) {l acc:List G8},Jad all i l→i < f→acc.length+l.length≤8000000 →
  loop (fun nx37 (s37:(List G8)×Int)=>bif decide (0 < s37.2) then (Qn all s37.2 fun y41=>need (decide (([y41.by_].length+s37.1.length)*16≤140737488355328∧[y41.by_].length+s37.1.length≤maxLen)) <| Qn all s37.2 fun y43=>nx37 (([y41.by_]++s37.1),y43.from_)) else (some (s37.1,(0:Int)))) f (acc,(i:Int))=some (l.reverse++acc,0)
 | 0,i,l,acc,h,hf,_=>by omega
 | f+1,_,_,acc,.stop,hf,hl=>by
  rw [loop]; rfl
 | f+1,i,_,acc,.go (z:=z) (j:=j) (l:=l) hz h0 h1 hj h,hf,hl=>by
  refine Yi ?_
  rw [loop]
  rw [Kd] at hl
  have hd:decide (0 < ((acc,(i:Int)):(List G8)×Int).2)=true:=Eu (by dsimp only; omega)
  rw [hd,cond_true]
  refine Rj rfl hz (Qk (G28 (by rw [Ki]; dsimp only; omega) (by decide)) (Rj rfl hz ?_))
  rw [h1]
  refine⟨_,R01 hA f j (acc:=[z.by_]++acc) h (by omega) (by rw [Kh,Ki]; omega),?_⟩
  simp

/-! ### The map of what is met -/
def R2d (boxes:List Int) (m:Q0 Gn Int) (all:List Gd):Prop:=∀ s,Q0.has m s=true ↔ ∃ z∈all,G68 boxes z.y.Stacks=s
theorem Q9e {κ ν:Type} [DecidableEq κ] (m:Q0 κ ν) (a b:κ) (v:ν):Q0.has (Q0.put m a v) b=(decide (a=b)||Q0.has m b):=by
 unfold Q0.has Q0.put
 rw [← G50,← G50,H34]
 by_cases h:a=b <;> simp [h]
theorem R19 {boxes:List Int} {n:Nat} {H:Int} {at_:Nat} {β:Type} {Q:β→Prop} {K:(List Gq)×(Q0 Gn Int)→Option β}:∀ (l:List (G5×List (List Int))) {all:List Gd} {met:Q0 Gn Int} (i:Nat),Met boxes n H all→at_ < all.length→(∀ x∈l,SmY boxes n H x.2)→R2d boxes met all→all.length+l.length≤9000000 →
  (∀ met',R2d boxes met' (G3b H (at_:Int) all l)→Wp (K ((G3b H (at_:Int) all l).map (cv boxes),met')) Q) →
  Wp (each (fun(y109:G5×Gn) i109 (s109:(List Gq)×(Q0 Gn Int)) nx109=>bnd (some (Q0.get s109.2 y109.2 0)) fun v112=>bif (!(Q0.has s109.2 y109.2)) then (need (decide ((s109.1.length+[(Gq.mk y109.2 (at_:Int) y109.1)].length)*48≤140737488355328∧s109.1.length+[(Gq.mk y109.2 (at_:Int) y109.1)].length≤maxLen)) <| nx109 ((s109.1++[(Gq.mk y109.2 (at_:Int) y109.1)]),(Q0.put s109.2 y109.2 (s109.1.length:Int)))) else (nx109 (s109.1,s109.2))) K (l.map (J0b boxes)) i (all.map (cv boxes),met)) Q
 | [],all,met,i,hA,h0,hl,hm,hn,h=>h met hm
 | x::l,all,met,i,hA,h0,hl,hm,hn,h=>by
  have hx:=hl x (List.mem_cons_self ..)
  rw [Kd] at hn
  have h3:Q0.has met (G68 boxes x.2)=true ↔ ∃ z∈all,z.y.Stacks=x.2:=(hm _).trans ⟨fun⟨z,h1,h2⟩=>⟨z,h1,Qde (hA.ok z h1).1 hx h2⟩,fun⟨z,h1,h2⟩=>⟨z,h1,by rw [h2]⟩⟩
  have h4:=hA.addN h0 hx
  have ea:G3b H (at_:Int) all (x::l)=G3b H (at_:Int) (addN H (at_:Int) all x) l:=rfl
  rw [ea] at h
  rw [List.map_cons,each]
  refine He rfl (Jt (fun hf=>?_) (fun hf=>?_))
  ·have h6:¬ ∃ z∈all,z.y.Stacks=x.2:=fun g=>by
    have hf:(!(Q0.has met (G68 boxes x.2)))=true:=hf
    rw [h3.2 g] at hf; cases hf
   have en:addN H (at_:Int) all x=all++[⟨⟨x.2,H⟩,at_,⟨x.1.From,x.1.To⟩⟩]:=if_neg h6
   rw [en] at h h4
   refine Qk (G28 (by rw [Km,Ki]; omega) (by decide)) ?_
   have ec:all.map (cv boxes)++[Gq.mk (J0b boxes x).2 (at_:Int) (J0b boxes x).1]=(all++[(⟨⟨x.2,H⟩,at_,⟨x.1.From,x.1.To⟩⟩:Gd)]).map (cv boxes):=by rw [List.map_append]; rfl
   rw [ec]
   refine R19 l (i+1) h4 (by rw [Kh]; omega) (fun y hy=>hl y (List.mem_cons_of_mem _ hy)) (fun s=>?_) (by rw [Kh,Ki]; omega) h
   rw [Q9e,Ks,Kk,hm s]
   constructor
   ·rintro(g | ⟨z,h1,h2⟩)
    ·exact⟨_,Kn.2 (.inr (Kp.2 rfl)),g⟩
    ·exact⟨z,Kn.2 (.inl h1),h2⟩
   ·rintro⟨z,h1,h2⟩
    rcases Kn.1 h1 with h1 | h1
    ·exact .inr ⟨z,h1,h2⟩
    ·rw [Kp] at h1; subst h1; exact .inl h2
  ·have h5:∃ z∈all,z.y.Stacks=x.2:=by
    have hf:(!(Q0.has met (G68 boxes x.2)))=false:=hf
    exact h3.1 (by simpa using hf)
   have en:addN H (at_:Int) all x=all:=if_pos h5
   rw [en] at h
   exact R19 l (i+1) hA h0 (fun y hy=>hl y (List.mem_cons_of_mem _ hy)) hm (by omega) h
end Go.Proofs.Ytokjlondbjdlfaa
