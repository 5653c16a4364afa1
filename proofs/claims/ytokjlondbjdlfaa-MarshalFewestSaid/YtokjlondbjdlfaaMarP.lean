/-
 Yards are told apart by their bytes and by where their boxes Check of program and reference. The search for the fewest moves: Way and place of program and reference; The search,from yard to yard. Moves one af the other;
-/
import Derived.Test.YtokjlondbjdlfaaMarG
set_option maxRecDepth 100000
set_option linter.unusedVariables false
namespace Go.Proofs.Ytokjlondbjdlfaa
open Go.RowKit

theorem Q5e:∀ (n:Nat) (l:List Nat),l.Nodup→(∀ x∈l,x < n)→l.length≤n
 | 0,l,_,h=>by
  cases l with
  | nil=>simp
  | cons x r=>exact absurd (h x (by simp)) (by omega)
 | n+1,l,hn,h=>by
  have h1:=Q5e n (l.filter (fun x=>decide (x≠n))) (hn.filter _) (fun x hx=>by
   have:=Kq.1 hx
   have h2:=h x this.1
   have h3:=Ep this.2
   omega)
  have h2:l.count n≤1:=List.nodup_iff_count.1 hn n
  have h3:=List.length_eq_countP_add_countP (fun x=>decide (x≠n)) (l:=l)
  rw [← List.countP_eq_length_filter] at h1
  have h4:l.countP (fun a=>decide (¬ decide (a≠n)=true))=l.count n:=by
   unfold List.count
   congr 1
   funext a
   by_cases e:a=n <;> simp [e]
  rw [h4] at h3
  omega

theorem Ja6 {n:Nat} {a b:List (List Int)} (ha:a.length=n) (hb:b.length=n) (h:∀ i k,i < n→cellAt a i k=cellAt b i k):a=b:=by
 refine List.ext_getElem (by omega) fun i h1 h2=>List.ext_getElem? fun k=>?_
 have:=h i k (by omega)
 rw [G5b (Ew h1),G5b (Ew h2)] at this
 exact this
theorem SmY.Ge4 {boxes:List Int} {n:Nat} {H:Int} {ss:List (List Int)} (h:SmY boxes n H ss) {i k:Nat} {b:Int} (hc:cellAt ss i k=some b):i < n∧k < 6∧b∈boxes:=by
 unfold cellAt at hc
 obtain⟨s,hs,hk⟩:=Option.bind_eq_some_iff.1 hc
 have hi:=(Ev hs).1
 rw [h.len] at hi
 obtain⟨s',h0,h6,_,hb⟩:=h.at_ hi
 rw [hs] at h0; cases h0
 have:=(Ev hk).1
 exact⟨hi,by omega,hb b (Ey hk)⟩
theorem code_inj {boxes:List Int} {o p:Option Int} (ho:∀ b,o=some b→b∈boxes) (hp:∀ b,p=some b→b∈boxes) (h:codeOf boxes o=codeOf boxes p):o=p:=by
 cases o with
 | none=>
  cases p with
  | none=>rfl
  | some b=>simp only [codeOf] at h; omega
 | some a=>
  cases p with
  | none=>simp only [codeOf] at h; omega
  | some b=>
   simp only [codeOf] at h
   have e:boxes.idxOf a=boxes.idxOf b:=by omega
   have ha:=ho a rfl
   have hb:=hp b rfl
   have h1:=List.getElem_idxOf (List.idxOf_lt_length_of_mem ha)
   have h2:=List.getElem_idxOf (List.idxOf_lt_length_of_mem hb)
   have:boxes[boxes.idxOf a]? = boxes[boxes.idxOf b]? := by rw [e]
   rw [Ew (List.idxOf_lt_length_of_mem ha),Ew (List.idxOf_lt_length_of_mem hb),h1,h2] at this
   exact this
theorem R57 {boxes:List Int} {n:Nat} {H:Int} {a b:List (List Int)} (ha:SmY boxes n H a) (hb:SmY boxes n H b) (h:G88 boxes a=G88 boxes b):a=b:=by
 refine Ja6 ha.len hb.len fun i k hi=>?_
 have h0:=ha.few
 by_cases hk:k < 6
 ·refine code_inj (fun x hx=>(ha.Ge4 hx).2.2) (fun x hx=>(hb.Ge4 hx).2.2) ?_
  have:=congrArg (fun z:Gu=>z.g (i*6+k*1)) h
  have h2:(G88 boxes a).g (i*6+k*1)=(G88 boxes b).g (i*6+k*1):=this
  rw [Ja3 boxes a (by omega) hk,Ja3 boxes b (by omega) hk] at h2
  exact h2
 ·have no:∀ {ss},SmY boxes n H ss→cellAt ss i k=none:=fun {ss} hs=>by
   cases hc:cellAt ss i k with
   | none=>rfl
   | some x=>exact absurd (hs.Ge4 hc).2.1 hk
  rw [no ha,no hb]

/-! ### Where the boxes stand -/
theorem H21 {b:Int}:∀ {ss:List (List Int)} {o i k:Nat} {s:List Int},ss.flatten.Nodup→ss[i]? = some s→s[k]? = some b→G49 b ss o=(((o+i:Nat):Int),(k:Int),true)
 | [],o,i,k,s,_,h,_=>by simp at h
 | x::ss,o,0,k,s,hn,h,hk=>by
  simp at h; subst h
  have hm:b∈x:=Ey hk
  rw [G49,if_pos hm]
  have hx:x.Nodup:=(List.nodup_append.1 (by rw [List.flatten_cons] at hn; exact hn)).1
  have hl:=(Ev hk).1
  have h1:x[k]=b:=by rw [Ew hl] at hk; exact Ex hk
  have:x.idxOf b=k:=by
   have hi:=List.idxOf_lt_length_of_mem hm
   exact(List.getElem?_inj hi hx).1 (by rw [Ew hi,List.getElem_idxOf hi,hk])
  rw [this]; simp
 | x::ss,o,i+1,k,s,hn,h,hk=>by
  rw [List.flatten_cons] at hn
  have h0:=List.nodup_append.1 hn
  have h:ss[i]? = some s:=by simpa using h
  have hm:b∈ss.flatten:=List.mem_flatten.2 ⟨s,Ey h,Ey hk⟩
  have hx:b ∉ x:=fun hb=>h0.2.2 b hb b hm rfl
  rw [G49,if_neg hx,H21 h0.2.1 h hk]
  simp only [Prod.mk.injEq,and_true]
  omega
theorem J44 {b:Int} {ss:List (List Int)} (h:b∈ss.flatten):∃ i k,cellAt ss i k=some b:=by
 obtain⟨s,hs,hb⟩:=List.mem_flatten.1 h
 obtain⟨i,hi⟩:=List.mem_iff_getElem?.1 hs
 obtain⟨k,hk⟩:=List.mem_iff_getElem?.1 hb
 exact⟨i,k,by rw [G5b hi]; exact hk⟩
def J7e (ss:List (List Int)) (b:Int):Nat:=(G49 b ss 0).1.toNat*6+(G49 b ss 0).2.1.toNat
theorem Hdd {boxes:List Int} {n:Nat} {H:Int} {ss:List (List Int)} (h:SmY boxes n H ss) {i k:Nat} {b:Int} (hc:cellAt ss i k=some b):J7e ss b=i*6+k:=by
 unfold cellAt at hc
 obtain⟨s,hs,hk⟩:=Option.bind_eq_some_iff.1 hc
 unfold J7e
 rw [H21 h.right.nodup hs hk]
 dsimp only
 omega
theorem Jbc {boxes:List Int} {n:Nat} {H:Int} {ss:List (List Int)} (h:SmY boxes n H ss) {b:Int} (hb:b∈boxes):J7e ss b < 24:=by
 obtain⟨i,k,hc⟩:=J44 ((h.in_ b).2 hb)
 have:=h.Ge4 hc
 have:=h.few
 rw [Hdd h hc]; omega
def H49 (ss:List (List Int)):List Int→Nat
 | []=>0
 | b::r=>J7e ss b+24*H49 ss r
theorem Q07 {boxes:List Int} {n:Nat} {H:Int} {ss:List (List Int)} (h:SmY boxes n H ss):∀ l:List Int,(∀ b∈l,b∈boxes)→H49 ss l < 24 ^ l.length
 | [],_=>by simp [H49]
 | b::r,hl=>by
  have h1:=Jbc h (hl b (List.mem_cons_self ..))
  have h2:=Q07 h r (fun x hx=>hl x (List.mem_cons_of_mem _ hx))
  rw [H49,Kc,Nat.pow_succ]
  omega
theorem Ja5 {boxes:List Int} {n:Nat} {H:Int} {a c:List (List Int)} (ha:SmY boxes n H a) (hc:SmY boxes n H c):∀ l:List Int,(∀ b∈l,b∈boxes)→H49 a l=H49 c l→∀ b∈l,J7e a b=J7e c b
 | [],_,_,b,hb=>by simp at hb
 | x::r,hl,h,b,hb=>by
  rw [H49,H49] at h
  have h1:=Jbc ha (hl x (List.mem_cons_self ..))
  have h2:=Jbc hc (hl x (List.mem_cons_self ..))
  have e1:J7e a x=J7e c x:=by omega
  rcases Kp.1 hb with rfl | hb
  ·exact e1
  ·exact Ja5 ha hc r (fun x hx=>hl x (List.mem_cons_of_mem _ hx)) (by omega) b hb
theorem Qea {boxes:List Int} {n:Nat} {H:Int} {a c:List (List Int)} (ha:SmY boxes n H a) (hc:SmY boxes n H c) (h:H49 a boxes=H49 c boxes):a=c:=by
 have hp:=Ja5 ha hc boxes (fun _ h=>h) h
 have one:∀ {a c:List (List Int)},SmY boxes n H a→SmY boxes n H c→(∀ b∈boxes,J7e a b=J7e c b)→∀ i k b,cellAt a i k=some b→cellAt c i k=some b:=fun {a c} ha hc hp i k b h3=>by
  have hl:=ha.Ge4 h3
  obtain⟨i',k',h0⟩:=J44 ((hc.in_ b).2 hl.2.2)
  have h4:=hc.Ge4 h0
  have e:=hp b hl.2.2
  rw [Hdd ha h3,Hdd hc h0] at e
  have e1:i=i':=by omega
  have e2:k=k':=by omega
  rw [e1,e2]; exact h0
 refine Ja6 ha.len hc.len fun i k _=>?_
 cases h1:cellAt a i k with
 | some b=>exact(one ha hc hp i k b h1).symm
 | none=>
  cases h2:cellAt c i k with
  | none=>rfl
  | some b=>rw [one hc ha (fun b hb=>(hp b hb).symm) i k b h2] at h1; cases h1

/-! ### What is met -/
structure Met (boxes:List Int) (n:Nat) (H:Int) (all:List Gb):Prop where
 ok:∀ z∈all,SmY boxes n H z.y.Stacks∧z.y.Height=H
 nodup:(all.map (·.y.Stacks)).Nodup
 first:∃ z,all[0]? = some z∧z.from_ = -1
 from_:∀ (i:Nat) z,all[i]? = some z→0 < i→∃ j:Nat,z.from_=(j:Int)∧j < i
theorem Met.len {boxes:List Int} {n:Nat} {H:Int} {all:List Gb} (h:Met boxes n H all) (hb:boxes.length≤5):all.length≤7962624:=by
 have hn:(all.map fun z=>H49 z.y.Stacks boxes).Nodup:=by
  have:=h.nodup
  unfold List.Nodup at this ⊢
  rw [List.pairwise_map] at this ⊢
  exact this.imp_of_mem fun {a c} ha hc h0 e=>h0 (Qea (h.ok a ha).1 (h.ok c hc).1 e)
 have:=Q5e 7962624 _ hn (fun x hx=>by
  obtain⟨z,hz,rfl⟩:=Kn.1 hx
  have h1:=Q07 (h.ok z hz).1 boxes (fun _ h=>h)
  have h2:24 ^ boxes.length≤24 ^ 5:=Nat.pow_le_pow_right (by decide) hb
  have h3:(24:Nat) ^ 5=7962624:=by decide
  omega)
 rwa [Kk] at this
theorem Met.addN {boxes:List Int} {n:Nat} {H:Int} {all:List Gb} (h:Met boxes n H all) {at_:Nat} (h3:at_ < all.length) {x:G3×List (List Int)} (hx:SmY boxes n H x.2):Met boxes n H (addN H (at_:Int) all x):=by
 unfold Go.Proofs.Ytokjlondbjdlfaa.addN
 split
 ·exact h
 ·rename_i h0
  refine⟨fun z hz=>?_,?_,?_,fun i z hz hi=>?_⟩
  ·rcases Km.1 hz with hz | hz
   ·exact h.ok z hz
   ·rw [Ko] at hz; subst hz; exact⟨hx,rfl⟩
  ·rw [List.map_append]
   refine List.nodup_append.2 ⟨h.nodup,by simp,fun a ha c hc=>?_⟩
   simp only [List.map_cons,List.map_nil,Ko] at hc
   subst hc
   obtain⟨z,hz,rfl⟩:=Kn.1 ha
   exact fun e=>h0 ⟨z,hz,e⟩
  ·obtain⟨z,h1,h2⟩:=h.first
   exact⟨z,by rw [Kb (by omega)]; exact h1,h2⟩
  ·rcases En i all.length with hl | hl
   ·rw [Kb hl] at hz
    exact h.from_ i z hz hi
   ·rw [Ka hl] at hz
    have e:i - all.length=0:=by
     have:=(Ev hz).1
     simp at this; omega
    rw [e] at hz
    simp at hz
    subst hz
    exact⟨at_,rfl,by omega⟩
theorem Met.G3e {boxes:List Int} {n:Nat} {H:Int} {at_:Nat}:∀ (l:List (G3×List (List Int))) {all:List Gb},Met boxes n H all→at_ < all.length→(∀ x∈l,SmY boxes n H x.2)→Met boxes n H (G3e H (at_:Int) all l)
 | [],all,h,_,_=>h
 | x::l,all,h,h0,hl=>by
  have h1:=h.addN h0 (hl x (List.mem_cons_self ..))
  refine Met.G3e l h1 ?_ (fun y hy=>hl y (List.mem_cons_of_mem _ hy))
  unfold Go.Proofs.Ytokjlondbjdlfaa.addN
  split
  ·exact h0
  ·rw [Kg]; omega
theorem H40 {boxes:List Int} {n:Nat} {H:Int} {ss:List (List Int)} (h:SmY boxes n H ss):∀ x∈G6a ss H.toNat,SmY boxes n H x.2:=fun x hx=>by
 obtain⟨a,b,ha,hb,e1,h0,e2⟩:=J98 hx
 rw [e2]
 rcases G39 ss H.toNat x.1 with h' | ⟨f,t,p,q,y,c⟩
 ·exact(h' h0).elim
 ·have hp:=c.perm
  exact⟨G46 h.right h0,by rw [c.eq]; simp [h.len],h.few,fun v=>by rw [c.eq]; exact(hp.mem_iff).trans (h.in_ v)⟩
theorem Qcb {ss:List (List Int)} {h:Nat} (hn:ss.length≤4):(G6a ss h).length≤16:=by
 have key:∀ m,(H23 ss h ss.length m).length≤4*m:=by
  intro m
  induction m with
  | zero=>simp [H23]
  | succ m ih=>rw [H6e,Kg]; have:=Qf4 ss h m ss.length; omega
 have:=key ss.length
 unfold G6a
 omega

theorem G00 {α β:Type} {Q:β→Prop} {c:Bool} {m d:Option α} {x:α} {k:α→Option β} (hc:c=true) (e:m=some x) (h:Wp (k x) Q):Wp (bnd (bif c then m else d) k) Q:=by
 subst hc
 exact Gj e h
theorem J87 {α β:Type} {Q:β→Prop} {c:Bool} {m:Option α} {x:α} {k:α→Option β} (hc:c=false) (h:Wp (k x) Q):Wp (bnd (bif c then m else some x) k) Q:=by
 subst hc
 exact h
theorem G6e (l:List G3):Jk l l=some true:=by
 unfold Jk
 refine Q8a (fun i y nx hy=>?_)
 rw [Gb8 hy,Es rfl]; rfl

/-! ### A list the other way round -/
theorem rev_at {α:Type} (l:List α) {q:Nat} (h:q < l.length):l.reverse[q]? = l[l.length - 1 - q]? := List.getElem?_reverse h
theorem Q72 {F:Nat} {s:List G3} (hF:s.length < F) (hl:s.length≤10000000):Qu F s=some s.reverse:=by
 refine Rj ?_
 unfold Qu
 refine Q0 (by omega) ?_
 refine wp_loop (fun z=>∃ k:Nat,z.1=(k:Int)∧z.2.1=(s.length:Int) - 1 - k∧2*k≤s.length∧z.2.2.length=s.length∧∀ q,q < s.length→z.2.2[q]? = if q < k∨s.length≤q+k then s[s.length - 1 - q]? else s[q]?) (fun z=>s.length - z.1.toNat) ⟨0,rfl,by simp,by omega,rfl,fun q hq=>by rw [if_neg (by omega)]⟩ (by dsimp only; omega) (fun z nx hz h4=>?_)
 obtain⟨i,j,cur⟩:=z
 obtain⟨k,hi,hj,hk,h0,hc⟩:=hz
 have hi:i=(k:Int):=hi
 have hj:j=(s.length:Int) - 1 - k:=hj
 subst hi
 refine Hn (fun h=>?_) (fun h=>Hj ?_)
 ·have h:(k:Int) < j:=Ep h
  have h7:k+1 < s.length - k:=by omega
  obtain⟨m,hm⟩:∃ m:Nat,m=s.length - 1 - k:=⟨_,rfl⟩
  have h5:j=(m:Int):=by omega
  subst h5
  have h1:m < cur.length:=by
   have h0:cur.length=s.length:=h0
   omega
  have h2:k < cur.length:=by
   have h0:cur.length=s.length:=h0
   omega
  have h6:k≠m:=by omega
  have gm:cur[m]? = s[m]? := by rw [hc m (by omega),if_neg (by omega)]
  have gk:cur[k]? = s[k]? := by rw [hc k (by omega),if_neg (by omega)]
  have vm:cur[m]? = some cur[m]:=Ew h1
  have vk:cur[k]? = some cur[k]:=Ew h2
  have tk:((k:Int)).toNat=k:=by omega
  have tm:((m:Int)).toNat=m:=by omega
  refine Qm rfl vm (Qm rfl vk (Qm rfl vk ?_))
  dsimp only
  rw [tk]
  refine Qm (m:=m) (x:=cur[m]) rfl (by rw [List.getElem?_set_ne h6]; exact vm) (Q0 (by omega) (Q0 (by omega) (h4 _ ⟨k+1,by dsimp only; omega,by dsimp only; omega,by omega,?_,fun q hq=>?_⟩ (by dsimp only; omega))))
  ·dsimp only
   rw [List.length_set,List.length_set]; exact h0
  ·dsimp only
   rw [tm]
   by_cases e1:q=m
   ·subst e1
    rw [List.getElem?_set_self (by rw [List.length_set]; exact h1),if_pos (by omega),← vk,gk]
    congr 1; omega
   ·rw [List.getElem?_set_ne (Ne.symm e1)]
    by_cases e2:q=k
    ·subst e2
     rw [List.getElem?_set_self h2,if_pos (by omega),← vm,gm]
     congr 1 <;> omega
    ·rw [List.getElem?_set_ne (Ne.symm e2),hc q hq]
     by_cases h3:q < k∨s.length≤q+k
     ·rw [if_pos h3,if_pos (by omega)]
     ·rw [if_neg h3,if_neg (by omega)]
 ·have h:¬ (k:Int) < j:=Er h
  have h0:cur.length=s.length:=h0
  refine List.ext_getElem? fun q=>?_
  rcases En q s.length with hq | hq
  ·rw [hc q hq,rev_at s hq]
   by_cases h3:q < k∨s.length≤q+k
   ·rw [if_pos h3]
   ·rw [if_neg h3]; congr 1; omega
  ·rw [List.getElem?_eq_none (by omega),List.getElem?_eq_none (by rw [List.length_reverse]; exact hq)]

/-! ### The way back to the first yard -/
inductive J70 (all:List Gb):Nat→List G8→Prop
 | stop:J70 all 0 []
 | go {i j:Nat} {z:Gb} {l:List G8} (hz:all[i]? = some z) (hi:0 < i) (hf:z.from_=(j:Int)) (hj:j < i) (h:J70 all j l):J70 all i (z.by_::l)
theorem Qa3 {boxes:List Int} {n:Nat} {H:Int} {all:List Gb} (hA:Met boxes n H all):∀ (k i:Nat),i≤k→i < all.length→∃ l,J70 all i l∧l.length≤i
 | k,0,_,_=>⟨[],.stop,by simp⟩
 | 0,i+1,h,_=>by omega
 | k+1,i+1,hk,hi=>by
  obtain⟨j,hf,hj⟩:=hA.from_ (i+1) _ (Ew hi) (by omega)
  obtain⟨l,h1,h2⟩:=Qa3 hA k j (by omega) (by omega)
  exact⟨_,.go (Ew hi) (by omega) hf hj h1,by rw [Kc]; omega⟩
def cv (boxes:List Int) (z:Gb):Gv:=⟨G88 boxes z.y.Stacks,z.from_,mv z.by_⟩
theorem R81 {boxes:List Int} {n:Nat} {H:Int} {all:List Gb} (hA:Met boxes n H all) {G:Nat} (hG:8000000 < G):∀ (f i:Nat) {l:List G8} {out:List G3},J70 all i l→i < f→i < all.length→out.length+l.length≤8000000 →
  loop (fun nx156 (s156:Int×(List G3))=>R5 (all.map (cv boxes)) s156.1 fun y159=>bif decide (0≤y159.from_) then (R5 (all.map (cv boxes)) s156.1 fun y162=>need (decide ((s156.2.length+[y162.by_].length)*16≤140737488355328∧s156.2.length+[y162.by_].length≤maxLen)) <| R5 (all.map (cv boxes)) s156.1 fun y165=>nx156 (y165.from_,(s156.2++[y162.by_]))) else (bnd (Qu G s156.2) fun r168=>some (r168,(0:Int)))) f ((i:Int),out)=some ((out++l.map mv).reverse,0)
 | 0,i,l,out,h,hf,_,_=>by omega
 | f+1,_,_,out,.stop,hf,hi,hl=>by
  obtain⟨z,hz,h1⟩:=hA.first
  refine Rj ?_
  rw [loop]
  refine Qm (m:=0) (x:=cv boxes z) rfl (by rw [Kd,hz]; rfl) ?_
  have hd:decide (0≤(cv boxes z).from_)=false:=Eu (by show ¬ 0≤z.from_; omega)
  rw [hd,cond_false]
  simp only [List.length_nil,Nat.add_zero] at hl
  refine Gj (Q72 (by dsimp only; omega) (by dsimp only; omega)) (Hj ?_)
  simp
 | f+1,i,_,out,.go (z:=z) (j:=j) (l:=l) hz h0 h2 hj h,hf,hi,hl=>by
  refine Rj ?_
  rw [loop]
  have hg:(all.map (cv boxes))[i]? = some (cv boxes z):=by rw [Kd,hz]; rfl
  have hd:decide (0≤(cv boxes z).from_)=true:=Es (by show 0≤z.from_; omega)
  rw [Kc] at hl
  refine Qm rfl hg ?_
  rw [hd,cond_true]
  refine Qm rfl hg (Q5 (Zi (by dsimp only; rw [Kh]; omega) (by decide)) (Qm rfl hg ?_))
  have e:(cv boxes z).from_=(j:Int):=h2
  rw [e]
  refine⟨_,R81 hA hG f j (out:=out++[(cv boxes z).by_]) h (by omega) (by omega) (by rw [Kg,Kh]; omega),?_⟩
  show ((out++[mv z.by_]++l.map mv).reverse,(0:Int))=((out++mv z.by_::l.map mv).reverse,0)
  rw [List.append_assoc]; rfl
theorem R7f {boxes:List Int} {n:Nat} {H:Int} {all:List Gb} (hA:Met boxes n H all):∀ (f i:Nat) {l acc:List G8},J70 all i l→i < f→acc.length+l.length≤8000000 →
  loop (fun nx37 (s37:(List G8)×Int)=>bif decide (0 < s37.2) then (R5 all s37.2 fun y41=>need (decide (([y41.by_].length+s37.1.length)*16≤140737488355328∧[y41.by_].length+s37.1.length≤maxLen)) <| R5 all s37.2 fun y43=>nx37 (([y41.by_]++s37.1),y43.from_)) else (some (s37.1,(0:Int)))) f (acc,(i:Int))=some (l.reverse++acc,0)
 | 0,i,l,acc,h,hf,_=>by omega
 | f+1,_,_,acc,.stop,hf,hl=>by
  rw [loop]; rfl
 | f+1,i,_,acc,.go (z:=z) (j:=j) (l:=l) hz h0 h1 hj h,hf,hl=>by
  refine Rj ?_
  rw [loop]
  rw [Kc] at hl
  have hd:decide (0 < ((acc,(i:Int)):(List G8)×Int).2)=true:=Es (by dsimp only; omega)
  rw [hd,cond_true]
  refine Qm rfl hz (Q5 (Zi (by rw [Kh]; dsimp only; omega) (by decide)) (Qm rfl hz ?_))
  rw [h1]
  refine⟨_,R7f hA f j (acc:=[z.by_]++acc) h (by omega) (by rw [Kg,Kh]; omega),?_⟩
  simp

/-! ### The map of what is met -/
def Rb6 (boxes:List Int) (m:Qh Gu Int) (all:List Gb):Prop:=∀ s,Qh.has m s=true ↔ ∃ z∈all,G88 boxes z.y.Stacks=s
theorem R19 {κ ν:Type} [DecidableEq κ] (m:Qh κ ν) (a b:κ) (v:ν):Qh.has (Qh.put m a v) b=(decide (a=b)||Qh.has m b):=by
 unfold Qh.has Qh.put
 rw [← G6b,← G6b,H65]
 by_cases h:a=b <;> simp [h]
theorem R9b {boxes:List Int} {n:Nat} {H:Int} {at_:Nat} {β:Type} {Q:β→Prop} {K:(List Gv)×(Qh Gu Int)→Option β}:∀ (l:List (G3×List (List Int))) {all:List Gb} {met:Qh Gu Int} (i:Nat),Met boxes n H all→at_ < all.length→(∀ x∈l,SmY boxes n H x.2)→Rb6 boxes met all→all.length+l.length≤9000000 →
  (∀ met',Rb6 boxes met' (G3e H (at_:Int) all l)→Wp (K ((G3e H (at_:Int) all l).map (cv boxes),met')) Q) →
  Wp (each (fun(y109:G3×Gu) i109 (s109:(List Gv)×(Qh Gu Int)) nx109=>bnd (some (Qh.get s109.2 y109.2 0)) fun v112=>bif (!(Qh.has s109.2 y109.2)) then (need (decide ((s109.1.length+[(Gv.mk y109.2 (at_:Int) y109.1)].length)*48≤140737488355328∧s109.1.length+[(Gv.mk y109.2 (at_:Int) y109.1)].length≤maxLen)) <| nx109 ((s109.1++[(Gv.mk y109.2 (at_:Int) y109.1)]),(Qh.put s109.2 y109.2 (s109.1.length:Int)))) else (nx109 (s109.1,s109.2))) K (l.map (J57 boxes)) i (all.map (cv boxes),met)) Q
 | [],all,met,i,hA,h0,hl,hm,hn,h=>h met hm
 | x::l,all,met,i,hA,h0,hl,hm,hn,h=>by
  have hx:=hl x (List.mem_cons_self ..)
  rw [Kc] at hn
  have h3:Qh.has met (G88 boxes x.2)=true ↔ ∃ z∈all,z.y.Stacks=x.2:=(hm _).trans ⟨fun⟨z,h1,h2⟩=>⟨z,h1,R57 (hA.ok z h1).1 hx h2⟩,fun⟨z,h1,h2⟩=>⟨z,h1,by rw [h2]⟩⟩
  have h4:=hA.addN h0 hx
  have ea:G3e H (at_:Int) all (x::l)=G3e H (at_:Int) (addN H (at_:Int) all x) l:=rfl
  rw [ea] at h
  rw [List.map_cons,each]
  refine Gj rfl (Hn (fun hf=>?_) (fun hf=>?_))
  ·have h6:¬ ∃ z∈all,z.y.Stacks=x.2:=fun g=>by
    have hf:(!(Qh.has met (G88 boxes x.2)))=true:=hf
    rw [h3.2 g] at hf; cases hf
   have en:addN H (at_:Int) all x=all++[⟨⟨x.2,H⟩,at_,⟨x.1.From,x.1.To⟩⟩]:=if_neg h6
   rw [en] at h h4
   refine Q5 (Zi (by rw [Kk,Kh]; omega) (by decide)) ?_
   have ec:all.map (cv boxes)++[Gv.mk (J57 boxes x).2 (at_:Int) (J57 boxes x).1]=(all++[(⟨⟨x.2,H⟩,at_,⟨x.1.From,x.1.To⟩⟩:Gb)]).map (cv boxes):=by rw [List.map_append]; rfl
   rw [ec]
   refine R9b l (i+1) h4 (by rw [Kg]; omega) (fun y hy=>hl y (List.mem_cons_of_mem _ hy)) (fun s=>?_) (by rw [Kg,Kh]; omega) h
   rw [R19,Kr,Kj,hm s]
   constructor
   ·rintro(g | ⟨z,h1,h2⟩)
    ·exact⟨_,Km.2 (.inr (Ko.2 rfl)),g⟩
    ·exact⟨z,Km.2 (.inl h1),h2⟩
   ·rintro⟨z,h1,h2⟩
    rcases Km.1 h1 with h1 | h1
    ·exact .inr ⟨z,h1,h2⟩
    ·rw [Ko] at h1; subst h1; exact .inl h2
  ·have h5:∃ z∈all,z.y.Stacks=x.2:=by
    have hf:(!(Qh.has met (G88 boxes x.2)))=false:=hf
    exact h3.1 (by simpa using hf)
   have en:addN H (at_:Int) all x=all:=if_pos h5
   rw [en] at h
   exact R9b l (i+1) hA h0 (fun y hy=>hl y (List.mem_cons_of_mem _ hy)) hm (by omega) h
open Go.RowKit Go.Sort Go.Shelf

/-! ### The reference's sort -/
theorem Qa8 {ss:List (List Int)} {H:Int} {order:List Int}:Rz ⟨ss,H⟩ order=some (if Y2 ss H order then (G04 (Q1 order ss),0) else ([],2)):=by
 unfold Rz
 rw [G43,G0c]
 by_cases h:Y2 ss H order
 ·rw [if_pos h,if_pos h,Jc0 h.y.all]; rfl
 ·rw [if_neg h,if_neg h]; rfl
/-! ### The place -/
def mnL (order:List Int) (s:List Int):Nat:=s.foldl (fun m b=>min m (rnk order b)) (order.length+1)
theorem Jf7 (order:List Int) (s:List Int) (b:Int):mnL order (s++[b])=min (mnL order s) (rnk order b):=by
 unfold mnL; rw [List.foldl_append]; rfl
def okP (H:Int) (order:List Int) (from_ rank:Nat) (i:Nat) (s:List Int):Prop:=i≠from_∧(s.length:Int) < H∧rank≤mnL order s
def Hcf (ss:List (List Int)) (H:Int) (order:List Int) (from_ rank:Nat) (D:Nat→Prop) (out:Int):Prop:=
 (out = -1∧∀ i s,D i→ss[i]? = some s→¬ okP H order from_ rank i s) ∨
 ∃ (i:Nat) (s:List Int),out=(i:Int)∧D i∧ss[i]? = some s∧okP H order from_ rank i s∧∀ j t,D j→ss[j]? = some t→okP H order from_ rank j t→mnL order s≤mnL order t∧(mnL order s=mnL order t→i≤j)
theorem Hcf.uniq {ss:List (List Int)} {H:Int} {order:List Int} {from_ rank:Nat} {D E:Nat→Prop} (h0:∀ i,i < ss.length→(D i ↔ E i)) {a b:Int} (ha:Hcf ss H order from_ rank D a) (hb:Hcf ss H order from_ rank E b):a=b:=by
 have lt:∀ {i s},ss[i]? = some s→i < ss.length:=fun h=>(Ev h).1
 rcases ha with ⟨rfl,h1⟩ | ⟨i,s,rfl,d1,g1,o1,h1⟩
 ·rcases hb with ⟨rfl,_⟩ | ⟨j,t,rfl,d2,g2,o2,h2⟩
  ·rfl
  ·exact absurd o2 (h1 j t ((h0 j (lt g2)).2 d2) g2)
 ·rcases hb with ⟨rfl,h2⟩ | ⟨j,t,rfl,d2,g2,o2,h2⟩
  ·exact absurd o1 (h2 i s ((h0 i (lt g1)).1 d1) g1)
  ·have p1:=h1 j t ((h0 j (lt g2)).2 d2) g2 o2
   have p2:=h2 i s ((h0 i (lt g1)).1 d1) g1 o1
   have e:mnL order s=mnL order t:=by omega
   have:=p1.2 e
   have:=p2.2 e.symm
   have:i=j:=by omega
   rw [this]
theorem Q5c {ss:List (List Int)} {H:Int} {order:List Int} (hr:Jq ss H) (ho:order.length≤1000000) (from_ rank:Nat):Wp (Rb ⟨ss,H⟩ order (from_:Int) (rank:Int)) (Hcf ss H order from_ rank (fun _=>True)):=by
 unfold Rb
 refine Jz (fun pre s=>Hcf ss H order from_ rank (fun i=>i < pre.length) s.1∧∀ (i:Nat) t,s.1=(i:Int)→ss[i]? = some t→s.2=(mnL order t:Int)) ⟨.inl ⟨rfl,fun i s h=>by simp at h⟩,fun i t h=>by dsimp only at h; omega⟩ (fun pre x post s nx e hI a1=>?_) (fun s hI=>Hj ?_)
 ·have e:ss=pre++x::post:=e
  have hx:ss[pre.length]? = some x:=by rw [e]; simp
  have a2:=hr.fit x (Ey hx)
  obtain⟨hB,hv⟩:=hI
  refine H2a (fun r=>Hcf ss H order from_ rank (fun i=>i < (pre++[x]).length) r.1∧∀ (i:Nat) t,r.1=(i:Int)→ss[i]? = some t→r.2=(mnL order t:Int)) (fun K hK=>?_) (fun a ha=>a1 _ ha)
  rw [Kg,Kh] at hK
  -- no, or not better
  have stay:(okP H order from_ rank pre.length x→0≤s.1∧s.2≤(mnL order x:Int))→Wp (K (s.1,s.2)) _:=fun h8=>hK _ ⟨by
   rcases hB with ⟨h1,h2⟩ | ⟨i,t,h1,h2,h3,h4,h5⟩
   ·refine .inl ⟨h1,fun j u hj hu=>?_⟩
    by_cases ej:j=pre.length
    ·subst ej
     rw [hx] at hu; cases hu
     intro ho
     have:=(h8 ho).1; omega
    ·exact h2 j u (by omega) hu
   ·refine .inr ⟨i,t,h1,by omega,h3,h4,fun j u hj hu h9=>?_⟩
    by_cases ej:j=pre.length
    ·subst ej
     rw [hx] at hu; cases hu
     have g1:=(h8 h9).2
     rw [hv i t h1 h3] at g1
     exact⟨by omega,fun _=>by omega⟩
    ·exact h5 j u (by omega) hu h9,hv⟩
  refine Hn (fun h=>stay fun h0=>?_) (fun h=>?_)
  ·simp only [Kr,Kj] at h
   have:=h0.1; have:=h0.2.1
   omega
  ·simp only [Ks,decide_eq_false_iff_not] at h
   refine Q0 (by omega) ?_
   refine Jz (fun pr z=>z=(mnL order pr:Int)) (by unfold mnL; simp) (fun pr b po z nx' e' hJ a0=>?_) (fun z hJ=>?_)
   ·subst hJ
    refine Gj (H70 order b) (a0 _ ?_)
    rw [Jf7]; omega
   ·have hJ:z=(mnL order x:Int):=hJ
    subst hJ
    refine Hn (fun h2=>hK _ ⟨.inr ⟨pre.length,x,rfl,by omega,hx,⟨by omega,by omega,?_⟩,fun j t hj ht h0=>?_⟩,fun i t hi ht=>?_⟩) (fun h2=>stay fun h0=>?_)
    ·simp only [Ki,Kr,Kj] at h2; omega
    ·simp only [Ki,Kr,Kj] at h2
     by_cases ej:j=pre.length
     ·subst ej
      rw [hx] at ht; cases ht
      exact⟨K0,fun _=>K0⟩
     ·rcases hB with ⟨h3,h4⟩ | ⟨i,u,h3,h4,h5,h6,h7⟩
      ·exact absurd h0 (h4 j t (by omega) ht)
      ·have g1:=h7 j t (by omega) ht h0
       have g2:=hv i u h3 h5
       rw [g2] at h2
       exact⟨by omega,fun _=>by omega⟩
    ·have hi:(pre.length:Int)=(i:Int):=hi
     have:i=pre.length:=by omega
     subst this
     rw [hx] at ht; cases ht; rfl
    ·have:=h0.2.2
     simp only [Bool.and_eq_false_iff,Ks,decide_eq_false_iff_not] at h2
     omega
 ·have hI:Hcf ss H order from_ rank (fun i=>i < ss.length) s.1:=hI.1
  rcases hI with ⟨h1,h2⟩ | ⟨i,t,h1,h2,h3,h4,h5⟩
  ·exact .inl ⟨h1,fun j u _ hu=>h2 j u (Ev hu).1 hu⟩
  ·exact .inr ⟨i,t,h1,trivial,h3,h4,fun j u _ hu=>h5 j u (Ev hu).1 hu⟩
theorem J91 {order s:List Int} (ho:order.length≤1000000):Rc s order=some (mnL order s:Int):=by
 refine Rj ?_
 unfold Rc
 refine Q0 (by omega) (Jz (fun pr z=>z=(mnL order pr:Int)) (by unfold mnL; simp) (fun pr b po z nx' e' hJ h0=>?_) (fun z hJ=>Hj hJ))
 subst hJ
 refine H2a (fun r=>r=(mnL order (pr++[b]):Int)) (fun K hK=>?_) (fun a ha=>h0 _ ha)
 rw [Jf7] at hK
 refine Gj (Ga7 order b) (Hn (fun h=>Gj (Ga7 order b) (hK _ ?_)) (fun h=>hK _ ?_))
 ·have:=Ep h; omega
 ·have:=Er h; omega
theorem Jee {F:Nat} (hF:400 < F) {ss:List (List Int)} {H:Int} {order:List Int} (hr:Jq ss H) (ho:order.length≤1000000) (from_:Nat) (box:Int):Wp (Qd F ⟨ss,H⟩ order (from_:Int) box) (Hcf ss H order from_ (rnk order box) (fun _=>True)):=by
 unfold Qd
 have h9:=hr.most
 have a0:=hr.some_
 refine Q0 (by dsimp only; omega) ?_
 refine wp_loop (fun z=>∃ k:Nat,z.2=(k:Int) - 1∧k≤ss.length∧Hcf ss H order from_ (rnk order box) (fun i=>k≤i) z.1) (fun z=>(z.2+1).toNat) ⟨ss.length,rfl,K0,.inl ⟨rfl,fun i s h1 h2=>by have:=(Ev h2).1; omega⟩⟩ (by dsimp only; omega) (fun z nx hz h8=>?_)
 obtain⟨out,kz⟩:=z
 obtain⟨k,hk,a1,hB⟩:=hz
 have hk:kz=(k:Int) - 1:=hk
 subst hk
 have hB:Hcf ss H order from_ (rnk order box) (fun i=>k≤i) out:=hB
 refine Hn (fun h=>?_) (fun h=>Hj ?_)
 ·have h:(0:Int)≤(k:Int) - 1:=Ep h
  obtain⟨m,rfl⟩:∃ m,k=m+1:=⟨k - 1,by omega⟩
  have em:((m+1:Nat):Int) - 1=(m:Int):=by omega
  have hx:ss[m]? = some ss[m]:=Ew (by omega)
  dsimp only
  rw [em]
  refine H2a (fun r=>Hcf ss H order from_ (rnk order box) (fun i=>m≤i) r) (fun K hK=>?_) (fun a ha=>Q0 (by omega) (h8 _ ⟨m,by dsimp only,by omega,ha⟩ (by dsimp only; omega)))
  have skip:(okP H order from_ (rnk order box) m ss[m]→∃ (i:Nat) (t:List Int),out=(i:Int)∧ss[i]? = some t∧mnL order t < mnL order ss[m])→Wp (K out) _:=fun h7=>hK _ (by
   rcases hB with ⟨h1,h2⟩ | ⟨i,t,h1,h2,h3,h4,h5⟩
   ·refine .inl ⟨h1,fun j u hj hu=>?_⟩
    by_cases ej:j=m
    ·subst ej
     rw [hx] at hu; cases hu
     intro ho
     obtain⟨i,t,g1,_⟩:=h7 ho
     omega
    ·exact h2 j u (by omega) hu
   ·refine .inr ⟨i,t,h1,by omega,h3,h4,fun j u hj hu h6=>?_⟩
    by_cases ej:j=m
    ·subst ej
     rw [hx] at hu; cases hu
     obtain⟨i',t',g1,g2,g3⟩:=h7 h6
     have:i=i':=by omega
     subst this
     rw [h3] at g2; cases g2
     exact⟨by omega,fun _=>by omega⟩
    ·exact h5 j u (by omega) hu h6)
  refine Qm rfl hx (Gj (J91 ho) ?_)
  by_cases c1:(m:Int)≠(from_:Int)
  case neg=>
   have e1:decide ((m:Int)≠(from_:Int))=false:=Eu c1
   rw [e1]
   exact Gj (x:=default) rfl (Gj (x:=default) rfl (Gj (x:=default) rfl (Gj (x:=default) rfl (Hn (fun h=>by cases h) (fun _=>skip fun h0=>absurd h0.1 (by omega))))))
  have e1:decide ((m:Int)≠(from_:Int))=true:=Es c1
  rw [e1]
  refine G00 rfl (Gb8 hx _) ?_
  by_cases c2:(ss[m].length:Int) < H
  case neg=>
   have e2:decide ((ss[m].length:Int) < H)=false:=Eu c2
   rw [e2]
   exact Gj (x:=default) rfl (Gj (x:=default) rfl (Gj (x:=default) rfl (Hn (fun h=>by cases h) (fun _=>skip fun h0=>absurd h0.2.1 c2))))
  have e2:decide ((ss[m].length:Int) < H)=true:=Es c2
  rw [e2]
  refine G00 rfl (Ga7 order box) ?_
  by_cases c3:(rnk order box:Int)≤(mnL order ss[m]:Int)
  case neg=>
   have e3:decide ((rnk order box:Int)≤(mnL order ss[m]:Int))=false:=Eu c3
   rw [e3]
   exact Gj (x:=default) rfl (Gj (x:=default) rfl (Hn (fun h=>by cases h) (fun _=>skip fun h0=>absurd h0.2.2 (by omega))))
  have e3:decide ((rnk order box:Int)≤(mnL order ss[m]:Int))=true:=Es c3
  rw [e3]
  have h0:okP H order from_ (rnk order box) m ss[m]:=⟨by omega,c2,by omega⟩
  rcases hB with ⟨h1,h2⟩ | ⟨i,t,h1,h2,h3,h4,h5⟩
  ·subst h1
   refine Gj (x:=default) rfl (Gj (x:=default) rfl (Hn (fun _=>hK _ (.inr ⟨m,ss[m],rfl,K0,hx,h0,fun j u hj hu h6=>?_⟩)) (fun h=>by cases h)))
   by_cases ej:j=m
   ·subst ej
    rw [hx] at hu; cases hu
    exact⟨K0,fun _=>K0⟩
   ·exact absurd h6 (h2 j u (by omega) hu)
  ·subst h1
   have e4:decide ((i:Int) < 0)=false:=Eu (by omega)
   rw [e4]
   refine G00 rfl (Gb8 h3 _) (G00 rfl (J91 ho) (Hn (fun h=>hK _ (.inr ⟨m,ss[m],rfl,K0,hx,h0,fun j u hj hu h6=>?_⟩)) (fun h=>skip fun _=>⟨i,t,rfl,h3,?_⟩)))
   ·simp only [Bool.true_and,Bool.false_or,Kj] at h
    by_cases ej:j=m
    ·subst ej
     rw [hx] at hu; cases hu
     exact⟨K0,fun _=>K0⟩
    ·have:=h5 j u (by omega) hu h6
     exact⟨by omega,fun _=>by omega⟩
   ·simp only [Bool.true_and,Bool.false_or,decide_eq_false_iff_not] at h
    omega
 ·have h:¬ (0:Int)≤(k:Int) - 1:=Er h
  have:k=0:=by omega
  subst this
  rcases hB with ⟨h1,h2⟩ | ⟨i,t,h1,h2,h3,h4,h5⟩
  ·exact .inl ⟨h1,fun j u _ hu=>h2 j u (Nat.zero_le _) hu⟩
  ·exact .inr ⟨i,t,h1,trivial,h3,h4,fun j u _ hu=>h5 j u (Nat.zero_le _) hu⟩
theorem places {F:Nat} (hF:400 < F) {ss:List (List Int)} {H:Int} {order:List Int} (hr:Jq ss H) (ho:order.length≤1000000) (from_:Nat) (box:Int):∃ v,Rb ⟨ss,H⟩ order (from_:Int) (rnk order box:Int)=some v∧Qd F ⟨ss,H⟩ order (from_:Int) box=some v∧Hcf ss H order from_ (rnk order box) (fun _=>True) v:=by
 obtain⟨v,h1,h2⟩:=Q5c hr ho from_ (rnk order box)
 obtain⟨u,h3,h4⟩:=Jee hF hr ho from_ box
 have:=Hcf.uniq (fun i _=>Iff.rfl) h2 h4
 subst this
 exact⟨v,h1,h3,h2⟩

def bfs (order:List Int) (H:Int):Nat→List Gb→Nat→List Gb×Option Nat
 | 0,all,_=>(all,none)
 | f+1,all,at_=>match all[at_]? with
  | none=>(all,none)
  | some z=>if Q1 order z.y.Stacks=[] then (all,some at_) else bfs order H f (G3e H (at_:Int) all (G6a z.y.Stacks H.toNat)) (at_+1)
def R2b (boxes:List Int) (n:Nat) (H:Int) (r:List Gb×Option Nat):Prop:=Met boxes n H r.1∧∀ i,r.2=some i→i < r.1.length
theorem Jc8 {boxes order:List Int} {n:Nat} {H:Int}:∀ (f:Nat) {all:List Gb} (at_:Nat),Met boxes n H all→R2b boxes n H (bfs order H f all at_)
 | 0,all,at_,hA=>⟨hA,fun i h=>by cases h⟩
 | f+1,all,at_,hA=>by
  rw [bfs]
  cases hz:all[at_]? with
  | none=>exact⟨hA,fun i h=>by cases h⟩
  | some z=>
   have h0:=(Ev hz).1
   dsimp only
   split
   ·exact⟨hA,fun i h=>by cases h; exact h0⟩
   ·exact Jc8 f (at_+1) (hA.G3e _ h0 (H40 (hA.ok z (Ey hz)).1))

/-! ### Which moves come first -/
def ltM (a b:G3):Prop:=a.From < b.From∨(a.From=b.From∧a.To < b.To)
def J4d:List G3→List G3→Prop
 | a::p,b::q=>ltM a b∨(a=b∧J4d p q)
 | _,_=>False
def slt (p q:List G3):Prop:=p.length < q.length∨(p.length=q.length∧J4d p q)
def sle (p q:List G3):Prop:=p=q∨slt p q
theorem Qcf {a b c:G3} (h:ltM a b) (g:ltM b c):ltM a c:=by unfold ltM at *; omega
theorem J4c:∀ {p q r:List G3},J4d p q→J4d q r→J4d p r
 | a::p,b::q,c::r,h,g=>by
  rcases h with h | ⟨rfl,h⟩
  ·rcases g with g | ⟨rfl,g⟩
   ·exact .inl (Qcf h g)
   ·exact .inl h
  ·rcases g with g | ⟨rfl,g⟩
   ·exact .inl g
   ·exact .inr ⟨rfl,J4c h g⟩
 | [],_,_,h,_=>h.elim
 | _::_,[],_,h,_=>h.elim
 | _::_,_::_,[],_,g=>g.elim
theorem J8c {p q r:List G3} (h:slt p q) (g:slt q r):slt p r:=by
 rcases h with h | ⟨h1,h2⟩
 ·rcases g with g | ⟨g1,g2⟩
  ·exact .inl (by omega)
  ·exact .inl (by omega)
 ·rcases g with g | ⟨g1,g2⟩
  ·exact .inl (by omega)
  ·exact .inr ⟨by omega,J4c h2 g2⟩
theorem H5c {p q r:List G3} (h:sle p q) (g:sle q r):sle p r:=by
 rcases h with rfl | h
 ·exact g
 ·rcases g with rfl | g
  ·exact .inr h
  ·exact .inr (J8c h g)
theorem Jfd {a b:List G3}:∀ {p q:List G3},J4d p q→J4d (p++a) (q++b)
 | x::p,y::q,h=>by
  rcases h with h | ⟨rfl,h⟩
  ·exact .inl h
  ·exact .inr ⟨rfl,Jfd h⟩
 | [],_,h=>h.elim
 | _::_,[],h=>h.elim
theorem J9d {m m':G3} (h:ltM m m'):∀ p:List G3,J4d (p++[m]) (p++[m'])
 | []=>.inl h
 | x::p=>.inr ⟨rfl,J9d h p⟩
theorem Q89 {p q:List G3} {m m':G3} (h:slt p q):slt (p++[m]) (q++[m']):=by
 rcases h with h | ⟨h1,h2⟩
 ·exact .inl (by rw [Kg,Kg,Kh,Kh]; omega)
 ·exact .inr ⟨by rw [Kg,Kg,Kh,Kh,h1],Jfd h2⟩
theorem Qf2 {m m':G3} (h:ltM m m') (p:List G3):slt (p++[m]) (p++[m']):=.inr ⟨by simp,J9d h p⟩
theorem R46 {p q:List G3} {m:G3} (h:sle p q):sle (p++[m]) (q++[m]):=by
 rcases h with rfl | h
 ·exact .inl rfl
 ·exact .inr (Q89 h)
theorem R44 (p q:List G3):sle p (p++q):=by
 cases q with
 | nil=>exact .inl (by simp)
 | cons x q=>exact .inr (.inl (by rw [Kg,Kc]; omega))

/-! ### Moves that can be done -/
def run (h:Nat):List (List Int)→List G3→Option (List (List Int))
 | ss,[]=>some ss
 | ss,m::p=>if (Hf ss h m).2=0 then run h (Hf ss h m).1 p else none
theorem J37 {h:Nat} {m:G3}:∀ {p:List G3} {ss t:List (List Int)},run h ss (p++[m])=some t ↔ ∃ u,run h ss p=some u∧(Hf u h m).2=0∧(Hf u h m).1=t
 | [],ss,t=>by
  show (if (Hf ss h m).2=0 then some (Hf ss h m).1 else none)=some t ↔ _
  constructor
  ·intro g
   split at g
   ·rename_i h0; exact⟨ss,rfl,h0,Ex g⟩
   ·cases g
  ·rintro⟨u,hu,h0,rfl⟩
   cases hu
   rw [if_pos h0]
 | x::p,ss,t=>by
  rw [List.cons_append,run,run]
  split
  ·exact J37
  ·exact⟨fun g=>(by cases g),fun⟨u,hu,_⟩=>(by cases hu)⟩
theorem Qcc {ss:List (List Int)} {h:Nat} {m:G3} (h0:(Hf ss h m).2=0):(m,(Hf ss h m).1)∈G6a ss h:=by
 rcases G39 ss h m with h' | ⟨f,t,a,b,x,c⟩
 ·exact(h' h0).elim
 ·have h3:=(Ev c.hf).1
  have h4:=(Ev c.ht).1
  have e:m=⟨(f:Int),(t:Int)⟩:=by
   obtain⟨p,q⟩:=m
   have h1:p=(f:Int):=c.from_
   have h2:q=(t:Int):=c.to_
   rw [h1,h2]
  unfold G6a H23
  refine List.mem_flatMap.2 ⟨f,List.mem_range.2 h3,?_⟩
  unfold Gfa
  refine List.mem_flatMap.2 ⟨t,List.mem_range.2 h4,?_⟩
  unfold G2d
  rw [← e,if_pos h0]
  exact Ko.2 rfl
theorem Hfb (ss:List (List Int)) (h a:Nat):∀ m,(Gfa ss h a m).Pairwise (fun x y=>ltM x.1 y.1)∧∀ x∈Gfa ss h a m,x.1.From=(a:Int)∧x.1.To < (m:Int)
 | 0=>⟨by simp [Gfa],by simp [Gfa]⟩
 | m+1=>by
  obtain⟨h1,h2⟩:=Hfb ss h a m
  have h3:∀ x∈G2d ss h a m,x.1=⟨(a:Int),(m:Int)⟩:=fun x hx=>by
   unfold G2d at hx
   split at hx
   ·rw [Ko] at hx; rw [hx]
   ·simp at hx
  rw [H5f]
  refine⟨List.pairwise_append.2 ⟨h1,?_,fun x hx y hy=>?_⟩,fun x hx=>?_⟩
  ·unfold G2d; split <;> simp
  ·have:=h2 x hx
   rw [h3 y hy]
   exact .inr ⟨this.1,this.2⟩
  ·rcases Km.1 hx with hx | hx
   ·have:=h2 x hx; exact⟨this.1,by omega⟩
   ·rw [h3 x hx]; exact⟨rfl,by show (m:Int) < ((m+1:Nat):Int); omega⟩
theorem Jc1 (ss:List (List Int)) (h:Nat):(G6a ss h).Pairwise (fun x y=>ltM x.1 y.1):=by
 have key:∀ m,(H23 ss h ss.length m).Pairwise (fun x y=>ltM x.1 y.1)∧∀ x∈H23 ss h ss.length m,x.1.From < (m:Int):=by
  intro m
  induction m with
  | zero=>exact⟨by simp [H23],by simp [H23]⟩
  | succ m ih=>
   obtain⟨h1,h2⟩:=Hfb ss h m ss.length
   rw [H6e]
   refine⟨List.pairwise_append.2 ⟨ih.1,h1,fun x hx y hy=>?_⟩,fun x hx=>?_⟩
   ·have:=ih.2 x hx
    have:=(h2 y hy).1
    exact .inl (by omega)
   ·rcases Km.1 hx with hx | hx
    ·have:=ih.2 x hx; omega
    ·have:=(h2 x hx).1; omega
 exact(key _).1

/-! ### The search with the ways it came -/
structure H25 (h:Nat) (order:List Int) (ss:List (List Int)) (all:List Gb) (ps:List (List G3)) (at_:Nat):Prop where
 len:ps.length=all.length
 node:∀ (i:Nat) z p,all[i]? = some z→ps[i]? = some p→run h ss p=some z.y.Stacks
 inc:∀ (i j:Nat) p q,i < j→ps[i]? = some p→ps[j]? = some q→slt p q
 root:ps[0]? = some []
 par:∀ (j:Nat) z q,0 < j→all[j]? = some z→ps[j]? = some q→∃ (i:Nat) (p:List G3),i < at_∧z.from_=(i:Int)∧ps[i]? = some p∧q=p++[mv z.by_]
 cl:∀ (i:Nat) z p,i < at_→all[i]? = some z→ps[i]? = some p→∀ m,(Hf z.y.Stacks h m).2=0→∃ (j:Nat) (z':Gb) (q:List G3),all[j]? = some z'∧ps[j]? = some q∧z'.y.Stacks=(Hf z.y.Stacks h m).1∧sle q (p++[m])
 uns:∀ (i:Nat) z,i < at_→all[i]? = some z→Q1 order z.y.Stacks≠[]
structure J0e (h:Nat) (order:List Int) (ss:List (List Int)) (all:List Gb) (ps:List (List G3)) (at_:Nat) (za:Gb) (pa:List G3) (pre:List (G3×List (List Int))):Prop where
 hza:all[at_]? = some za
 hpa:ps[at_]? = some pa
 len:ps.length=all.length
 node:∀ (i:Nat) z p,all[i]? = some z→ps[i]? = some p→run h ss p=some z.y.Stacks
 inc:∀ (i j:Nat) p q,i < j→ps[i]? = some p→ps[j]? = some q→slt p q
 root:ps[0]? = some []
 par:∀ (j:Nat) z q,0 < j→all[j]? = some z→ps[j]? = some q→∃ (i:Nat) (p:List G3),z.from_=(i:Int)∧ps[i]? = some p∧q=p++[mv z.by_]∧(i < at_∨(i=at_∧∃ x∈pre,x.1=mv z.by_))
 cl:∀ (i:Nat) z p,i < at_→all[i]? = some z→ps[i]? = some p→∀ m,(Hf z.y.Stacks h m).2=0→∃ (j:Nat) (z':Gb) (q:List G3),all[j]? = some z'∧ps[j]? = some q∧z'.y.Stacks=(Hf z.y.Stacks h m).1∧sle q (p++[m])
 cla:∀ x∈pre,∃ (j:Nat) (z':Gb) (q:List G3),all[j]? = some z'∧ps[j]? = some q∧z'.y.Stacks=x.2∧sle q (pa++[x.1])
 uns:∀ (i:Nat) z,i < at_→all[i]? = some z→Q1 order z.y.Stacks≠[]
theorem G3d {α:Type} {l:List α} {i:Nat} {x:α} (h:l[i]? = some x):i < l.length:=(Ev h).1
theorem J0e.step {h:Nat} {order:List Int} {ss:List (List Int)} {all:List Gb} {ps:List (List G3)} {at_:Nat} {za:Gb} {pa:List G3} {pre:List (G3×List (List Int))} (hS:J0e h order ss all ps at_ za pa pre) {H:Int} {x:G3×List (List Int)}
  (hx:(Hf za.y.Stacks h x.1).2=0∧x.2=(Hf za.y.Stacks h x.1).1) (h7:∀ y∈pre,ltM y.1 x.1):∃ ps',J0e h order ss (addN H (at_:Int) all x) ps' at_ za pa (pre++[x]):=by
 -- all ways so far are ahead of this one
 have below:∀ (j:Nat) q,ps[j]? = some q→slt q (pa++[x.1]):=fun j q hq=>by
  by_cases hj:j=0
  ·subst hj
   rw [hS.root] at hq
   have hq:=Ex hq
   subst hq
   exact .inl (by rw [Kg,Kh,List.length_nil]; omega)
  ·have h8:j < all.length:=by rw [← hS.len]; exact G3d hq
   obtain⟨i,p,h1,h2,h3,h4⟩:=hS.par j _ q (by omega) (Ew h8) hq
   rw [h3]
   rcases h4 with h4 | ⟨rfl,y,hy,e⟩
   ·exact Q89 (hS.inc i at_ p pa h4 h2 hS.hpa)
   ·rw [hS.hpa] at h2
    have h2:=Ex h2
    subst h2
    rw [← e]
    exact Qf2 (h7 y hy) pa
 have a3:=G3d hS.hza
 unfold addN
 split
 ·rename_i h9
  obtain⟨z,hz,e⟩:=h9
  obtain⟨j,hj⟩:=List.mem_iff_getElem?.1 hz
  have h5:j < ps.length:=by rw [hS.len]; exact G3d hj
  refine⟨ps,hS.hza,hS.hpa,hS.len,hS.node,hS.inc,hS.root,fun j z q h0 h1 h2=>?_,hS.cl,fun y hy=>?_,hS.uns⟩
  ·obtain⟨i,p,g1,g2,g3,g4⟩:=hS.par j z q h0 h1 h2
   exact⟨i,p,g1,g2,g3,g4.imp id fun⟨a,y,hy,e⟩=>⟨a,y,Km.2 (.inl hy),e⟩⟩
  ·rcases Km.1 hy with hy | hy
   ·exact hS.cla y hy
   ·rw [Ko] at hy
    subst hy
    exact⟨j,z,ps[j],hj,Ew h5,e,.inr (below j _ (Ew h5))⟩
 ·obtain⟨z,hz⟩:∃ z:Gb,z=⟨⟨x.2,H⟩,(at_:Int),⟨x.1.From,x.1.To⟩⟩:=⟨_,rfl⟩
  rw [← hz]
  have h6:mv z.by_=x.1:=by rw [hz]; rfl
  have old:∀ {i:Nat} {z':Gb},(all++[z])[i]? = some z'→(i < all.length∧all[i]? = some z')∨(i=all.length∧z'=z):=fun {i z'} g=>by
   rcases En i all.length with hl | hl
   ·rw [Kb hl] at g; exact .inl ⟨hl,g⟩
   ·have:=G3d g
    rw [Kg,Kh] at this
    have e:i=all.length:=by omega
    subst e
    rw [Ka hl,Nat.sub_self] at g
    exact .inr ⟨rfl,(Ex g).symm⟩
  have oldp:∀ {i:Nat} {q:List G3},(ps++[pa++[x.1]])[i]? = some q→(i < ps.length∧ps[i]? = some q)∨(i=ps.length∧q=pa++[x.1]):=fun {i q} g=>by
   rcases En i ps.length with hl | hl
   ·rw [Kb hl] at g; exact .inl ⟨hl,g⟩
   ·have:=G3d g
    rw [Kg,Kh] at this
    have e:i=ps.length:=by omega
    subst e
    rw [Ka hl,Nat.sub_self] at g
    exact .inr ⟨rfl,(Ex g).symm⟩
  have up:∀ {i:Nat} {z':Gb},all[i]? = some z'→(all++[z])[i]? = some z':=fun g=>by rw [Kb (G3d g)]; exact g
  have upp:∀ {i:Nat} {q:List G3},ps[i]? = some q→(ps++[pa++[x.1]])[i]? = some q:=fun g=>by rw [Kb (G3d g)]; exact g
  have newz:(all++[z])[all.length]? = some z:=by simp
  have newp:(ps++[pa++[x.1]])[all.length]? = some (pa++[x.1]):=by rw [← hS.len]; simp
  have hl:=hS.len
  refine⟨ps++[pa++[x.1]],up hS.hza,upp hS.hpa,by rw [Kg,Kg,hl,Kh,Kh],fun i z' p h1 h2=>?_,fun i j p q a0 h1 h2=>?_,upp hS.root,fun j z' q h0 h1 h2=>?_,fun i z' p hi h1 h2 m hm=>?_,fun y hy=>?_,fun i z' hi h1=>?_⟩
  ·rcases old h1 with ⟨a1,a2⟩ | ⟨rfl,rfl⟩
   ·rcases oldp h2 with ⟨b1,b2⟩ | ⟨rfl,rfl⟩
    ·exact hS.node i z' p a2 b2
    ·omega
   ·rcases oldp h2 with ⟨b1,b2⟩ | ⟨_,rfl⟩
    ·omega
    ·refine J37.2 ⟨za.y.Stacks,hS.node at_ za pa hS.hza hS.hpa,hx.1,?_⟩
     rw [hz]; exact hx.2.symm
  ·rcases oldp h1 with ⟨a1,a2⟩ | ⟨rfl,rfl⟩
   ·rcases oldp h2 with ⟨b1,b2⟩ | ⟨rfl,rfl⟩
    ·exact hS.inc i j p q a0 a2 b2
    ·exact below i p a2
   ·have:=G3d h2
    rw [Kg,Kh] at this
    omega
  ·rcases old h1 with ⟨a1,a2⟩ | ⟨rfl,rfl⟩
   ·rcases oldp h2 with ⟨b1,b2⟩ | ⟨rfl,rfl⟩
    ·obtain⟨i,p,g1,g2,g3,g4⟩:=hS.par j z' q h0 a2 b2
     exact⟨i,p,g1,upp g2,g3,g4.imp id fun⟨a,y,hy,e⟩=>⟨a,y,Km.2 (.inl hy),e⟩⟩
    ·omega
   ·rcases oldp h2 with ⟨b1,b2⟩ | ⟨_,rfl⟩
    ·omega
    ·exact⟨at_,pa,by rw [hz],upp hS.hpa,by rw [h6],.inr ⟨rfl,x,by simp,h6.symm⟩⟩
  ·rcases old h1 with ⟨a1,a2⟩ | ⟨rfl,rfl⟩
   ·rcases oldp h2 with ⟨b1,b2⟩ | ⟨rfl,rfl⟩
    ·obtain⟨j,z2,q,g1,g2,g3,g4⟩:=hS.cl i z' p hi a2 b2 m hm
     exact⟨j,z2,q,up g1,upp g2,g3,g4⟩
    ·omega
   ·omega
  ·rcases Km.1 hy with hy | hy
   ·obtain⟨j,z2,q,g1,g2,g3,g4⟩:=hS.cla y hy
    exact⟨j,z2,q,up g1,upp g2,g3,g4⟩
   ·rw [Ko] at hy
    subst hy
    exact⟨all.length,z,_,newz,newp,by rw [hz],.inl rfl⟩
  ·rcases old h1 with ⟨a1,a2⟩ | ⟨rfl,rfl⟩
   ·exact hS.uns i z' hi a2
   ·omega
theorem J0e.steps {h:Nat} {order:List Int} {ss:List (List Int)} {H:Int} {at_:Nat} {za:Gb} {pa:List G3}:∀ (l:List (G3×List (List Int))) {all:List Gb} {ps:List (List G3)} {pre:List (G3×List (List Int))},J0e h order ss all ps at_ za pa pre→(∀ x∈l,(Hf za.y.Stacks h x.1).2=0∧x.2=(Hf za.y.Stacks h x.1).1)→(pre++l).Pairwise (fun x y=>ltM x.1 y.1) →
  ∃ ps',J0e h order ss (G3e H (at_:Int) all l) ps' at_ za pa (pre++l)
 | [],all,ps,pre,hS,_,_=>⟨ps,by rw [List.append_nil]; exact hS⟩
 | x::l,all,ps,pre,hS,hl,ho=>by
  have h0:=List.pairwise_append.1 ho
  obtain⟨ps1,h1⟩:=hS.step (H:=H) (hl x (List.mem_cons_self ..)) (fun y hy=>h0.2.2 y hy x (List.mem_cons_self ..))
  have e:pre++x::l=(pre++[x])++l:=by simp
  obtain⟨ps2,h2⟩:=J0e.steps l h1 (fun y hy=>hl y (List.mem_cons_of_mem _ hy)) (by rw [← e]; exact ho)
  exact⟨ps2,by rw [e]; exact h2⟩
theorem H25.next {h:Nat} {order:List Int} {ss:List (List Int)} {all:List Gb} {ps:List (List G3)} {at_:Nat} (hS:H25 h order ss all ps at_) {za:Gb} (hza:all[at_]? = some za) (hw:Q1 order za.y.Stacks≠[]) (H:Int):∃ ps',H25 h order ss (G3e H (at_:Int) all (G6a za.y.Stacks h)) ps' (at_+1):=by
 have h3:=G3d hza
 have hpa:ps[at_]? = some (ps[at_]'(by rw [hS.len]; exact h3)):=Ew _
 obtain⟨ps',hM⟩:=J0e.steps (H:=H) (G6a za.y.Stacks h) (pre:=[]) ⟨hza,hpa,hS.len,hS.node,hS.inc,hS.root,fun j z q h0 h1 h2=>by
  obtain⟨i,p,g1,g2,g3,g4⟩:=hS.par j z q h0 h1 h2
  exact⟨i,p,g2,g3,g4,.inl g1⟩,hS.cl,fun x hx=>by simp at hx,hS.uns⟩ (fun x hx=>by
   obtain⟨a,b,_,_,_,h0,e⟩:=J98 hx
   exact⟨h0,e⟩) (by rw [List.nil_append]; exact Jc1 _ _)
 rw [List.nil_append] at hM
 refine⟨ps',hM.len,hM.node,hM.inc,hM.root,fun j z q h0 h1 h2=>?_,fun i z p hi h1 h2 m hm=>?_,fun i z hi h1=>?_⟩
 ·obtain⟨i,p,g1,g2,g3,g4⟩:=hM.par j z q h0 h1 h2
  exact⟨i,p,by rcases g4 with g4 | ⟨g4,_⟩ <;> omega,g1,g2,g3⟩
 ·by_cases e:i=at_
  ·subst e
   rw [hM.hza] at h1; cases h1
   rw [hM.hpa] at h2; cases h2
   exact hM.cla _ (Qcc hm)
  ·exact hM.cl i z p (by omega) h1 h2 m hm
 ·by_cases e:i=at_
  ·subst e
   rw [hM.hza] at h1; cases h1
   exact hw
  ·exact hM.uns i z (by omega) h1
theorem Q09 {boxes order:List Int} {n:Nat} {H:Int} {ss:List (List Int)} (hb:boxes.length≤5):∀ (f:Nat) {all:List Gb} {ps:List (List G3)} (at_:Nat),Met boxes n H all→H25 H.toNat order ss all ps at_→at_≤all.length→7962624 < f+at_ →
  ∃ ps',(∃ i z p,(bfs order H f all at_).2=some i∧(bfs order H f all at_).1[i]? = some z∧ps'[i]? = some p∧Q1 order z.y.Stacks=[]∧H25 H.toNat order ss (bfs order H f all at_).1 ps' i)∨((bfs order H f all at_).2=none∧H25 H.toNat order ss (bfs order H f all at_).1 ps' (bfs order H f all at_).1.length)
 | 0,all,ps,at_,hA,hS,h1,hf=>by have:=hA.len hb; omega
 | f+1,all,ps,at_,hA,hS,h1,hf=>by
  rw [bfs]
  cases hz:all[at_]? with
  | none=>
   have h3:all.length≤at_:=List.getElem?_eq_none_iff.1 hz
   have e:at_=all.length:=by omega
   subst e
   exact⟨ps,.inr ⟨rfl,hS⟩⟩
  | some z=>
   have h0:=G3d hz
   dsimp only
   by_cases hw:Q1 order z.y.Stacks=[]
   ·rw [if_pos hw]
    exact⟨ps,.inl ⟨at_,z,_,rfl,hz,Ew (by rw [hS.len]; exact h0),hw,hS⟩⟩
   ·rw [if_neg hw]
    obtain⟨ps',h2⟩:=hS.next hz hw H
    have hl:=(H4d H (at_:Int) (G6a z.y.Stacks H.toNat) all).1
    exact Q09 hb f (at_+1) (hA.G3e _ h0 (H40 (hA.ok z (Ey hz)).1)) h2 (by omega) (by omega)
theorem H25.cover {h:Nat} {order:List Int} {ss:List (List Int)} {all:List Gb} {ps:List (List G3)} {at_:Nat} (hS:H25 h order ss all ps at_):∀ (n:Nat) (q:List G3) (t:List (List Int)),q.length=n→run h ss q=some t →
  (∃ (i:Nat) (z:Gb) (p:List G3),all[i]? = some z∧ps[i]? = some p∧z.y.Stacks=t∧sle p q)∨∃ (k:Nat) (z:Gb) (p q1 q2:List G3),at_≤k∧all[k]? = some z∧ps[k]? = some p∧q=q1++q2∧sle p q1
 | 0,q,t,hn,hr=>by
  have:q=[]:=Ej hn
  subst this
  have hl:=G3d hS.root
  rw [hS.len] at hl
  have h0:=hS.node 0 _ [] (Ew hl) hS.root
  rw [hr] at h0
  exact .inl ⟨0,_,[],Ew hl,hS.root,(Ex h0).symm,.inl rfl⟩
 | n+1,q,t,hn,hr=>by
  rcases List.eq_nil_or_concat q with rfl | ⟨q0,m,rfl⟩
  ·simp at hn
  rw [List.concat_eq_append] at hn hr ⊢
  obtain⟨u,hu,h0,ht⟩:=J37.1 hr
  rcases hS.cover n q0 u (by rw [Kg,Kh] at hn; omega) hu with ⟨i,z,p,h1,h2,h3,h4⟩ | ⟨k,z,p,q1,q2,h1,h2,h3,h4,h5⟩
  ·rcases En i at_ with hi | hi
   ·obtain⟨j,z',q',g1,g2,g3,g4⟩:=hS.cl i z p hi h1 h2 m (by rw [h3]; exact h0)
    exact .inl ⟨j,z',q',g1,g2,by rw [g3,h3]; exact ht,H5c g4 (R46 h4)⟩
   ·exact .inr ⟨i,z,p,q0,[m],hi,h1,h2,rfl,h4⟩
  ·exact .inr ⟨k,z,p,q1,q2++[m],h1,h2,h3,by rw [h4,List.append_assoc],h5⟩
theorem H25.le {h:Nat} {order:List Int} {ss:List (List Int)} {all:List Gb} {ps:List (List G3)} {at_:Nat} (hS:H25 h order ss all ps at_) {i j:Nat} {p q:List G3} (h0:i≤j) (hp:ps[i]? = some p) (hq:ps[j]? = some q):sle p q:=by
 rcases En i j with hl | hl
 ·exact .inr (hS.inc i j p q hl hp hq)
 ·have:i=j:=by omega
  subst this
  rw [hp] at hq
  exact .inl (Ex hq)
theorem H25.first {h:Nat} {order:List Int} {ss:List (List Int)} {all:List Gb} {ps:List (List G3)} {at_:Nat} (hS:H25 h order ss all ps at_) {p:List G3} (hp:ps[at_]? = some p) {q:List G3} {t:List (List Int)} (hr:run h ss q=some t) (hw:Q1 order t=[]):sle p q:=by
 rcases hS.cover q.length q t rfl hr with ⟨i,z,p',h1,h2,h3,h4⟩ | ⟨k,z,p',q1,q2,h1,h2,h3,h4,h5⟩
 ·have hi:at_≤i:=Nat.le_of_not_lt fun hl=>hS.uns i z hl h1 (by rw [h3]; exact hw)
  exact H5c (hS.le hi hp h2) h4
 ·rw [h4]
  exact H5c (H5c (hS.le h1 hp h3) h5) (R44 q1 q2)
theorem H25.none_ {h:Nat} {order:List Int} {ss:List (List Int)} {all:List Gb} {ps:List (List G3)} (hS:H25 h order ss all ps all.length) {q:List G3} {t:List (List Int)} (hr:run h ss q=some t):Q1 order t≠[]:=fun hw=>by
 rcases hS.cover q.length q t rfl hr with ⟨i,z,p',h1,h2,h3,h4⟩ | ⟨k,z,p',q1,q2,h1,h2,h3,h4,h5⟩
 ·exact hS.uns i z (G3d h1) h1 (by rw [h3]; exact hw)
 ·have:=G3d h2; omega
theorem H25.back {h:Nat} {order:List Int} {ss:List (List Int)} {all:List Gb} {ps:List (List G3)} {at_:Nat} (hS:H25 h order ss all ps at_):∀ {i:Nat} {l:List G8},J70 all i l→∀ {p:List G3},ps[i]? = some p→p=(l.map mv).reverse
 | _,_,.stop,p,hp=>by rw [hS.root] at hp; exact(Ex hp).symm
 | i,_,.go (z:=z) (j:=j) (l:=l) hz h0 hf hj hb,p,hp=>by
  obtain⟨k,p',g1,g2,g3,g4⟩:=hS.par i z p h0 hz hp
  have:k=j:=by omega
  subst this
  have:=hS.back hb g3
  rw [g4,this]; simp
theorem H25.start {h:Nat} {order:List Int} {ss:List (List Int)} {z:Gb} (hz:z.y.Stacks=ss):H25 h order ss [z] [[]] 0:=by
 refine⟨rfl,fun i z' p h1 h2=>?_,fun i j p q h3 h1 h2=>?_,rfl,fun j z' q h0 h1=>?_,fun i z' p hi=>by omega,fun i z' hi=>by omega⟩
 ·have:=G3d h1
  have e:i=0:=by simpa using this
  subst e
  simp at h1 h2
  subst h1 h2
  rw [hz]; rfl
 ·have:=G3d h2
  simp at this; omega
 ·have:=G3d h1
  simp at this; omega
end Go.Proofs.Ytokjlondbjdlfaa
