/-
 Yards are told apart by their bytes and by where their boxes Check of program and reference. The search for the fewest moves:
-/
import Derived.Test.YtokjlondbjdlfaaMarG
set_option maxRecDepth 100000
set_option linter.unusedVariables false
namespace Go.Proofs.Ytokjlondbjdlfaa
open Go.RowKit

theorem Q47:∀ (n:Nat) (l:List Nat),l.Nodup→(∀ x∈l,x < n)→l.length≤n
 | 0,l,_,h=>by
  cases l with
  | nil=>simp
  | cons x r=>exact absurd (h x (by simp)) (by omega)
 | n+1,l,hn,h=>by
  have h1:=Q47 n (l.filter (fun x=>decide (x≠n))) (hn.filter _) (fun x hx=>by
   have:=Kq.1 hx
   have h2:=h x this.1
   have h3:=Ep this.2
   omega)
  have h2:l.count n≤1:=List.nodup_iff_count.1 hn n
  have h3:=List.length_eq_countP_add_countP (fun x=>decide (x≠n)) (l:=l)
  rw [← List.countP_eq_length_filter] at h1
  have h4:l.countP (fun a=>decide (¬ decide (a≠n)=true))=l.count n:=by
   unfold List.count
   congr 1
   funext a
   by_cases e:a=n <;> simp [e]
  rw [h4] at h3
  omega

theorem J8d {n:Nat} {a b:List (List Int)} (ha:a.length=n) (hb:b.length=n) (h:∀ i k,i < n→cellAt a i k=cellAt b i k):a=b:=by
 refine List.ext_getElem (by omega) fun i h1 h2=>List.ext_getElem? fun k=>?_
 have:=h i k (by omega)
 rw [G50 (Ew h1),G50 (Ew h2)] at this
 exact this
theorem SmY.Gda {boxes:List Int} {n:Nat} {H:Int} {ss:List (List Int)} (h:SmY boxes n H ss) {i k:Nat} {b:Int} (hc:cellAt ss i k=some b):i < n∧k < 6∧b∈boxes:=by
 unfold cellAt at hc
 obtain⟨s,hs,hk⟩:=Option.bind_eq_some_iff.1 hc
 have hi:=(Ev hs).1
 rw [h.len] at hi
 obtain⟨s',h0,h6,_,hb⟩:=h.at_ hi
 rw [hs] at h0; cases h0
 have:=(Ev hk).1
 exact⟨hi,by omega,hb b (Ey hk)⟩
theorem code_inj {boxes:List Int} {o p:Option Int} (ho:∀ b,o=some b→b∈boxes) (hp:∀ b,p=some b→b∈boxes) (h:codeOf boxes o=codeOf boxes p):o=p:=by
 cases o with
 | none=>
  cases p with
  | none=>rfl
  | some b=>simp only [codeOf] at h; omega
 | some a=>
  cases p with
  | none=>simp only [codeOf] at h; omega
  | some b=>
   simp only [codeOf] at h
   have e:boxes.idxOf a=boxes.idxOf b:=by omega
   have ha:=ho a rfl
   have hb:=hp b rfl
   have h1:=List.getElem_idxOf (List.idxOf_lt_length_of_mem ha)
   have h2:=List.getElem_idxOf (List.idxOf_lt_length_of_mem hb)
   have:boxes[boxes.idxOf a]? = boxes[boxes.idxOf b]? := by rw [e]
   rw [Ew (List.idxOf_lt_length_of_mem ha),Ew (List.idxOf_lt_length_of_mem hb),h1,h2] at this
   exact this
theorem R41 {boxes:List Int} {n:Nat} {H:Int} {a b:List (List Int)} (ha:SmY boxes n H a) (hb:SmY boxes n H b) (h:G79 boxes a=G79 boxes b):a=b:=by
 refine J8d ha.len hb.len fun i k hi=>?_
 have h0:=ha.few
 by_cases hk:k < 6
 ·refine code_inj (fun x hx=>(ha.Gda hx).2.2) (fun x hx=>(hb.Gda hx).2.2) ?_
  have:=congrArg (fun z:Gr=>z.g (i*6+k*1)) h
  have h2:(G79 boxes a).g (i*6+k*1)=(G79 boxes b).g (i*6+k*1):=this
  rw [J8a boxes a (by omega) hk,J8a boxes b (by omega) hk] at h2
  exact h2
 ·have no:∀ {ss},SmY boxes n H ss→cellAt ss i k=none:=fun {ss} hs=>by
   cases hc:cellAt ss i k with
   | none=>rfl
   | some x=>exact absurd (hs.Gda hc).2.1 hk
  rw [no ha,no hb]

/-! ### Where the boxes stand -/
theorem H17 {b:Int}:∀ {ss:List (List Int)} {o i k:Nat} {s:List Int},ss.flatten.Nodup→ss[i]? = some s→s[k]? = some b→G40 b ss o=(((o+i:Nat):Int),(k:Int),true)
 | [],o,i,k,s,_,h,_=>by simp at h
 | x::ss,o,0,k,s,hn,h,hk=>by
  simp at h; subst h
  have hm:b∈x:=Ey hk
  rw [G40,if_pos hm]
  have hx:x.Nodup:=(List.nodup_append.1 (by rw [List.flatten_cons] at hn; exact hn)).1
  have hl:=(Ev hk).1
  have h1:x[k]=b:=by rw [Ew hl] at hk; exact Ex hk
  have:x.idxOf b=k:=by
   have hi:=List.idxOf_lt_length_of_mem hm
   exact(List.getElem?_inj hi hx).1 (by rw [Ew hi,List.getElem_idxOf hi,hk])
  rw [this]; simp
 | x::ss,o,i+1,k,s,hn,h,hk=>by
  rw [List.flatten_cons] at hn
  have h0:=List.nodup_append.1 hn
  have h:ss[i]? = some s:=by simpa using h
  have hm:b∈ss.flatten:=List.mem_flatten.2 ⟨s,Ey h,Ey hk⟩
  have hx:b ∉ x:=fun hb=>h0.2.2 b hb b hm rfl
  rw [G40,if_neg hx,H17 h0.2.1 h hk]
  simp only [Prod.mk.injEq,and_true]
  omega
theorem J2d {b:Int} {ss:List (List Int)} (h:b∈ss.flatten):∃ i k,cellAt ss i k=some b:=by
 obtain⟨s,hs,hb⟩:=List.mem_flatten.1 h
 obtain⟨i,hi⟩:=List.mem_iff_getElem?.1 hs
 obtain⟨k,hk⟩:=List.mem_iff_getElem?.1 hb
 exact⟨i,k,by rw [G50 hi]; exact hk⟩
def J63 (ss:List (List Int)) (b:Int):Nat:=(G40 b ss 0).1.toNat*6+(G40 b ss 0).2.1.toNat
theorem Hcc {boxes:List Int} {n:Nat} {H:Int} {ss:List (List Int)} (h:SmY boxes n H ss) {i k:Nat} {b:Int} (hc:cellAt ss i k=some b):J63 ss b=i*6+k:=by
 unfold cellAt at hc
 obtain⟨s,hs,hk⟩:=Option.bind_eq_some_iff.1 hc
 unfold J63
 rw [H17 h.right.nodup hs hk]
 dsimp only
 omega
theorem Ja4 {boxes:List Int} {n:Nat} {H:Int} {ss:List (List Int)} (h:SmY boxes n H ss) {b:Int} (hb:b∈boxes):J63 ss b < 24:=by
 obtain⟨i,k,hc⟩:=J2d ((h.in_ b).2 hb)
 have:=h.Gda hc
 have:=h.few
 rw [Hcc h hc]; omega
def H40 (ss:List (List Int)):List Int→Nat
 | []=>0
 | b::r=>J63 ss b+24*H40 ss r
theorem Jf1 {boxes:List Int} {n:Nat} {H:Int} {ss:List (List Int)} (h:SmY boxes n H ss):∀ l:List Int,(∀ b∈l,b∈boxes)→H40 ss l < 24 ^ l.length
 | [],_=>by simp [H40]
 | b::r,hl=>by
  have h1:=Ja4 h (hl b (List.mem_cons_self ..))
  have h2:=Jf1 h r (fun x hx=>hl x (List.mem_cons_of_mem _ hx))
  rw [H40,Kc,Nat.pow_succ]
  omega
theorem J8c {boxes:List Int} {n:Nat} {H:Int} {a c:List (List Int)} (ha:SmY boxes n H a) (hc:SmY boxes n H c):∀ l:List Int,(∀ b∈l,b∈boxes)→H40 a l=H40 c l→∀ b∈l,J63 a b=J63 c b
 | [],_,_,b,hb=>by simp at hb
 | x::r,hl,h,b,hb=>by
  rw [H40,H40] at h
  have h1:=Ja4 ha (hl x (List.mem_cons_self ..))
  have h2:=Ja4 hc (hl x (List.mem_cons_self ..))
  have e1:J63 a x=J63 c x:=by omega
  rcases Kp.1 hb with rfl | hb
  ·exact e1
  ·exact J8c ha hc r (fun x hx=>hl x (List.mem_cons_of_mem _ hx)) (by omega) b hb
theorem Qd4 {boxes:List Int} {n:Nat} {H:Int} {a c:List (List Int)} (ha:SmY boxes n H a) (hc:SmY boxes n H c) (h:H40 a boxes=H40 c boxes):a=c:=by
 have hp:=J8c ha hc boxes (fun _ h=>h) h
 have one:∀ {a c:List (List Int)},SmY boxes n H a→SmY boxes n H c→(∀ b∈boxes,J63 a b=J63 c b)→∀ i k b,cellAt a i k=some b→cellAt c i k=some b:=fun {a c} ha hc hp i k b h3=>by
  have hl:=ha.Gda h3
  obtain⟨i',k',h0⟩:=J2d ((hc.in_ b).2 hl.2.2)
  have h4:=hc.Gda h0
  have e:=hp b hl.2.2
  rw [Hcc ha h3,Hcc hc h0] at e
  have e1:i=i':=by omega
  have e2:k=k':=by omega
  rw [e1,e2]; exact h0
 refine J8d ha.len hc.len fun i k _=>?_
 cases h1:cellAt a i k with
 | some b=>exact(one ha hc hp i k b h1).symm
 | none=>
  cases h2:cellAt c i k with
  | none=>rfl
  | some b=>rw [one hc ha (fun b hb=>(hp b hb).symm) i k b h2] at h1; cases h1

/-! ### What is met -/
structure Met (boxes:List Int) (n:Nat) (H:Int) (all:List Gb):Prop where
 ok:∀ z∈all,SmY boxes n H z.y.Stacks∧z.y.Height=H
 nodup:(all.map (·.y.Stacks)).Nodup
 first:∃ z,all[0]? = some z∧z.from_ = -1
 from_:∀ (i:Nat) z,all[i]? = some z→0 < i→∃ j:Nat,z.from_=(j:Int)∧j < i
theorem Met.len {boxes:List Int} {n:Nat} {H:Int} {all:List Gb} (h:Met boxes n H all) (hb:boxes.length≤5):all.length≤7962624:=by
 have hn:(all.map fun z=>H40 z.y.Stacks boxes).Nodup:=by
  have:=h.nodup
  unfold List.Nodup at this ⊢
  rw [List.pairwise_map] at this ⊢
  exact this.imp_of_mem fun {a c} ha hc h0 e=>h0 (Qd4 (h.ok a ha).1 (h.ok c hc).1 e)
 have:=Q47 7962624 _ hn (fun x hx=>by
  obtain⟨z,hz,rfl⟩:=Kn.1 hx
  have h1:=Jf1 (h.ok z hz).1 boxes (fun _ h=>h)
  have h2:24 ^ boxes.length≤24 ^ 5:=Nat.pow_le_pow_right (by decide) hb
  have h3:(24:Nat) ^ 5=7962624:=by decide
  omega)
 rwa [Kk] at this
theorem Met.addN {boxes:List Int} {n:Nat} {H:Int} {all:List Gb} (h:Met boxes n H all) {at_:Nat} (h3:at_ < all.length) {x:G3×List (List Int)} (hx:SmY boxes n H x.2):Met boxes n H (addN H (at_:Int) all x):=by
 unfold Go.Proofs.Ytokjlondbjdlfaa.addN
 split
 ·exact h
 ·rename_i h0
  refine⟨fun z hz=>?_,?_,?_,fun i z hz hi=>?_⟩
  ·rcases Km.1 hz with hz | hz
   ·exact h.ok z hz
   ·rw [Ko] at hz; subst hz; exact⟨hx,rfl⟩
  ·rw [List.map_append]
   refine List.nodup_append.2 ⟨h.nodup,by simp,fun a ha c hc=>?_⟩
   simp only [List.map_cons,List.map_nil,Ko] at hc
   subst hc
   obtain⟨z,hz,rfl⟩:=Kn.1 ha
   exact fun e=>h0 ⟨z,hz,e⟩
  ·obtain⟨z,h1,h2⟩:=h.first
   exact⟨z,by rw [Kb (by omega)]; exact h1,h2⟩
  ·rcases En i all.length with hl | hl
   ·rw [Kb hl] at hz
    exact h.from_ i z hz hi
   ·rw [Ka hl] at hz
    have e:i - all.length=0:=by
     have:=(Ev hz).1
     simp at this; omega
    rw [e] at hz
    simp at hz
    subst hz
    exact⟨at_,rfl,by omega⟩
theorem Met.G37 {boxes:List Int} {n:Nat} {H:Int} {at_:Nat}:∀ (l:List (G3×List (List Int))) {all:List Gb},Met boxes n H all→at_ < all.length→(∀ x∈l,SmY boxes n H x.2)→Met boxes n H (G37 H (at_:Int) all l)
 | [],all,h,_,_=>h
 | x::l,all,h,h0,hl=>by
  have h1:=h.addN h0 (hl x (List.mem_cons_self ..))
  refine Met.G37 l h1 ?_ (fun y hy=>hl y (List.mem_cons_of_mem _ hy))
  unfold Go.Proofs.Ytokjlondbjdlfaa.addN
  split
  ·exact h0
  ·rw [Kg]; omega
theorem H37 {boxes:List Int} {n:Nat} {H:Int} {ss:List (List Int)} (h:SmY boxes n H ss):∀ x∈G5d ss H.toNat,SmY boxes n H x.2:=fun x hx=>by
 obtain⟨a,b,ha,hb,e1,h0,e2⟩:=J7f hx
 rw [e2]
 rcases G32 ss H.toNat x.1 with h' | ⟨f,t,p,q,y,c⟩
 ·exact(h' h0).elim
 ·have hp:=c.perm
  exact⟨G3d h.right h0,by rw [c.eq]; simp [h.len],h.few,fun v=>by rw [c.eq]; exact(hp.mem_iff).trans (h.in_ v)⟩
theorem Qb4 {ss:List (List Int)} {h:Nat} (hn:ss.length≤4):(G5d ss h).length≤16:=by
 have key:∀ m,(H19 ss h ss.length m).length≤4*m:=by
  intro m
  induction m with
  | zero=>simp [H19]
  | succ m ih=>rw [H64,Kg]; have:=Qdf ss h m ss.length; omega
 have:=key ss.length
 unfold G5d
 omega

theorem G67 {α β:Type} {Q:β→Prop} {c:Bool} {m d:Option α} {x:α} {k:α→Option β} (hc:c=true) (e:m=some x) (h:Wp (k x) Q):Wp (bnd (bif c then m else d) k) Q:=by
 subst hc
 exact Gk e h
theorem R68 {α β:Type} {Q:β→Prop} {c:Bool} {m:Option α} {x:α} {k:α→Option β} (hc:c=false) (h:Wp (k x) Q):Wp (bnd (bif c then m else some x) k) Q:=by
 subst hc
 exact h
theorem G8a (l:List G3):Jt l l=some true:=by
 unfold Jt
 refine Q73 (fun i y nx hy=>?_)
 rw [Gad hy,Es rfl]; rfl
theorem Hee {ss:List (List Int)} {H:Int} {l:List G3} (h:(Yx ss H l).2.2.2=0):Jv (Yx ss H l).1 (Yx ss H l).2.1:=by
 by_cases hr:Jv ss H
 ·by_cases hl:10000 < l.length
  ·rw [H89 hr hl] at h; exact absurd h (by decide)
  ·rw [Gb2 hr hl] at h ⊢
   by_cases h0:(Rv H.toNat ss 0 l).2.2=0
   ·rw [if_pos h0]; exact Hed l 0 hr h0
   ·rw [if_neg h0] at h; exact absurd h h0
 ·rw [J29 hr] at h; exact absurd h (by decide)
def Q58 (ss:List (List Int)) (H:Int) (order:List Int) (l:List G3):Bool×Int:=
 if Yk ss H order then (decide ((Yx ss H l).2.2.2=0)&&decide ((Q1 order (Yx ss H l).1).length=0),0) else (false,2)
theorem J52 (ss:List (List Int)) (H:Int) (order:List Int) (l:List G3):Qj ⟨ss,H⟩ order l=some (Q58 ss H order l):=by
 unfold Qj Q58
 rw [G3a,G06]
 by_cases h:Yk ss H order
 ·rw [if_pos h,if_pos h,Q8f]
  show (bnd (bif decide ((Yx ss H l).2.2.2=0) then Rt ⟨(Yx ss H l).1,(Yx ss H l).2.1⟩ order else some default) fun r10=>some ((decide ((Yx ss H l).2.2.2=0))&&(decide ((r10.length:Int)=0)),(0:Int)))=_
  by_cases h0:(Yx ss H l).2.2.2=0
  ·rw [Es h0,cond_true,Ja7 (Hee h0).all,G06,G81]
   congr 3
   exact decide_eq_decide.2 (by omega)
  ·rw [Eu h0]; rfl
 ·rw [if_neg h,if_neg h]; rfl

/-! ### A list the other way round -/
theorem rev_at {α:Type} (l:List α) {q:Nat} (h:q < l.length):l.reverse[q]? = l[l.length - 1 - q]? := List.getElem?_reverse h
theorem Q5b {F:Nat} {s:List G3} (hF:s.length < F) (hl:s.length≤10000000):Qq F s=some s.reverse:=by
 refine Y4 ?_
 unfold Qq
 refine Q6 (by omega) ?_
 refine wp_loop (fun z=>∃ k:Nat,z.1=(k:Int)∧z.2.1=(s.length:Int) - 1 - k∧2*k≤s.length∧z.2.2.length=s.length∧∀ q,q < s.length→z.2.2[q]? = if q < k∨s.length≤q+k then s[s.length - 1 - q]? else s[q]?) (fun z=>s.length - z.1.toNat) ⟨0,rfl,by simp,by omega,rfl,fun q hq=>by rw [if_neg (by omega)]⟩ (by dsimp only; omega) (fun z nx hz h4=>?_)
 obtain⟨i,j,cur⟩:=z
 obtain⟨k,hi,hj,hk,h0,hc⟩:=hz
 have hi:i=(k:Int):=hi
 have hj:j=(s.length:Int) - 1 - k:=hj
 subst hi
 refine Hs (fun h=>?_) (fun h=>Hq ?_)
 ·have h:(k:Int) < j:=Ep h
  have h7:k+1 < s.length - k:=by omega
  obtain⟨m,hm⟩:∃ m:Nat,m=s.length - 1 - k:=⟨_,rfl⟩
  have h5:j=(m:Int):=by omega
  subst h5
  have h1:m < cur.length:=by
   have h0:cur.length=s.length:=h0
   omega
  have h2:k < cur.length:=by
   have h0:cur.length=s.length:=h0
   omega
  have h6:k≠m:=by omega
  have gm:cur[m]? = s[m]? := by rw [hc m (by omega),if_neg (by omega)]
  have gk:cur[k]? = s[k]? := by rw [hc k (by omega),if_neg (by omega)]
  have vm:cur[m]? = some cur[m]:=Ew h1
  have vk:cur[k]? = some cur[k]:=Ew h2
  have tk:((k:Int)).toNat=k:=by omega
  have tm:((m:Int)).toNat=m:=by omega
  refine Qi rfl vm (Qi rfl vk (Qi rfl vk ?_))
  dsimp only
  rw [tk]
  refine Qi (m:=m) (x:=cur[m]) rfl (by rw [List.getElem?_set_ne h6]; exact vm) (Q6 (by omega) (Q6 (by omega) (h4 _ ⟨k+1,by dsimp only; omega,by dsimp only; omega,by omega,?_,fun q hq=>?_⟩ (by dsimp only; omega))))
  ·dsimp only
   rw [List.length_set,List.length_set]; exact h0
  ·dsimp only
   rw [tm]
   by_cases e1:q=m
   ·subst e1
    rw [List.getElem?_set_self (by rw [List.length_set]; exact h1),if_pos (by omega),← vk,gk]
    congr 1; omega
   ·rw [List.getElem?_set_ne (Ne.symm e1)]
    by_cases e2:q=k
    ·subst e2
     rw [List.getElem?_set_self h2,if_pos (by omega),← vm,gm]
     congr 1 <;> omega
    ·rw [List.getElem?_set_ne (Ne.symm e2),hc q hq]
     by_cases h3:q < k∨s.length≤q+k
     ·rw [if_pos h3,if_pos (by omega)]
     ·rw [if_neg h3,if_neg (by omega)]
 ·have h:¬ (k:Int) < j:=Er h
  have h0:cur.length=s.length:=h0
  refine List.ext_getElem? fun q=>?_
  rcases En q s.length with hq | hq
  ·rw [hc q hq,rev_at s hq]
   by_cases h3:q < k∨s.length≤q+k
   ·rw [if_pos h3]
   ·rw [if_neg h3]; congr 1; omega
  ·rw [List.getElem?_eq_none (by omega),List.getElem?_eq_none (by rw [List.length_reverse]; exact hq)]

/-! ### The way back to the first yard -/
inductive J55 (all:List Gb):Nat→List G8→Prop
 | stop:J55 all 0 []
 | go {i j:Nat} {z:Gb} {l:List G8} (hz:all[i]? = some z) (hi:0 < i) (hf:z.from_=(j:Int)) (hj:j < i) (h:J55 all j l):J55 all i (z.by_::l)
theorem Q8c {boxes:List Int} {n:Nat} {H:Int} {all:List Gb} (hA:Met boxes n H all):∀ (k i:Nat),i≤k→i < all.length→∃ l,J55 all i l∧l.length≤i
 | k,0,_,_=>⟨[],.stop,by simp⟩
 | 0,i+1,h,_=>by omega
 | k+1,i+1,hk,hi=>by
  obtain⟨j,hf,hj⟩:=hA.from_ (i+1) _ (Ew hi) (by omega)
  obtain⟨l,h1,h2⟩:=Q8c hA k j (by omega) (by omega)
  exact⟨_,.go (Ew hi) (by omega) hf hj h1,by rw [Kc]; omega⟩
def cv (boxes:List Int) (z:Gb):Gt:=⟨G79 boxes z.y.Stacks,z.from_,mv z.by_⟩
theorem R6d {boxes:List Int} {n:Nat} {H:Int} {all:List Gb} (hA:Met boxes n H all) {G:Nat} (hG:8000000 < G):∀ (f i:Nat) {l:List G8} {out:List G3},J55 all i l→i < f→i < all.length→out.length+l.length≤8000000 →
  loop (fun nx156 (s156:Int×(List G3))=>R2 (all.map (cv boxes)) s156.1 fun y159=>bif decide (0≤y159.from_) then (R2 (all.map (cv boxes)) s156.1 fun y162=>need (decide ((s156.2.length+[y162.by_].length)*16≤140737488355328∧s156.2.length+[y162.by_].length≤maxLen)) <| R2 (all.map (cv boxes)) s156.1 fun y165=>nx156 (y165.from_,(s156.2++[y162.by_]))) else (bnd (Qq G s156.2) fun r168=>some (r168,(0:Int)))) f ((i:Int),out)=some ((out++l.map mv).reverse,0)
 | 0,i,l,out,h,hf,_,_=>by omega
 | f+1,_,_,out,.stop,hf,hi,hl=>by
  obtain⟨z,hz,h1⟩:=hA.first
  refine Y4 ?_
  rw [loop]
  refine Qi (m:=0) (x:=cv boxes z) rfl (by rw [Kd,hz]; rfl) ?_
  have hd:decide (0≤(cv boxes z).from_)=false:=Eu (by show ¬ 0≤z.from_; omega)
  rw [hd,cond_false]
  simp only [List.length_nil,Nat.add_zero] at hl
  refine Gk (Q5b (by dsimp only; omega) (by dsimp only; omega)) (Hq ?_)
  simp
 | f+1,i,_,out,.go (z:=z) (j:=j) (l:=l) hz h0 h2 hj h,hf,hi,hl=>by
  refine Y4 ?_
  rw [loop]
  have hg:(all.map (cv boxes))[i]? = some (cv boxes z):=by rw [Kd,hz]; rfl
  have hd:decide (0≤(cv boxes z).from_)=true:=Es (by show 0≤z.from_; omega)
  rw [Kc] at hl
  refine Qi rfl hg ?_
  rw [hd,cond_true]
  refine Qi rfl hg (Jz (Zb (by dsimp only; rw [Kh]; omega) (by decide)) (Qi rfl hg ?_))
  have e:(cv boxes z).from_=(j:Int):=h2
  rw [e]
  refine⟨_,R6d hA hG f j (out:=out++[(cv boxes z).by_]) h (by omega) (by omega) (by rw [Kg,Kh]; omega),?_⟩
  show ((out++[mv z.by_]++l.map mv).reverse,(0:Int))=((out++mv z.by_::l.map mv).reverse,0)
  rw [List.append_assoc]; rfl
theorem R6b {boxes:List Int} {n:Nat} {H:Int} {all:List Gb} (hA:Met boxes n H all):∀ (f i:Nat) {l acc:List G8},J55 all i l→i < f→acc.length+l.length≤8000000 →
  loop (fun nx37 (s37:(List G8)×Int)=>bif decide (0 < s37.2) then (R2 all s37.2 fun y41=>need (decide (([y41.by_].length+s37.1.length)*16≤140737488355328∧[y41.by_].length+s37.1.length≤maxLen)) <| R2 all s37.2 fun y43=>nx37 (([y41.by_]++s37.1),y43.from_)) else (some (s37.1,(0:Int)))) f (acc,(i:Int))=some (l.reverse++acc,0)
 | 0,i,l,acc,h,hf,_=>by omega
 | f+1,_,_,acc,.stop,hf,hl=>by
  rw [loop]; rfl
 | f+1,i,_,acc,.go (z:=z) (j:=j) (l:=l) hz h0 h1 hj h,hf,hl=>by
  refine Y4 ?_
  rw [loop]
  rw [Kc] at hl
  have hd:decide (0 < ((acc,(i:Int)):(List G8)×Int).2)=true:=Es (by dsimp only; omega)
  rw [hd,cond_true]
  refine Qi rfl hz (Jz (Zb (by rw [Kh]; dsimp only; omega) (by decide)) (Qi rfl hz ?_))
  rw [h1]
  refine⟨_,R6b hA f j (acc:=[z.by_]++acc) h (by omega) (by rw [Kg,Kh]; omega),?_⟩
  simp

/-! ### The map of what is met -/
def Ra2 (boxes:List Int) (m:Qe Gr Int) (all:List Gb):Prop:=∀ s,Qe.has m s=true ↔ ∃ z∈all,G79 boxes z.y.Stacks=s
theorem R05 {κ ν:Type} [DecidableEq κ] (m:Qe κ ν) (a b:κ) (v:ν):Qe.has (Qe.put m a v) b=(decide (a=b)||Qe.has m b):=by
 unfold Qe.has Qe.put
 rw [← G5e,← G5e,H5b]
 by_cases h:a=b <;> simp [h]
theorem R86 {boxes:List Int} {n:Nat} {H:Int} {at_:Nat} {β:Type} {Q:β→Prop} {K:(List Gt)×(Qe Gr Int)→Option β}:∀ (l:List (G3×List (List Int))) {all:List Gb} {met:Qe Gr Int} (i:Nat),Met boxes n H all→at_ < all.length→(∀ x∈l,SmY boxes n H x.2)→Ra2 boxes met all→all.length+l.length≤9000000 →
  (∀ met',Ra2 boxes met' (G37 H (at_:Int) all l)→Wp (K ((G37 H (at_:Int) all l).map (cv boxes),met')) Q) →
  Wp (each (fun(y109:G3×Gr) i109 (s109:(List Gt)×(Qe Gr Int)) nx109=>bnd (some (Qe.get s109.2 y109.2 0)) fun v112=>bif (!(Qe.has s109.2 y109.2)) then (need (decide ((s109.1.length+[(Gt.mk y109.2 (at_:Int) y109.1)].length)*48≤140737488355328∧s109.1.length+[(Gt.mk y109.2 (at_:Int) y109.1)].length≤maxLen)) <| nx109 ((s109.1++[(Gt.mk y109.2 (at_:Int) y109.1)]),(Qe.put s109.2 y109.2 (s109.1.length:Int)))) else (nx109 (s109.1,s109.2))) K (l.map (J3e boxes)) i (all.map (cv boxes),met)) Q
 | [],all,met,i,hA,h0,hl,hm,hn,h=>h met hm
 | x::l,all,met,i,hA,h0,hl,hm,hn,h=>by
  have hx:=hl x (List.mem_cons_self ..)
  rw [Kc] at hn
  have h3:Qe.has met (G79 boxes x.2)=true ↔ ∃ z∈all,z.y.Stacks=x.2:=(hm _).trans ⟨fun⟨z,h1,h2⟩=>⟨z,h1,R41 (hA.ok z h1).1 hx h2⟩,fun⟨z,h1,h2⟩=>⟨z,h1,by rw [h2]⟩⟩
  have h4:=hA.addN h0 hx
  have ea:G37 H (at_:Int) all (x::l)=G37 H (at_:Int) (addN H (at_:Int) all x) l:=rfl
  rw [ea] at h
  rw [List.map_cons,each]
  refine Gk rfl (Hs (fun hf=>?_) (fun hf=>?_))
  ·have h6:¬ ∃ z∈all,z.y.Stacks=x.2:=fun g=>by
    have hf:(!(Qe.has met (G79 boxes x.2)))=true:=hf
    rw [h3.2 g] at hf; cases hf
   have en:addN H (at_:Int) all x=all++[⟨⟨x.2,H⟩,at_,⟨x.1.From,x.1.To⟩⟩]:=if_neg h6
   rw [en] at h h4
   refine Jz (Zb (by rw [Kk,Kh]; omega) (by decide)) ?_
   have ec:all.map (cv boxes)++[Gt.mk (J3e boxes x).2 (at_:Int) (J3e boxes x).1]=(all++[(⟨⟨x.2,H⟩,at_,⟨x.1.From,x.1.To⟩⟩:Gb)]).map (cv boxes):=by rw [List.map_append]; rfl
   rw [ec]
   refine R86 l (i+1) h4 (by rw [Kg]; omega) (fun y hy=>hl y (List.mem_cons_of_mem _ hy)) (fun s=>?_) (by rw [Kg,Kh]; omega) h
   rw [R05,Kr,Kj,hm s]
   constructor
   ·rintro(g | ⟨z,h1,h2⟩)
    ·exact⟨_,Km.2 (.inr (Ko.2 rfl)),g⟩
    ·exact⟨z,Km.2 (.inl h1),h2⟩
   ·rintro⟨z,h1,h2⟩
    rcases Km.1 h1 with h1 | h1
    ·exact .inr ⟨z,h1,h2⟩
    ·rw [Ko] at h1; subst h1; exact .inl h2
  ·have h5:∃ z∈all,z.y.Stacks=x.2:=by
    have hf:(!(Qe.has met (G79 boxes x.2)))=false:=hf
    exact h3.1 (by simpa using hf)
   have en:addN H (at_:Int) all x=all:=if_pos h5
   rw [en] at h
   exact R86 l (i+1) hA h0 (fun y hy=>hl y (List.mem_cons_of_mem _ hy)) hm (by omega) h
end Go.Proofs.Ytokjlondbjdlfaa
