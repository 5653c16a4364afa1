/-
 Moves: Small yards: The moves of a small yard,in order; Yards are told apart by their bytes and by where their boxes Check of program and reference. The search for the fewest moves: Way and place of program and reference;
-/
import Derived.Test.YtokjlondbjdlfaaMarC
set_option maxRecDepth 100000
set_option linter.unusedVariables false
namespace Go.Proofs.Ytokjlondbjdlfaa
open Go.RowKit

theorem H32 {v:List Int}:∀ {ss:List (List Int)} {i:Nat} {s:List Int},ss[i]? = some s→((ss.set i v).flatten++s).Perm (ss.flatten++v)
 | x::ss,0,s,h=>by
  simp at h; subst h
  rw [List.set_cons_zero,List.flatten_cons,List.flatten_cons]
  have h1:(v++ss.flatten++x).Perm (x++(v++ss.flatten)):=List.perm_append_comm
  have h2:(x++(v++ss.flatten)).Perm (x++(ss.flatten++v)):=List.perm_append_comm.append_left x
  rw [List.append_assoc] at h1
  rw [List.append_assoc,List.append_assoc]
  exact h1.trans h2
 | x::ss,i+1,s,h=>by
  rw [List.set_cons_succ,List.flatten_cons,List.flatten_cons,List.append_assoc,List.append_assoc]
  exact(H32 (ss:=ss) (by simpa using h)).append_left x
 | [],i,s,h=>by simp at h

structure Can (ss:List (List Int)) (h:Nat) (m:G5) (f t:Nat) (a b:List Int) (x:Int):Prop where
 from_:m.From=(f:Int)
 to_:m.To=(t:Int)
 ne:f≠t
 hf:ss[f]? = some (a++[x])
 ht:ss[t]? = some b
 room:b.length≠h
theorem Gc8 (ss:List (List Int)) (h:Nat) (m:G5):(Hw ss h m).2≠0∨∃ f t a b x,Can ss h m f t a b x:=by
 unfold Hw
 by_cases h1:(m.From < 0∨(ss.length:Int)≤m.From)∨m.To < 0∨(ss.length:Int)≤m.To
 ·rw [if_pos h1]; exact .inl (show (6:Int)≠0 by decide)
 rw [if_neg h1]
 by_cases h2:m.From=m.To
 ·rw [if_pos h2]; exact .inl (show (340:Int)≠0 by decide)
 rw [if_neg h2]
 by_cases h3:(ss.getD m.From.toNat []).length=0
 ·rw [if_pos h3]; exact .inl (show (341:Int)≠0 by decide)
 rw [if_neg h3]
 by_cases h4:(ss.getD m.To.toNat []).length=h
 ·rw [if_pos h4]; exact .inl (show (4:Int)≠0 by decide)
 obtain⟨f,hf⟩:∃ f:Nat,m.From=f:=⟨m.From.toNat,by omega⟩
 obtain⟨t,ht⟩:∃ t:Nat,m.To=t:=⟨m.To.toNat,by omega⟩
 rw [hf,ht] at h1 h2
 rw [hf,show ((f:Int)).toNat=f by omega] at h3
 rw [ht,show ((t:Int)).toNat=t by omega] at h4
 have h0:f < ss.length:=by omega
 have h5:t < ss.length:=by omega
 rw [List.getD_eq_getElem?_getD,Ew h0,Option.getD_some] at h3
 rw [List.getD_eq_getElem?_getD,Ew h5,Option.getD_some] at h4
 have h6:ss[f]≠[]:=fun e=>h3 (by rw [e]; rfl)
 exact .inr ⟨f,t,ss[f].dropLast,ss[t],ss[f].getLast h6,hf,ht,fun e=>h2 (by rw [e]),by rw [List.dropLast_concat_getLast,Ew h0],Ew h5,h4⟩
theorem Can.eq {ss:List (List Int)} {h:Nat} {m:G5} {f t:Nat} {a b:List Int} {x:Int} (c:Can ss h m f t a b x):Hw ss h m=((ss.set t (b++[x])).set f a,0):=by
 have h0:=(Ev c.hf).1
 have h1:=(Ev c.ht).1
 have e1:ss.getD f []=a++[x]:=by rw [List.getD_eq_getElem?_getD,c.hf]; rfl
 have e2:ss.getD t []=b:=by rw [List.getD_eq_getElem?_getD,c.ht]; rfl
 unfold Hw
 rw [c.from_,c.to_,show ((f:Int)).toNat=f by omega,show ((t:Int)).toNat=t by omega,e1,e2,if_neg (by omega),if_neg (by have:=c.ne; omega),if_neg (by simp),if_neg c.room]
 simp
theorem Can.perm {ss:List (List Int)} {h:Nat} {m:G5} {f t:Nat} {a b:List Int} {x:Int} (c:Can ss h m f t a b x):((ss.set t (b++[x])).set f a).flatten.Perm ss.flatten:=by
 have e:(ss.set t (b++[x]))[f]? = some (a++[x]):=by rw [List.getElem?_set_ne (Ne.symm c.ne)]; exact c.hf
 have h1:=H32 (v:=a) e
 have h2:=H32 (v:=b++[x]) c.ht
 rw [List.perm_iff_count] at *
 intro z
 have h1:=h1 z
 have h2:=h2 z
 simp only [List.count_append] at h1 h2
 omega
theorem Q2.shift {ss:List (List Int)} {H:Int} (hr:Q2 ss H) {m:G5} {f t:Nat} {a b:List Int} {x:Int} (c:Can ss H.toNat m f t a b x):Q2 ((ss.set t (b++[x])).set f a) H:=by
 have hp:=c.perm
 refine⟨hr.low,hr.high,by simpa using hr.some_,by simpa using hr.most,fun s hs=>?_,hp.nodup_iff.2 hr.nodup,fun z hz=>hr.ids z (hp.mem_iff.1 hz)⟩
 have hA:=hr.fit _ (Ey c.hf)
 have hB:=hr.fit _ (Ey c.ht)
 have:=c.room
 have:=hr.low
 simp only [Kg,Kh] at hA
 rcases List.mem_or_eq_of_mem_set hs with hs | rfl
 ·rcases List.mem_or_eq_of_mem_set hs with hs | rfl
  ·exact hr.fit s hs
  ·simp only [Kg,Kh]; omega
 ·omega

/-! ### The reference -/
def H1e (ss:List (List Int)) (k:Int) (v:List Int):List (List Int):=ss.mapIdx fun i s=>if (i:Int)=k then v else s
theorem J51 {ss:List (List Int)} {t:Nat} {v:List Int}:H1e ss (t:Int) v=ss.set t v:=by
 refine List.ext_getElem? fun i=>?_
 unfold H1e
 rw [List.getElem?_mapIdx,List.getElem?_set]
 by_cases e:t=i
 ·subst e
  rw [if_pos rfl]
  by_cases h:t < ss.length
  ·rw [if_pos h,Ew h]; simp
  ·rw [if_neg h,List.getElem?_eq_none (by omega)]; rfl
 ·rw [if_neg e]
  cases ss[i]? with
  | none=>rfl
  | some s=>simp only [Option.map_some]; rw [if_neg (by omega)]
theorem J7b {ss:List (List Int)} {H k:Int} {v:List Int} (hn:ss.length≤30) (hl:∀ s∈ss,s.length≤7) (hv:v.length≤7):Qt ⟨ss,H⟩ k v=some ⟨H1e ss k v,H⟩:=by
 refine Z0 ?_
 unfold Qt
 refine Qv (fun pre s=>s=(H1e pre k v,H)) rfl (fun pre x post s nx e hI h0=>?_) (fun s hI=>Hz (by rw [hI]))
 have e:ss=pre++x::post:=e
 subst hI
 have hp:pre.length < 30:=by
  have:=congrArg List.length e
  simp only [Kg,Kc] at this; omega
 have hx:=hl x (by rw [e]; simp)
 have hw:(H1e pre k v).length=pre.length:=by simp [H1e]
 have hs:H1e (pre++[x]) k v=H1e pre k v++[if (pre.length:Int)=k then v else x]:=List.mapIdx_concat
 refine H1d (fun r=>r=H1e (pre++[x]) k v) (fun K hK=>?_) (fun a ha=>h0 _ (by rw [ha]))
 rw [hs] at hK
 refine Jc (fun h=>?_) (fun h=>?_)
 ·have h:=Ep h
  refine Q4 (Zg (by rw [List.length_nil]; omega) (by decide)) (Q4 (Zg (by rw [Kh]; simp only [hw]; omega) (by decide)) (hK _ ?_))
  rw [if_pos h]; rfl
 ·have h:=Er h
  refine Q4 (Zg (by rw [List.length_nil]; omega) (by decide)) (Q4 (Zg (by rw [Kh]; simp only [hw]; omega) (by decide)) (hK _ ?_))
  rw [if_neg h]; rfl
def mv (m:G9):G5:=⟨m.From,m.To⟩
def G14 (ss:List (List Int)) (H:Int) (m:G5):List (List Int)×Int×Int:=if (Hw ss H.toNat m).2=0 then ((Hw ss H.toNat m).1,H,0) else ([],0,(Hw ss H.toNat m).2)
theorem Gfc {ss ss':List (List Int)} {H e:Int} {m:G5} (h:Hw ss H.toNat m=(ss',e)) (he:e≠0):((⟨[],0⟩:Gq),e)=(⟨(G14 ss H m).1,(G14 ss H m).2.1⟩,(G14 ss H m).2.2):=by
 unfold G14
 rw [h,if_neg he]
theorem Jb1 {ss ss':List (List Int)} {H:Int} {m:G5} (h:Hw ss H.toNat m=(ss',0)):((⟨ss',H⟩:Gq),(0:Int))=(⟨(G14 ss H m).1,(G14 ss H m).2.1⟩,(G14 ss H m).2.2):=by
 unfold G14
 rw [h,if_pos rfl]
theorem Hcb (F:Nat) {ss:List (List Int)} {H:Int} (hr:Q2 ss H) (m:G9):Jw F ⟨ss,H⟩ m=some (⟨(G14 ss H (mv m)).1,(G14 ss H (mv m)).2.1⟩,(G14 ss H (mv m)).2.2):=by
 refine Z0 ?_
 unfold Jw
 refine H0 (Hcc F ss H) ?_
 rw [Es hr]
 refine Jc (fun h=>by cases h) (fun _=>?_)
 have h8:=hr.low
 have hS:Hw ss H.toNat (mv m)=if (m.From < 0∨(ss.length:Int)≤m.From)∨m.To < 0∨(ss.length:Int)≤m.To then (ss,6)
  else if m.From=m.To then (ss,340)
  else if (ss.getD m.From.toNat []).length=0 then (ss,341)
  else if (ss.getD m.To.toNat []).length=H.toNat then (ss,4)
  else ((ss.set m.To.toNat (ss.getD m.To.toNat []++[(ss.getD m.From.toNat []).getLastD 0])).set m.From.toNat ((ss.getD m.From.toNat []).take ((ss.getD m.From.toNat []).length - 1)),0):=rfl
 refine Jc (fun h=>Hz ?_) (fun h=>?_)
 ·simp only [Kr,Kj] at h
  rw [if_pos (by omega)] at hS
  exact Gfc hS (by decide)
 simp only [Ks,decide_eq_false_iff_not] at h
 rw [if_neg (by omega)] at hS
 refine Jc (fun h2=>Hz ?_) (fun h2=>?_)
 ·rw [if_pos (Ep h2)] at hS
  exact Gfc hS (by decide)
 have h2:=Er h2
 rw [if_neg h2] at hS
 obtain⟨f,hf⟩:∃ f:Nat,m.From=f:=⟨m.From.toNat,by omega⟩
 obtain⟨t,ht⟩:∃ t:Nat,m.To=t:=⟨m.To.toNat,by omega⟩
 have h0:f < ss.length:=by omega
 have h1:t < ss.length:=by omega
 have gf:ss.getD m.From.toNat []=ss[f]:=by rw [hf,show ((f:Int)).toNat=f by omega,List.getD_eq_getElem?_getD,Ew h0]; rfl
 have gt:ss.getD m.To.toNat []=ss[t]:=by rw [ht,show ((t:Int)).toNat=t by omega,List.getD_eq_getElem?_getD,Ew h1]; rfl
 have lf:=hr.fit _ (List.getElem_mem h0)
 have lt:=hr.fit _ (List.getElem_mem h1)
 have hH:=hr.high
 rw [gf,gt] at hS
 refine Qn hf (Ew h0) (Qn ht (Ew h1) (Jc (fun h3=>Hz ?_) (fun h3=>?_)))
 ·have h3:=Ep h3
  rw [if_pos (by omega)] at hS
  exact Gfc hS (by decide)
 have h3:=Er h3
 rw [if_neg (by omega)] at hS
 refine Jc (fun h4=>Hz ?_) (fun h4=>?_)
 ·have h4:H≤(ss[t].length:Int):=Ep h4
  rw [if_pos (by omega)] at hS
  exact Gfc hS (by decide)
 have h4:¬ H≤(ss[t].length:Int):=Er h4
 rw [if_neg (by omega)] at hS
 have h5:ss[f]≠[]:=fun e=>h3 (by rw [e]; rfl)
 have h6:ss[f][ss[f].length - 1]? = some (ss[f].getLast h5):=by rw [List.getLast_eq_getElem,Ew]
 have h7:∀ s∈ss,s.length≤7:=fun s hs=>by have:=hr.len s hs; omega
 refine Q4 (Zg (by rw [List.length_nil]; omega) (by decide)) (Qk (by omega) (Qn (m:=ss[f].length - 1) (by omega) h6 (Q4 (Zg (by simp only [List.nil_append,Kh]; omega) (by decide)) ?_)))
 refine H0 (J7b hr.most h7 (by simp only [List.nil_append,Kg,Kh]; omega)) (Qk (by omega) (G05 (Yn (m:=ss[f].length - 1) (by omega) (by omega) ?_)))
 rw [ht,J51,hf]
 refine H0 (J7b (by simpa using hr.most) (fun s hs=>?_) (by rw [List.length_take]; omega)) (Hz ?_)
 ·rcases List.mem_or_eq_of_mem_set hs with hs | rfl
  ·exact h7 s hs
  ·simp only [List.nil_append,Kg,Kh]; omega
 ·rw [ht,hf,show ((f:Int)).toNat=f by omega,show ((t:Int)).toNat=t by omega,show ss[f].getLastD 0=ss[f].getLast h5 from List.getLastD_eq_getLast?.trans (by rw [List.getLast?_eq_some_getLast h5]; rfl)] at hS
  rw [J51,List.nil_append]
  exact Jb1 hS
theorem G59 {ss:List (List Int)} {H:Int} (hr:Q2 ss H) {m:G5} (h:(Hw ss H.toNat m).2=0):Q2 (Hw ss H.toNat m).1 H:=by
 rcases Gc8 ss H.toNat m with h' | ⟨f,t,a,b,x,c⟩
 ·exact(h' h).elim
 ·rw [c.eq]; exact hr.shift c
theorem Qce {ss:List (List Int)} {H:Int} (hr:Q2 ss H):YOk ⟨ss,H⟩=true:=by
 unfold YOk
 rw [Ki,List.all_eq_true]
 exact⟨Es ⟨hr.low,hr.high,hr.most⟩,fun s hs=>Es (hr.fit s hs)⟩

theorem wp_loop {β σ:Type} {Q:β→Prop} (I:σ→Prop) (μ:σ→Nat) {b:(σ→Option β)→σ→Option β} {F:Nat} {s:σ} (h0:I s) (hF:μ s < F)
  (hb:∀ s nx,I s→(∀ s',I s'→μ s' < μ s→Wp (nx s') Q)→Wp (b nx s) Q):Wp (loop b F s) Q:=by
 induction F generalizing s with
 | zero=>omega
 | succ F ih=>
  rw [loop]
  exact hb s _ h0 (fun s' h1 h2=>ih h1 (by omega))

def cellAt (ss:List (List Int)) (i k:Nat):Option Int:=(ss[i]?).bind (·[k]?)
theorem G5d {ss:List (List Int)} {i k:Nat} {s:List Int} (h:ss[i]? = some s):cellAt ss i k=s[k]? := by unfold cellAt; rw [h]; rfl
/-! ### Sorted -/
structure SmY (boxes:List Int) (n:Nat) (H:Int) (ss:List (List Int)):Prop where
 right:Q2 ss H
 len:ss.length=n
 few:n≤4
 in_:∀ b,b∈ss.flatten ↔ b∈boxes
theorem SmY.at_ {boxes:List Int} {n:Nat} {H:Int} {ss:List (List Int)} (h:SmY boxes n H ss) {i:Nat} (hi:i < n):∃ s,ss[i]? = some s∧s.length≤6∧(s.length:Int)≤H∧∀ b∈s,b∈boxes:=by
 have hi:i < ss.length:=by rw [h.len]; exact hi
 refine⟨ss[i],Ew hi,h.right.len _ (List.getElem_mem hi),h.right.fit _ (List.getElem_mem hi),fun b hb=>(h.in_ b).1 (List.mem_flatten.2 ⟨_,List.getElem_mem hi,hb⟩)⟩

/-! ### The reference -/

theorem Qb0:∀ (n:Nat) (l:List Nat),l.Nodup→(∀ x∈l,x < n)→l.length≤n
 | 0,l,_,h=>by
  cases l with
  | nil=>simp
  | cons x r=>exact absurd (h x (by simp)) (by omega)
 | n+1,l,hn,h=>by
  have h1:=Qb0 n (l.filter (fun x=>decide (x≠n))) (hn.filter _) (fun x hx=>by
   have:=Kq.1 hx
   have h2:=h x this.1
   have h3:=Ep this.2
   omega)
  have h2:l.count n≤1:=List.nodup_iff_count.1 hn n
  have h3:=List.length_eq_countP_add_countP (fun x=>decide (x≠n)) (l:=l)
  rw [← List.countP_eq_length_filter] at h1
  have h4:l.countP (fun a=>decide (¬ decide (a≠n)=true))=l.count n:=by
   unfold List.count
   congr 1
   funext a
   by_cases e:a=n <;> simp [e]
  rw [h4] at h3
  omega

theorem J6e {n:Nat} {a b:List (List Int)} (ha:a.length=n) (hb:b.length=n) (h:∀ i k,i < n→cellAt a i k=cellAt b i k):a=b:=by
 refine List.ext_getElem (by omega) fun i h1 h2=>List.ext_getElem? fun k=>?_
 have:=h i k (by omega)
 rw [G5d (Ew h1),G5d (Ew h2)] at this
 exact this
theorem SmY.Gcc {boxes:List Int} {n:Nat} {H:Int} {ss:List (List Int)} (h:SmY boxes n H ss) {i k:Nat} {b:Int} (hc:cellAt ss i k=some b):i < n∧k < 6∧b∈boxes:=by
 unfold cellAt at hc
 obtain⟨s,hs,hk⟩:=Option.bind_eq_some_iff.1 hc
 have hi:=(Ev hs).1
 rw [h.len] at hi
 obtain⟨s',h0,h6,_,hb⟩:=h.at_ hi
 rw [hs] at h0; cases h0
 have:=(Ev hk).1
 exact⟨hi,by omega,hb b (Ey hk)⟩
/-! ### Where the boxes stand -/
theorem H08 {b:Int}:∀ {ss:List (List Int)} {o i k:Nat} {s:List Int},ss.flatten.Nodup→ss[i]? = some s→s[k]? = some b→G34 b ss o=(((o+i:Nat):Int),(k:Int),true)
 | [],o,i,k,s,_,h,_=>by simp at h
 | x::ss,o,0,k,s,hn,h,hk=>by
  simp at h; subst h
  have hm:b∈x:=Ey hk
  rw [G34,if_pos hm]
  have hx:x.Nodup:=(List.nodup_append.1 (by rw [List.flatten_cons] at hn; exact hn)).1
  have hl:=(Ev hk).1
  have h1:x[k]=b:=by rw [Ew hl] at hk; exact Ex hk
  have:x.idxOf b=k:=by
   have hi:=List.idxOf_lt_length_of_mem hm
   exact(List.getElem?_inj hi hx).1 (by rw [Ew hi,List.getElem_idxOf hi,hk])
  rw [this]; simp
 | x::ss,o,i+1,k,s,hn,h,hk=>by
  rw [List.flatten_cons] at hn
  have h0:=List.nodup_append.1 hn
  have h:ss[i]? = some s:=by simpa using h
  have hm:b∈ss.flatten:=List.mem_flatten.2 ⟨s,Ey h,Ey hk⟩
  have hx:b ∉ x:=fun hb=>h0.2.2 b hb b hm rfl
  rw [G34,if_neg hx,H08 h0.2.1 h hk]
  simp only [Prod.mk.injEq,and_true]
  omega
theorem J16 {b:Int} {ss:List (List Int)} (h:b∈ss.flatten):∃ i k,cellAt ss i k=some b:=by
 obtain⟨s,hs,hb⟩:=List.mem_flatten.1 h
 obtain⟨i,hi⟩:=List.mem_iff_getElem?.1 hs
 obtain⟨k,hk⟩:=List.mem_iff_getElem?.1 hb
 exact⟨i,k,by rw [G5d hi]; exact hk⟩
def J47 (ss:List (List Int)) (b:Int):Nat:=(G34 b ss 0).1.toNat*6+(G34 b ss 0).2.1.toNat
theorem Hba {boxes:List Int} {n:Nat} {H:Int} {ss:List (List Int)} (h:SmY boxes n H ss) {i k:Nat} {b:Int} (hc:cellAt ss i k=some b):J47 ss b=i*6+k:=by
 unfold cellAt at hc
 obtain⟨s,hs,hk⟩:=Option.bind_eq_some_iff.1 hc
 unfold J47
 rw [H08 h.right.nodup hs hk]
 dsimp only
 omega
theorem J85 {boxes:List Int} {n:Nat} {H:Int} {ss:List (List Int)} (h:SmY boxes n H ss) {b:Int} (hb:b∈boxes):J47 ss b < 24:=by
 obtain⟨i,k,hc⟩:=J16 ((h.in_ b).2 hb)
 have:=h.Gcc hc
 have:=h.few
 rw [Hba h hc]; omega
def H33 (ss:List (List Int)):List Int→Nat
 | []=>0
 | b::r=>J47 ss b+24*H33 ss r
theorem Jcd {boxes:List Int} {n:Nat} {H:Int} {ss:List (List Int)} (h:SmY boxes n H ss):∀ l:List Int,(∀ b∈l,b∈boxes)→H33 ss l < 24 ^ l.length
 | [],_=>by simp [H33]
 | b::r,hl=>by
  have h1:=J85 h (hl b (List.mem_cons_self ..))
  have h2:=Jcd h r (fun x hx=>hl x (List.mem_cons_of_mem _ hx))
  rw [H33,Kc,Nat.pow_succ]
  omega
theorem J6d {boxes:List Int} {n:Nat} {H:Int} {a c:List (List Int)} (ha:SmY boxes n H a) (hc:SmY boxes n H c):∀ l:List Int,(∀ b∈l,b∈boxes)→H33 a l=H33 c l→∀ b∈l,J47 a b=J47 c b
 | [],_,_,b,hb=>by simp at hb
 | x::r,hl,h,b,hb=>by
  rw [H33,H33] at h
  have h1:=J85 ha (hl x (List.mem_cons_self ..))
  have h2:=J85 hc (hl x (List.mem_cons_self ..))
  have e1:J47 a x=J47 c x:=by omega
  rcases Kp.1 hb with rfl | hb
  ·exact e1
  ·exact J6d ha hc r (fun x hx=>hl x (List.mem_cons_of_mem _ hx)) (by omega) b hb
theorem Qa4 {boxes:List Int} {n:Nat} {H:Int} {a c:List (List Int)} (ha:SmY boxes n H a) (hc:SmY boxes n H c) (h:H33 a boxes=H33 c boxes):a=c:=by
 have hp:=J6d ha hc boxes (fun _ h=>h) h
 have one:∀ {a c:List (List Int)},SmY boxes n H a→SmY boxes n H c→(∀ b∈boxes,J47 a b=J47 c b)→∀ i k b,cellAt a i k=some b→cellAt c i k=some b:=fun {a c} ha hc hp i k b h3=>by
  have hl:=ha.Gcc h3
  obtain⟨i',k',h0⟩:=J16 ((hc.in_ b).2 hl.2.2)
  have h4:=hc.Gcc h0
  have e:=hp b hl.2.2
  rw [Hba ha h3,Hba hc h0] at e
  have e1:i=i':=by omega
  have e2:k=k':=by omega
  rw [e1,e2]; exact h0
 refine J6e ha.len hc.len fun i k _=>?_
 cases h1:cellAt a i k with
 | some b=>exact(one ha hc hp i k b h1).symm
 | none=>
  cases h2:cellAt c i k with
  | none=>rfl
  | some b=>rw [one hc ha (fun b hb=>(hp b hb).symm) i k b h2] at h1; cases h1

/-! ### What is met -/
structure Met (boxes:List Int) (n:Nat) (H:Int) (all:List Gg):Prop where
 ok:∀ z∈all,SmY boxes n H z.y.Stacks∧z.y.Height=H
 nodup:(all.map (·.y.Stacks)).Nodup
 first:∃ z,all[0]? = some z∧z.from_ = -1
 from_:∀ (i:Nat) z,all[i]? = some z→0 < i→∃ j:Nat,z.from_=(j:Int)∧j < i
theorem Met.len {boxes:List Int} {n:Nat} {H:Int} {all:List Gg} (h:Met boxes n H all) (hb:boxes.length≤5):all.length≤7962624:=by
 have hn:(all.map fun z=>H33 z.y.Stacks boxes).Nodup:=by
  have:=h.nodup
  unfold List.Nodup at this ⊢
  rw [List.pairwise_map] at this ⊢
  exact this.imp_of_mem fun {a c} ha hc h0 e=>h0 (Qa4 (h.ok a ha).1 (h.ok c hc).1 e)
 have:=Qb0 7962624 _ hn (fun x hx=>by
  obtain⟨z,hz,rfl⟩:=Kn.1 hx
  have h1:=Jcd (h.ok z hz).1 boxes (fun _ h=>h)
  have h2:24 ^ boxes.length≤24 ^ 5:=Nat.pow_le_pow_right (by decide) hb
  have h3:(24:Nat) ^ 5=7962624:=by decide
  omega)
 rwa [Kk] at this

theorem Ga5 {α β:Type} {Q:β→Prop} {c:Bool} {m d:Option α} {x:α} {k:α→Option β} (hc:c=true) (e:m=some x) (h:Wp (k x) Q):Wp (bnd (bif c then m else d) k) Q:=by
 subst hc
 exact H0 e h
theorem R2c {α β:Type} {Q:β→Prop} {c:Bool} {m:Option α} {x:α} {k:α→Option β} (hc:c=false) (h:Wp (k x) Q):Wp (bnd (bif c then m else some x) k) Q:=by
 subst hc
 exact h
theorem H52 (l:List G5):Jt l l=some true:=by
 unfold Jt
 refine Q4b (fun i y nx hy=>?_)
 rw [G9e hy,Es rfl]; rfl

/-! ### A list the other way round -/
/-! ### The way back to the first yard -/
/-! ### The map of what is met -/
open Go.RowKit Go.Sort Go.Shelf

/-! ### The reference's sort -/
/-! ### The place -/
def mnL (order:List Int) (s:List Int):Nat:=s.foldl (fun m b=>min m (rnk order b)) (order.length+1)
theorem Jbf (order:List Int) (s:List Int) (b:Int):mnL order (s++[b])=min (mnL order s) (rnk order b):=by
 unfold mnL; rw [List.foldl_append]; rfl
def okP (H:Int) (order:List Int) (from_ rank:Nat) (i:Nat) (s:List Int):Prop:=i≠from_∧(s.length:Int) < H∧rank≤mnL order s
def Hae (ss:List (List Int)) (H:Int) (order:List Int) (from_ rank:Nat) (D:Nat→Prop) (out:Int):Prop:=
 (out = -1∧∀ i s,D i→ss[i]? = some s→¬ okP H order from_ rank i s) ∨
 ∃ (i:Nat) (s:List Int),out=(i:Int)∧D i∧ss[i]? = some s∧okP H order from_ rank i s∧∀ j t,D j→ss[j]? = some t→okP H order from_ rank j t→mnL order s≤mnL order t∧(mnL order s=mnL order t→i≤j)
theorem Hae.uniq {ss:List (List Int)} {H:Int} {order:List Int} {from_ rank:Nat} {D E:Nat→Prop} (h0:∀ i,i < ss.length→(D i ↔ E i)) {a b:Int} (ha:Hae ss H order from_ rank D a) (hb:Hae ss H order from_ rank E b):a=b:=by
 have lt:∀ {i s},ss[i]? = some s→i < ss.length:=fun h=>(Ev h).1
 rcases ha with ⟨rfl,h1⟩ | ⟨i,s,rfl,d1,g1,o1,h1⟩
 ·rcases hb with ⟨rfl,_⟩ | ⟨j,t,rfl,d2,g2,o2,h2⟩
  ·rfl
  ·exact absurd o2 (h1 j t ((h0 j (lt g2)).2 d2) g2)
 ·rcases hb with ⟨rfl,h2⟩ | ⟨j,t,rfl,d2,g2,o2,h2⟩
  ·exact absurd o1 (h2 i s ((h0 i (lt g1)).1 d1) g1)
  ·have p1:=h1 j t ((h0 j (lt g2)).2 d2) g2 o2
   have p2:=h2 i s ((h0 i (lt g1)).1 d1) g1 o1
   have e:mnL order s=mnL order t:=by omega
   have:=p1.2 e
   have:=p2.2 e.symm
   have:i=j:=by omega
   rw [this]
theorem Q1e {ss:List (List Int)} {H:Int} {order:List Int} (hr:Q2 ss H) (ho:order.length≤1000000) (from_ rank:Nat):Wp (R0 ⟨ss,H⟩ order (from_:Int) (rank:Int)) (Hae ss H order from_ rank (fun _=>True)):=by
 unfold R0
 refine Qv (fun pre s=>Hae ss H order from_ rank (fun i=>i < pre.length) s.1∧∀ (i:Nat) t,s.1=(i:Int)→ss[i]? = some t→s.2=(mnL order t:Int)) ⟨.inl ⟨rfl,fun i s h=>by simp at h⟩,fun i t h=>by dsimp only at h; omega⟩ (fun pre x post s nx e hI a1=>?_) (fun s hI=>Hz ?_)
 ·have e:ss=pre++x::post:=e
  have hx:ss[pre.length]? = some x:=by rw [e]; simp
  have a2:=hr.fit x (Ey hx)
  obtain⟨hB,hv⟩:=hI
  refine H1d (fun r=>Hae ss H order from_ rank (fun i=>i < (pre++[x]).length) r.1∧∀ (i:Nat) t,r.1=(i:Int)→ss[i]? = some t→r.2=(mnL order t:Int)) (fun K hK=>?_) (fun a ha=>a1 _ ha)
  rw [Kg,Kh] at hK
  -- no, or not better
  have stay:(okP H order from_ rank pre.length x→0≤s.1∧s.2≤(mnL order x:Int))→Wp (K (s.1,s.2)) _:=fun h8=>hK _ ⟨by
   rcases hB with ⟨h1,h2⟩ | ⟨i,t,h1,h2,h3,h4,h5⟩
   ·refine .inl ⟨h1,fun j u hj hu=>?_⟩
    by_cases ej:j=pre.length
    ·subst ej
     rw [hx] at hu; cases hu
     intro ho
     have:=(h8 ho).1; omega
    ·exact h2 j u (by omega) hu
   ·refine .inr ⟨i,t,h1,by omega,h3,h4,fun j u hj hu h9=>?_⟩
    by_cases ej:j=pre.length
    ·subst ej
     rw [hx] at hu; cases hu
     have g1:=(h8 h9).2
     rw [hv i t h1 h3] at g1
     exact⟨by omega,fun _=>by omega⟩
    ·exact h5 j u (by omega) hu h9,hv⟩
  refine Jc (fun h=>stay fun h0=>?_) (fun h=>?_)
  ·simp only [Kr,Kj] at h
   have:=h0.1; have:=h0.2.1
   omega
  ·simp only [Ks,decide_eq_false_iff_not] at h
   refine Qk (by omega) ?_
   refine Qv (fun pr z=>z=(mnL order pr:Int)) (by unfold mnL; simp) (fun pr b po z nx' e' hJ a0=>?_) (fun z hJ=>?_)
   ·subst hJ
    refine H0 (Ha8 order b) (a0 _ ?_)
    rw [Jbf]; omega
   ·have hJ:z=(mnL order x:Int):=hJ
    subst hJ
    refine Jc (fun h2=>hK _ ⟨.inr ⟨pre.length,x,rfl,by omega,hx,⟨by omega,by omega,?_⟩,fun j t hj ht h0=>?_⟩,fun i t hi ht=>?_⟩) (fun h2=>stay fun h0=>?_)
    ·simp only [Ki,Kr,Kj] at h2; omega
    ·simp only [Ki,Kr,Kj] at h2
     by_cases ej:j=pre.length
     ·subst ej
      rw [hx] at ht; cases ht
      exact⟨K0,fun _=>K0⟩
     ·rcases hB with ⟨h3,h4⟩ | ⟨i,u,h3,h4,h5,h6,h7⟩
      ·exact absurd h0 (h4 j t (by omega) ht)
      ·have g1:=h7 j t (by omega) ht h0
       have g2:=hv i u h3 h5
       rw [g2] at h2
       exact⟨by omega,fun _=>by omega⟩
    ·have hi:(pre.length:Int)=(i:Int):=hi
     have:i=pre.length:=by omega
     subst this
     rw [hx] at ht; cases ht; rfl
    ·have:=h0.2.2
     simp only [Bool.and_eq_false_iff,Ks,decide_eq_false_iff_not] at h2
     omega
 ·have hI:Hae ss H order from_ rank (fun i=>i < ss.length) s.1:=hI.1
  rcases hI with ⟨h1,h2⟩ | ⟨i,t,h1,h2,h3,h4,h5⟩
  ·exact .inl ⟨h1,fun j u _ hu=>h2 j u (Ev hu).1 hu⟩
  ·exact .inr ⟨i,t,h1,trivial,h3,h4,fun j u _ hu=>h5 j u (Ev hu).1 hu⟩
theorem J5b {order s:List Int} (ho:order.length≤1000000):R2 s order=some (mnL order s:Int):=by
 refine Z0 ?_
 unfold R2
 refine Qk (by omega) (Qv (fun pr z=>z=(mnL order pr:Int)) (by unfold mnL; simp) (fun pr b po z nx' e' hJ h0=>?_) (fun z hJ=>Hz hJ))
 subst hJ
 refine H1d (fun r=>r=(mnL order (pr++[b]):Int)) (fun K hK=>?_) (fun a ha=>h0 _ ha)
 rw [Jbf] at hK
 refine H0 (G8e order b) (Jc (fun h=>H0 (G8e order b) (hK _ ?_)) (fun h=>hK _ ?_))
 ·have:=Ep h; omega
 ·have:=Er h; omega
theorem Jb5 {F:Nat} (hF:400 < F) {ss:List (List Int)} {H:Int} {order:List Int} (hr:Q2 ss H) (ho:order.length≤1000000) (from_:Nat) (box:Int):Wp (Q5 F ⟨ss,H⟩ order (from_:Int) box) (Hae ss H order from_ (rnk order box) (fun _=>True)):=by
 unfold Q5
 have h9:=hr.most
 have a0:=hr.some_
 refine Qk (by dsimp only; omega) ?_
 refine wp_loop (fun z=>∃ k:Nat,z.2=(k:Int) - 1∧k≤ss.length∧Hae ss H order from_ (rnk order box) (fun i=>k≤i) z.1) (fun z=>(z.2+1).toNat) ⟨ss.length,rfl,K0,.inl ⟨rfl,fun i s h1 h2=>by have:=(Ev h2).1; omega⟩⟩ (by dsimp only; omega) (fun z nx hz h8=>?_)
 obtain⟨out,kz⟩:=z
 obtain⟨k,hk,a1,hB⟩:=hz
 have hk:kz=(k:Int) - 1:=hk
 subst hk
 have hB:Hae ss H order from_ (rnk order box) (fun i=>k≤i) out:=hB
 refine Jc (fun h=>?_) (fun h=>Hz ?_)
 ·have h:(0:Int)≤(k:Int) - 1:=Ep h
  obtain⟨m,rfl⟩:∃ m,k=m+1:=⟨k - 1,by omega⟩
  have em:((m+1:Nat):Int) - 1=(m:Int):=by omega
  have hx:ss[m]? = some ss[m]:=Ew (by omega)
  dsimp only
  rw [em]
  refine H1d (fun r=>Hae ss H order from_ (rnk order box) (fun i=>m≤i) r) (fun K hK=>?_) (fun a ha=>Qk (by omega) (h8 _ ⟨m,by dsimp only,by omega,ha⟩ (by dsimp only; omega)))
  have skip:(okP H order from_ (rnk order box) m ss[m]→∃ (i:Nat) (t:List Int),out=(i:Int)∧ss[i]? = some t∧mnL order t < mnL order ss[m])→Wp (K out) _:=fun h7=>hK _ (by
   rcases hB with ⟨h1,h2⟩ | ⟨i,t,h1,h2,h3,h4,h5⟩
   ·refine .inl ⟨h1,fun j u hj hu=>?_⟩
    by_cases ej:j=m
    ·subst ej
     rw [hx] at hu; cases hu
     intro ho
     obtain⟨i,t,g1,_⟩:=h7 ho
     omega
    ·exact h2 j u (by omega) hu
   ·refine .inr ⟨i,t,h1,by omega,h3,h4,fun j u hj hu h6=>?_⟩
    by_cases ej:j=m
    ·subst ej
     rw [hx] at hu; cases hu
     obtain⟨i',t',g1,g2,g3⟩:=h7 h6
     have:i=i':=by omega
     subst this
     rw [h3] at g2; cases g2
     exact⟨by omega,fun _=>by omega⟩
    ·exact h5 j u (by omega) hu h6)
  refine Qn rfl hx (H0 (J5b ho) ?_)
  by_cases c1:(m:Int)≠(from_:Int)
  case neg=>
   have e1:decide ((m:Int)≠(from_:Int))=false:=Eu c1
   rw [e1]
   exact H0 (x:=default) rfl (H0 (x:=default) rfl (H0 (x:=default) rfl (H0 (x:=default) rfl (Jc (fun h=>by cases h) (fun _=>skip fun h0=>absurd h0.1 (by omega))))))
  have e1:decide ((m:Int)≠(from_:Int))=true:=Es c1
  rw [e1]
  refine Ga5 rfl (G9e hx _) ?_
  by_cases c2:(ss[m].length:Int) < H
  case neg=>
   have e2:decide ((ss[m].length:Int) < H)=false:=Eu c2
   rw [e2]
   exact H0 (x:=default) rfl (H0 (x:=default) rfl (H0 (x:=default) rfl (Jc (fun h=>by cases h) (fun _=>skip fun h0=>absurd h0.2.1 c2))))
  have e2:decide ((ss[m].length:Int) < H)=true:=Es c2
  rw [e2]
  refine Ga5 rfl (G8e order box) ?_
  by_cases c3:(rnk order box:Int)≤(mnL order ss[m]:Int)
  case neg=>
   have e3:decide ((rnk order box:Int)≤(mnL order ss[m]:Int))=false:=Eu c3
   rw [e3]
   exact H0 (x:=default) rfl (H0 (x:=default) rfl (Jc (fun h=>by cases h) (fun _=>skip fun h0=>absurd h0.2.2 (by omega))))
  have e3:decide ((rnk order box:Int)≤(mnL order ss[m]:Int))=true:=Es c3
  rw [e3]
  have h0:okP H order from_ (rnk order box) m ss[m]:=⟨by omega,c2,by omega⟩
  rcases hB with ⟨h1,h2⟩ | ⟨i,t,h1,h2,h3,h4,h5⟩
  ·subst h1
   refine H0 (x:=default) rfl (H0 (x:=default) rfl (Jc (fun _=>hK _ (.inr ⟨m,ss[m],rfl,K0,hx,h0,fun j u hj hu h6=>?_⟩)) (fun h=>by cases h)))
   by_cases ej:j=m
   ·subst ej
    rw [hx] at hu; cases hu
    exact⟨K0,fun _=>K0⟩
   ·exact absurd h6 (h2 j u (by omega) hu)
  ·subst h1
   have e4:decide ((i:Int) < 0)=false:=Eu (by omega)
   rw [e4]
   refine Ga5 rfl (G9e h3 _) (Ga5 rfl (J5b ho) (Jc (fun h=>hK _ (.inr ⟨m,ss[m],rfl,K0,hx,h0,fun j u hj hu h6=>?_⟩)) (fun h=>skip fun _=>⟨i,t,rfl,h3,?_⟩)))
   ·simp only [Bool.true_and,Bool.false_or,Kj] at h
    by_cases ej:j=m
    ·subst ej
     rw [hx] at hu; cases hu
     exact⟨K0,fun _=>K0⟩
    ·have:=h5 j u (by omega) hu h6
     exact⟨by omega,fun _=>by omega⟩
   ·simp only [Bool.true_and,Bool.false_or,decide_eq_false_iff_not] at h
    omega
 ·have h:¬ (0:Int)≤(k:Int) - 1:=Er h
  have:k=0:=by omega
  subst this
  rcases hB with ⟨h1,h2⟩ | ⟨i,t,h1,h2,h3,h4,h5⟩
  ·exact .inl ⟨h1,fun j u _ hu=>h2 j u (Nat.zero_le _) hu⟩
  ·exact .inr ⟨i,t,h1,trivial,h3,h4,fun j u _ hu=>h5 j u (Nat.zero_le _) hu⟩
theorem places {F:Nat} (hF:400 < F) {ss:List (List Int)} {H:Int} {order:List Int} (hr:Q2 ss H) (ho:order.length≤1000000) (from_:Nat) (box:Int):∃ v,R0 ⟨ss,H⟩ order (from_:Int) (rnk order box:Int)=some v∧Q5 F ⟨ss,H⟩ order (from_:Int) box=some v∧Hae ss H order from_ (rnk order box) (fun _=>True) v:=by
 obtain⟨v,h1,h2⟩:=Q1e hr ho from_ (rnk order box)
 obtain⟨u,h3,h4⟩:=Jb5 hF hr ho from_ box
 have:=Hae.uniq (fun i _=>Iff.rfl) h2 h4
 subst this
 exact⟨v,h1,h3,h2⟩
end Go.Proofs.Ytokjlondbjdlfaa
