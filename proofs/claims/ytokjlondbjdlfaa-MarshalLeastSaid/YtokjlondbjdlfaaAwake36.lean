/-
 Moves: Small yards: The moves of a small yard,in order; Yards are told apart by their bytes and by where their boxes The examples of chapter 36.
-/
import Derived.Test.YtokjlondbjdlfaaMarC
import Derived.Test.YtokjlondbjdlfaaXD
import Derived.Test.YtokjlondbjdlfaaLentY
set_option maxRecDepth 100000
set_option linter.unusedVariables false
namespace Go.Proofs.Ytokjlondbjdlfaa
open Go.RowKit

theorem H1c {v:List Int}:∀ {ss:List (List Int)} {i:Nat} {s:List Int},ss[i]? = some s→((ss.set i v).flatten++s).Perm (ss.flatten++v)
 | x::ss,0,s,h=>by
  simp at h; subst h
  rw [List.set_cons_zero,List.flatten_cons,List.flatten_cons]
  have h1:(v++ss.flatten++x).Perm (x++(v++ss.flatten)):=List.perm_append_comm
  have h2:(x++(v++ss.flatten)).Perm (x++(ss.flatten++v)):=List.perm_append_comm.append_left x
  rw [List.append_assoc] at h1
  rw [List.append_assoc,List.append_assoc]
  exact h1.trans h2
 | x::ss,i+1,s,h=>by
  rw [List.set_cons_succ,List.flatten_cons,List.flatten_cons,List.append_assoc,List.append_assoc]
  exact(H1c (ss:=ss) (by simpa using h)).append_left x
 | [],i,s,h=>by simp at h

structure Can (ss:List (List Int)) (h:Nat) (m:G5) (f t:Nat) (a b:List Int) (x:Int):Prop where
 from_:m.From=(f:Int)
 to_:m.To=(t:Int)
 ne:f≠t
 hf:ss[f]? = some (a++[x])
 ht:ss[t]? = some b
 room:b.length≠h
theorem Gc3 (ss:List (List Int)) (h:Nat) (m:G5):(Hw ss h m).2≠0∨∃ f t a b x,Can ss h m f t a b x:=by
 unfold Hw
 by_cases h1:(m.From < 0∨(ss.length:Int)≤m.From)∨m.To < 0∨(ss.length:Int)≤m.To
 ·rw [if_pos h1]; exact .inl (show (6:Int)≠0 by decide)
 rw [if_neg h1]
 by_cases h2:m.From=m.To
 ·rw [if_pos h2]; exact .inl (show (340:Int)≠0 by decide)
 rw [if_neg h2]
 by_cases h3:(ss.getD m.From.toNat []).length=0
 ·rw [if_pos h3]; exact .inl (show (341:Int)≠0 by decide)
 rw [if_neg h3]
 by_cases h4:(ss.getD m.To.toNat []).length=h
 ·rw [if_pos h4]; exact .inl (show (4:Int)≠0 by decide)
 obtain⟨f,hf⟩:∃ f:Nat,m.From=f:=⟨m.From.toNat,by omega⟩
 obtain⟨t,ht⟩:∃ t:Nat,m.To=t:=⟨m.To.toNat,by omega⟩
 rw [hf,ht] at h1 h2
 rw [hf,show ((f:Int)).toNat=f by omega] at h3
 rw [ht,show ((t:Int)).toNat=t by omega] at h4
 have h0:f < ss.length:=by omega
 have h5:t < ss.length:=by omega
 rw [List.getD_eq_getElem?_getD,Ex h0,Option.getD_some] at h3
 rw [List.getD_eq_getElem?_getD,Ex h5,Option.getD_some] at h4
 have h6:ss[f]≠[]:=fun e=>h3 (by rw [e]; rfl)
 exact .inr ⟨f,t,ss[f].dropLast,ss[t],ss[f].getLast h6,hf,ht,fun e=>h2 (by rw [e]),by rw [List.dropLast_concat_getLast,Ex h0],Ex h5,h4⟩
theorem Can.eq {ss:List (List Int)} {h:Nat} {m:G5} {f t:Nat} {a b:List Int} {x:Int} (c:Can ss h m f t a b x):Hw ss h m=((ss.set t (b++[x])).set f a,0):=by
 have h0:=(Ew c.hf).1
 have h1:=(Ew c.ht).1
 have e1:ss.getD f []=a++[x]:=by rw [List.getD_eq_getElem?_getD,c.hf]; rfl
 have e2:ss.getD t []=b:=by rw [List.getD_eq_getElem?_getD,c.ht]; rfl
 unfold Hw
 rw [c.from_,c.to_,show ((f:Int)).toNat=f by omega,show ((t:Int)).toNat=t by omega,e1,e2,if_neg (by omega),if_neg (by have:=c.ne; omega),if_neg (by simp),if_neg c.room]
 simp
theorem Can.perm {ss:List (List Int)} {h:Nat} {m:G5} {f t:Nat} {a b:List Int} {x:Int} (c:Can ss h m f t a b x):((ss.set t (b++[x])).set f a).flatten.Perm ss.flatten:=by
 have e:(ss.set t (b++[x]))[f]? = some (a++[x]):=by rw [List.getElem?_set_ne (Ne.symm c.ne)]; exact c.hf
 have h1:=H1c (v:=a) e
 have h2:=H1c (v:=b++[x]) c.ht
 rw [List.perm_iff_count] at *
 intro z
 have h1:=h1 z
 have h2:=h2 z
 simp only [List.count_append] at h1 h2
 omega
theorem Qq.shift {ss:List (List Int)} {H:Int} (hr:Qq ss H) {m:G5} {f t:Nat} {a b:List Int} {x:Int} (c:Can ss H.toNat m f t a b x):Qq ((ss.set t (b++[x])).set f a) H:=by
 have hp:=c.perm
 refine⟨hr.low,hr.high,by simpa using hr.some_,by simpa using hr.most,fun s hs=>?_,hp.nodup_iff.2 hr.nodup,fun z hz=>hr.ids z (hp.mem_iff.1 hz)⟩
 have hA:=hr.fit _ (Ez c.hf)
 have hB:=hr.fit _ (Ez c.ht)
 have:=c.room
 have:=hr.low
 simp only [Kh,Ki] at hA
 rcases List.mem_or_eq_of_mem_set hs with hs | rfl
 ·rcases List.mem_or_eq_of_mem_set hs with hs | rfl
  ·exact hr.fit s hs
  ·simp only [Kh,Ki]; omega
 ·omega

/-! ### The reference -/
def H0f (ss:List (List Int)) (k:Int) (v:List Int):List (List Int):=ss.mapIdx fun i s=>if (i:Int)=k then v else s
theorem J36 {ss:List (List Int)} {t:Nat} {v:List Int}:H0f ss (t:Int) v=ss.set t v:=by
 refine List.ext_getElem? fun i=>?_
 unfold H0f
 rw [List.getElem?_mapIdx,List.getElem?_set]
 by_cases e:t=i
 ·subst e
  rw [if_pos rfl]
  by_cases h:t < ss.length
  ·rw [if_pos h,Ex h]; simp
  ·rw [if_neg h,List.getElem?_eq_none (by omega)]; rfl
 ·rw [if_neg e]
  cases ss[i]? with
  | none=>rfl
  | some s=>simp only [Option.map_some]; rw [if_neg (by omega)]
theorem J58 {ss:List (List Int)} {H k:Int} {v:List Int} (hn:ss.length≤30) (hl:∀ s∈ss,s.length≤7) (hv:v.length≤7):Qi ⟨ss,H⟩ k v=some ⟨H0f ss k v,H⟩:=by
 refine Yi ?_
 unfold Qi
 refine Qf (fun pre s=>s=(H0f pre k v,H)) rfl (fun pre x post s nx e hI h0=>?_) (fun s hI=>Hs (by rw [hI]))
 have e:ss=pre++x::post:=e
 subst hI
 have hp:pre.length < 30:=by
  have:=congrArg List.length e
  simp only [Kh,Kd] at this; omega
 have hx:=hl x (by rw [e]; simp)
 have hw:(H0f pre k v).length=pre.length:=by simp [H0f]
 have hs:H0f (pre++[x]) k v=H0f pre k v++[if (pre.length:Int)=k then v else x]:=List.mapIdx_concat
 refine J35 (fun r=>r=H0f (pre++[x]) k v) (fun K hK=>?_) (fun a ha=>h0 _ (by rw [ha]))
 rw [hs] at hK
 refine Jt (fun h=>?_) (fun h=>?_)
 ·have h:=Er h
  refine Qk (G28 (by rw [List.length_nil]; omega) (by decide)) (Qk (G28 (by rw [Ki]; simp only [hw]; omega) (by decide)) (hK _ ?_))
  rw [if_pos h]; rfl
 ·have h:=Es h
  refine Qk (G28 (by rw [List.length_nil]; omega) (by decide)) (Qk (G28 (by rw [Ki]; simp only [hw]; omega) (by decide)) (hK _ ?_))
  rw [if_neg h]; rfl
def mv (m:G8):G5:=⟨m.From,m.To⟩
def G71 (ss:List (List Int)) (H:Int) (m:G5):List (List Int)×Int×Int:=if (Hw ss H.toNat m).2=0 then ((Hw ss H.toNat m).1,H,0) else ([],0,(Hw ss H.toNat m).2)
theorem Gf1 {ss ss':List (List Int)} {H e:Int} {m:G5} (h:Hw ss H.toNat m=(ss',e)) (he:e≠0):((⟨[],0⟩:Gs),e)=(⟨(G71 ss H m).1,(G71 ss H m).2.1⟩,(G71 ss H m).2.2):=by
 unfold G71
 rw [h,if_neg he]
theorem J86 {ss ss':List (List Int)} {H:Int} {m:G5} (h:Hw ss H.toNat m=(ss',0)):((⟨ss',H⟩:Gs),(0:Int))=(⟨(G71 ss H m).1,(G71 ss H m).2.1⟩,(G71 ss H m).2.2):=by
 unfold G71
 rw [h,if_pos rfl]
theorem J51 (F:Nat) {ss:List (List Int)} {H:Int} (hr:Qq ss H) (m:G8):Jy F ⟨ss,H⟩ m=some (⟨(G71 ss H (mv m)).1,(G71 ss H (mv m)).2.1⟩,(G71 ss H (mv m)).2.2):=by
 refine Yi ?_
 unfold Jy
 refine He (Hb4 F ss H) ?_
 rw [Eu hr]
 refine Jt (fun h=>by cases h) (fun _=>?_)
 have h8:=hr.low
 have hS:Hw ss H.toNat (mv m)=if (m.From < 0∨(ss.length:Int)≤m.From)∨m.To < 0∨(ss.length:Int)≤m.To then (ss,6)
  else if m.From=m.To then (ss,340)
  else if (ss.getD m.From.toNat []).length=0 then (ss,341)
  else if (ss.getD m.To.toNat []).length=H.toNat then (ss,4)
  else ((ss.set m.To.toNat (ss.getD m.To.toNat []++[(ss.getD m.From.toNat []).getLastD 0])).set m.From.toNat ((ss.getD m.From.toNat []).take ((ss.getD m.From.toNat []).length - 1)),0):=rfl
 refine Jt (fun h=>Hs ?_) (fun h=>?_)
 ·simp only [Ks,Kk] at h
  rw [if_pos (by omega)] at hS
  exact Gf1 hS (by decide)
 simp only [Kt,decide_eq_false_iff_not] at h
 rw [if_neg (by omega)] at hS
 refine Jt (fun h2=>Hs ?_) (fun h2=>?_)
 ·rw [if_pos (Er h2)] at hS
  exact Gf1 hS (by decide)
 have h2:=Es h2
 rw [if_neg h2] at hS
 obtain⟨f,hf⟩:∃ f:Nat,m.From=f:=⟨m.From.toNat,by omega⟩
 obtain⟨t,ht⟩:∃ t:Nat,m.To=t:=⟨m.To.toNat,by omega⟩
 have h0:f < ss.length:=by omega
 have h1:t < ss.length:=by omega
 have gf:ss.getD m.From.toNat []=ss[f]:=by rw [hf,show ((f:Int)).toNat=f by omega,List.getD_eq_getElem?_getD,Ex h0]; rfl
 have gt:ss.getD m.To.toNat []=ss[t]:=by rw [ht,show ((t:Int)).toNat=t by omega,List.getD_eq_getElem?_getD,Ex h1]; rfl
 have lf:=hr.fit _ (List.getElem_mem h0)
 have lt:=hr.fit _ (List.getElem_mem h1)
 have hH:=hr.high
 rw [gf,gt] at hS
 refine Rj hf (Ex h0) (Rj ht (Ex h1) (Jt (fun h3=>Hs ?_) (fun h3=>?_)))
 ·have h3:=Er h3
  rw [if_pos (by omega)] at hS
  exact Gf1 hS (by decide)
 have h3:=Es h3
 rw [if_neg (by omega)] at hS
 refine Jt (fun h4=>Hs ?_) (fun h4=>?_)
 ·have h4:H≤(ss[t].length:Int):=Er h4
  rw [if_pos (by omega)] at hS
  exact Gf1 hS (by decide)
 have h4:¬ H≤(ss[t].length:Int):=Es h4
 rw [if_neg (by omega)] at hS
 have h5:ss[f]≠[]:=fun e=>h3 (by rw [e]; rfl)
 have h6:ss[f][ss[f].length - 1]? = some (ss[f].getLast h5):=by rw [List.getLast_eq_getElem,Ex]
 have h7:∀ s∈ss,s.length≤7:=fun s hs=>by have:=hr.len s hs; omega
 refine Qk (G28 (by rw [List.length_nil]; omega) (by decide)) (Yj (by omega) (Rj (m:=ss[f].length - 1) (by omega) h6 (Qk (G28 (by simp only [List.nil_append,Ki]; omega) (by decide)) ?_)))
 refine He (J58 hr.most h7 (by simp only [List.nil_append,Kh,Ki]; omega)) (Yj (by omega) (G00 (Yh (m:=ss[f].length - 1) (by omega) (by omega) ?_)))
 rw [ht,J36,hf]
 refine He (J58 (by simpa using hr.most) (fun s hs=>?_) (by rw [List.length_take]; omega)) (Hs ?_)
 ·rcases List.mem_or_eq_of_mem_set hs with hs | rfl
  ·exact h7 s hs
  ·simp only [List.nil_append,Kh,Ki]; omega
 ·rw [ht,hf,show ((f:Int)).toNat=f by omega,show ((t:Int)).toNat=t by omega,show ss[f].getLastD 0=ss[f].getLast h5 from List.getLastD_eq_getLast?.trans (by rw [List.getLast?_eq_some_getLast h5]; rfl)] at hS
  rw [J36,List.nil_append]
  exact J86 hS
theorem G9c {ss:List (List Int)} {H:Int} (hr:Qq ss H) {m:G5} (h:(Hw ss H.toNat m).2=0):Qq (Hw ss H.toNat m).1 H:=by
 rcases Gc3 ss H.toNat m with h' | ⟨f,t,a,b,x,c⟩
 ·exact(h' h).elim
 ·rw [c.eq]; exact hr.shift c

theorem wp_loop {β σ:Type} {Q:β→Prop} (I:σ→Prop) (μ:σ→Nat) {b:(σ→Option β)→σ→Option β} {F:Nat} {s:σ} (h0:I s) (hF:μ s < F)
  (hb:∀ s nx,I s→(∀ s',I s'→μ s' < μ s→Wp (nx s') Q)→Wp (b nx s) Q):Wp (loop b F s) Q:=by
 induction F generalizing s with
 | zero=>omega
 | succ F ih=>
  rw [loop]
  exact hb s _ h0 (fun s' h1 h2=>ih h1 (by omega))

def cellAt (ss:List (List Int)) (i k:Nat):Option Int:=(ss[i]?).bind (·[k]?)
def codeOf (boxes:List Int):Option Int→Int
 | some b=>((boxes.idxOf b+1:Nat):Int)
 | none=>0
def G68 (boxes:List Int) (ss:List (List Int)):Gn:=⟨(List.range 24).map fun j=>codeOf boxes (cellAt ss (j / 6) (j % 6)),by simp⟩
theorem H1d (boxes:List Int) (ss:List (List Int)) {j:Nat} (hj:j < 24):(G68 boxes ss).g j=codeOf boxes (cellAt ss (j / 6) (j % 6)):=by
 unfold G68 Gn.g
 rw [List.getD_eq_getElem?_getD,Ke,List.getElem?_range hj]; rfl
theorem J48 (boxes:List Int) (ss:List (List Int)) {i k:Nat} (hi:i < 4) (hk:k < 6):(G68 boxes ss).g (i*6+k*1)=codeOf boxes (cellAt ss i k):=by
 rw [H1d boxes ss (by omega),show (i*6+k*1) / 6=i by omega,show (i*6+k*1) % 6=k by omega]
theorem G43 {ss:List (List Int)} {i k:Nat} {s:List Int} (h:ss[i]? = some s):cellAt ss i k=s[k]? := by unfold cellAt; rw [h]; rfl
theorem Q9a {boxes:List Int} {o:Option Int}:0 < codeOf boxes o ↔ o.isSome=true:=by
 cases o with
 | none=>simp [codeOf]
 | some b=>simp only [codeOf,Option.isSome_some,iff_true]; omega
theorem Gn.ext_g {a b:Gn} (h:∀ j,j < 24→a.g j=b.g j):a=b:=
 Gn.Q96 (h 0 (by decide)) (h 1 (by decide)) (h 2 (by decide)) (h 3 (by decide)) (h 4 (by decide)) (h 5 (by decide)) (h 6 (by decide)) (h 7 (by decide)) (h 8 (by decide)) (h 9 (by decide)) (h 10 (by decide)) (h 11 (by decide)) (h 12 (by decide)) (h 13 (by decide)) (h 14 (by decide)) (h 15 (by decide)) (h 16 (by decide)) (h 17 (by decide)) (h 18 (by decide)) (h 19 (by decide)) (h 20 (by decide)) (h 21 (by decide)) (h 22 (by decide)) (h 23 (by decide))

theorem J62 {F:Nat} (hF:8≤F) {boxes:List Int} {ss:List (List Int)} {i:Nat} {s:List Int} (hi:i < 4) (hs:ss[i]? = some s) (hl:s.length≤6):Jz F (G68 boxes ss) (i:Int)=some (s.length:Int):=by
 refine Yi ?_
 unfold Jz
 refine wp_loop (fun z=>∃ k:Nat,z=(k:Int)∧k≤s.length) (fun z=>s.length - z.toNat) ⟨0,rfl,Nat.zero_le _⟩ (by omega) (fun z nx hz h0=>?_)
 obtain⟨k,rfl,hk⟩:=hz
 by_cases h6:k < 6
 ·have hd:decide ((k:Int) < 6)=true:=Eu (by omega)
  rw [hd]
  refine G00 (Yh (m:=i) rfl (by omega) (G00 (Yh (m:=k) rfl (by omega) ?_)))
  rw [J48 boxes ss hi h6,G43 hs]
  by_cases h1:k < s.length
  ·rw [Ex h1]
   refine Jt (fun _=>Yj (by omega) (h0 _ ⟨k+1,by omega,by omega⟩ (by omega))) (fun h=>?_)
   simp only [Bool.true_and,decide_eq_false_iff_not] at h
   exact absurd (Q9a.2 rfl) h
  ·rw [List.getElem?_eq_none (by omega)]
   exact Jt (fun h=>by simp [codeOf] at h) (fun _=>Hs (by omega))
 ·have hd:decide ((k:Int) < 6)=false:=Ev (by omega)
  rw [hd]
  refine He (x:=0) rfl (He (x:=0) rfl (Jt (fun h=>by simp at h) (fun _=>Hs (by omega))))

/-! ### Sorted -/
theorem J73 (order:List Int):∀ (s:List Int) (m:Nat),G99 order m s=[] ↔ (∀ b,s[0]? = some b→rnk order b≤m)∧∀ (k:Nat) a b,s[k]? = some a→s[k+1]? = some b→rnk order b≤rnk order a
 | [],m=>by simp [G99]
 | x::s,m=>by
  rw [G99]
  by_cases h:m < rnk order x
  ·rw [if_pos h]
   refine⟨fun h=>by simp at h,fun g=>?_⟩
   have:=g.1 x rfl
   omega
  ·rw [if_neg h,J73 order s]
   constructor
   ·rintro⟨h1,h2⟩
    refine⟨fun b hb=>by simp at hb; subst hb; omega,fun k a b ha hb=>?_⟩
    cases k with
    | zero=>simp at ha hb; subst ha; exact h1 b (by simpa using hb)
    | succ k=>exact h2 k a b (by simpa using ha) (by simpa using hb)
   ·rintro⟨h1,h2⟩
    exact⟨fun b hb=>h2 0 x b rfl (by simpa using hb),fun k a b ha hb=>h2 (k+1) a b (by simpa using ha) (by simpa using hb)⟩
theorem J74 (order:List Int) (ss:List (List Int)):G23 order ss=[] ↔ ∀ s∈ss,∀ (k:Nat) a b,s[k]? = some a→s[k+1]? = some b→rnk order b≤rnk order a:=by
 unfold G23
 rw [List.flatMap_eq_nil_iff]
 refine forall_congr' fun s=>forall_congr' fun hs=>?_
 rw [J73]
 exact⟨fun h=>h.2,fun h=>⟨fun b _=>Q7c order b,h⟩⟩

structure SmY (boxes:List Int) (n:Nat) (H:Int) (ss:List (List Int)):Prop where
 right:Qq ss H
 len:ss.length=n
 few:n≤4
 in_:∀ b,b∈ss.flatten ↔ b∈boxes
theorem SmY.at_ {boxes:List Int} {n:Nat} {H:Int} {ss:List (List Int)} (h:SmY boxes n H ss) {i:Nat} (hi:i < n):∃ s,ss[i]? = some s∧s.length≤6∧(s.length:Int)≤H∧∀ b∈s,b∈boxes:=by
 have hi:i < ss.length:=by rw [h.len]; exact hi
 refine⟨ss[i],Ex hi,h.right.len _ (List.getElem_mem hi),h.right.fit _ (List.getElem_mem hi),fun b hb=>(h.in_ b).1 (List.mem_flatten.2 ⟨_,List.getElem_mem hi,hb⟩)⟩
def Gc4 (order boxes:List Int):List Int:=0::boxes.map fun b=>(rnk order b:Int)
theorem J8c {order boxes:List Int} {b:Int} (h:b∈boxes):(Gc4 order boxes)[boxes.idxOf b+1]? = some (rnk order b:Int):=by
 unfold Gc4
 rw [List.getElem?_cons_succ,Ke]
 have hl:=List.idxOf_lt_length_of_mem h
 rw [Ex hl,Option.map_some]
 congr 3
 exact List.getElem_idxOf hl
theorem Q4f {F:Nat} (hF:8≤F) {boxes order:List Int} {n:Nat} {H:Int} {ss:List (List Int)} (hS:SmY boxes n H ss):Qy F (G68 boxes ss) (n:Int) (Gc4 order boxes)=some (decide (G23 order ss=[])):=by
 refine Yi ?_
 unfold Qy
 have h4:=hS.few
 refine Qk (Eu (by omega)) ?_
 have ht:((n:Int)).toNat=n:=by omega
 rw [ht]
 refine H2d (fun i _=>∀ j,j < i→∀ s,ss[j]? = some s→∀ (k:Nat) a b,s[k]? = some a→s[k+1]? = some b→rnk order b≤rnk order a) (fun j hj=>by omega) (fun i s0 nx hi hI h3=>?_) (fun s0 hI=>Hs ?_)
 ·obtain⟨s,hs,h6,hH,hb⟩:=hS.at_ hi
  refine wp_loop (fun z=>∃ k:Nat,z=(k:Int)∧1≤k∧∀ (q:Nat) a b,q+1 < k→s[q]? = some a→s[q+1]? = some b→rnk order b≤rnk order a) (fun z=>s.length+1 - z.toNat) ⟨1,rfl,by omega,fun q a b hq=>by omega⟩ (by omega) (fun z nx' hz h2=>?_)
  obtain⟨k,rfl,h5,hk⟩:=hz
  refine He (J62 hF (by omega) hs h6) (Jt (fun h=>?_) (fun h=>h3 _ ?_))
  ·have h1:k < s.length:=by have:=Er h; omega
   refine G00 (Yh (m:=i) rfl (by omega) (G00 (Yh (m:=k) rfl (by omega) ?_)))
   rw [J48 boxes ss (by omega) (by omega),G43 hs,Ex h1]
   refine Rj (m:=boxes.idxOf s[k]+1) rfl (J8c (hb _ (List.getElem_mem h1))) (Yj (by omega) ?_)
   refine G00 (Yh (m:=i) rfl (by omega) (G00 (Yh (m:=k - 1) (by omega) (by omega) ?_)))
   have h0:k - 1 < s.length:=by omega
   rw [J48 boxes ss (by omega) (by omega),G43 hs,Ex h0]
   refine Rj (m:=boxes.idxOf s[k - 1]+1) rfl (J8c (hb _ (List.getElem_mem h0))) (Jt (fun h=>Hs ?_) (fun h=>Yj (by omega) (h2 _ ⟨k+1,by omega,by omega,fun q a b hq ha hb=>?_⟩ (by omega))))
   ·have h:=Er h
    refine(Ev fun hw=>?_).symm
    have:=(J74 order ss).1 hw s (Ez hs) (k - 1) s[k - 1] s[k] (Ex h0) (by rw [show k - 1+1=k by omega]; exact Ex h1)
    omega
   ·have h:=Es h
    by_cases e:q+1=k
    ·have e1:s[k - 1]=a:=by
      have:s[k - 1]? = some a:=by rw [show k - 1=q by omega]; exact ha
      rw [Ex h0] at this; exact Ey this
     have e2:s[k]=b:=by
      have:s[k]? = some b:=by rw [← e]; exact hb
      rw [Ex h1] at this; exact Ey this
     rw [e1,e2] at h
     omega
    ·exact hk q a b (by omega) ha hb
  ·have h:=Es h
   intro j hj t ht q a b ha hb
   by_cases e:j=i
   ·subst e
    rw [hs] at ht; cases ht
    have:=(Ew hb).1
    exact hk q a b (by omega) ha hb
   ·exact hI j (by omega) t ht q a b ha hb
 ·refine(Eu ((J74 order ss).2 fun s hs=>?_)).symm
  obtain⟨j,hj⟩:=List.mem_iff_getElem?.1 hs
  exact hI j (by rw [← hS.len]; exact(Ew hj).1) s hj

def G5b (ss:List (List Int)) (h a b:Nat):List (G5×List (List Int)):=if (Hw ss h ⟨a,b⟩).2=0 then [(⟨a,b⟩,(Hw ss h ⟨a,b⟩).1)] else []
def H5b (ss:List (List Int)) (h a m:Nat):List (G5×List (List Int)):=(List.range m).flatMap (G5b ss h a)
def H8f (ss:List (List Int)) (h n m:Nat):List (G5×List (List Int)):=(List.range m).flatMap fun a=>H5b ss h a n
def Gc5 (ss:List (List Int)) (h:Nat):List (G5×List (List Int)):=H8f ss h ss.length ss.length
theorem Ha4 (ss:List (List Int)) (h a m:Nat):H5b ss h a (m+1)=H5b ss h a m++G5b ss h a m:=by
 unfold H5b; rw [List.range_succ,List.flatMap_append]; simp
theorem Hb1 (ss:List (List Int)) (h n m:Nat):H8f ss h n (m+1)=H8f ss h n m++H5b ss h m n:=by
 unfold H8f; rw [List.range_succ,List.flatMap_append]; simp
theorem Hfb (ss:List (List Int)) (h a b:Nat):(G5b ss h a b).length≤1:=by unfold G5b; split <;> simp
theorem Q7b (ss:List (List Int)) (h a m:Nat):(H5b ss h a m).length≤m:=by
 induction m with
 | zero=>simp [H5b]
 | succ m ih=>rw [Ha4,Kh]; have:=Hfb ss h a m; omega
theorem Q5b {ss:List (List Int)} {h:Nat} {x:G5×List (List Int)} (hx:x∈Gc5 ss h):∃ a b:Nat,a < ss.length∧b < ss.length∧x.1=⟨a,b⟩∧(Hw ss h x.1).2=0∧x.2=(Hw ss h x.1).1:=by
 unfold Gc5 H8f at hx
 obtain⟨a,ha,hx⟩:=List.mem_flatMap.1 hx
 unfold H5b at hx
 obtain⟨b,hb,hx⟩:=List.mem_flatMap.1 hx
 unfold G5b at hx
 split at hx
 ·rename_i h0
  rw [Kp] at hx
  subst hx
  exact⟨a,b,List.mem_range.1 ha,List.mem_range.1 hb,rfl,h0,rfl⟩
 ·exact absurd hx (by simp)

theorem Q98 {boxes:List Int} {ss:List (List Int)} {f t:Nat} {a b:List Int} {x:Int} {h:Nat} {m:G5} (c:Can ss h m f t a b x) (hf:f < 4) (ht:t < 4) (hl:a.length < 6) (hr:b.length < 6) :
  G68 boxes ((ss.set t (b++[x])).set f a)=((G68 boxes ss).set (t*6+b.length*1) ((G68 boxes ss).g (f*6+a.length*1))).set (f*6+a.length*1) 0:=by
 have h4:=(Ew c.hf).1
 have h5:=(Ew c.ht).1
 refine Gn.ext_g fun j hj=>?_
 rw [Gn.Q2d _ (by omega),Gn.Q2d _ (by omega),H1d _ _ hj,J48 boxes ss hf hl,G43 c.hf,H1d boxes ss hj]
 have h8:=c.ne
 obtain⟨i,k,hi,hk,rfl⟩:∃ i k,i < 4∧k < 6∧j=i*6+k:=⟨j / 6,j % 6,by omega,by omega,by omega⟩
 have e1:(i*6+k) / 6=i:=by omega
 have e2:(i*6+k) % 6=k:=by omega
 rw [e1,e2]
 have h2:(a++[x])[a.length]? = some x:=by simp
 rw [h2]
 by_cases h0:i=f
 ·subst h0
  have g1:cellAt ((ss.set t (b++[x])).set i a) i k=a[k]? := G43 (by rw [List.getElem?_set_self (by simpa using h4)])
  rw [g1,G43 c.hf]
  by_cases h6:k=a.length
  ·subst h6
   rw [if_pos (by omega),List.getElem?_eq_none (by omega)]; rfl
  ·rw [if_neg (by omega),if_neg (by omega)]
   rcases Eo k a.length with h1 | h1
   ·rw [Kc h1]
   ·rw [List.getElem?_eq_none (by omega),List.getElem?_eq_none (by simp; omega)]
 ·by_cases h3:i=t
  ·subst h3
   have g1:cellAt ((ss.set i (b++[x])).set f a) i k=(b++[x])[k]? := G43 (by rw [List.getElem?_set_ne (Ne.symm h0),List.getElem?_set_self h5])
   rw [g1,G43 c.ht,if_neg (by omega)]
   by_cases h7:k=b.length
   ·subst h7
    rw [if_pos (by omega)]; simp
   ·rw [if_neg (by omega)]
    rcases Eo k b.length with h1 | h1
    ·rw [Kc h1]
    ·rw [List.getElem?_eq_none (by simp; omega),List.getElem?_eq_none (by omega)]
  ·have g1:cellAt ((ss.set t (b++[x])).set f a) i k=cellAt ss i k:=by
    unfold cellAt
    rw [List.getElem?_set_ne (Ne.symm h0),List.getElem?_set_ne (Ne.symm h3)]
   rw [g1,if_neg (by omega),if_neg (by omega)]
def J0b (boxes:List Int) (x:G5×List (List Int)):G5×Gn:=(x.1,G68 boxes x.2)
theorem Qe1 {ss:List (List Int)} {h i j:Nat} {s t:List Int} (hs:ss[i]? = some s) (ht:ss[j]? = some t):(Hw ss h ⟨i,j⟩).2=0 ↔ i≠j∧s.length≠0∧t.length≠h:=by
 have h0:=(Ew hs).1
 have h4:=(Ew ht).1
 unfold Hw
 dsimp only
 rw [if_neg (by omega),show ((i:Int)).toNat=i by omega,show ((j:Int)).toNat=j by omega,List.getD_eq_getElem?_getD,List.getD_eq_getElem?_getD,hs,ht]
 simp only [Option.getD_some]
 by_cases h1:i=j
 ·subst h1
  rw [if_pos rfl]
  exact⟨fun h=>absurd h (show ¬ ((340:Int)=0) by decide),fun h=>(h.1 rfl).elim⟩
 rw [if_neg (by omega)]
 by_cases h2:s.length=0
 ·rw [if_pos h2]
  exact⟨fun h=>absurd h (show ¬ ((341:Int)=0) by decide),fun h=>(h.2.1 h2).elim⟩
 rw [if_neg h2]
 by_cases h3:t.length=h
 ·rw [if_pos h3]
  exact⟨fun h=>absurd h (show ¬ ((4:Int)=0) by decide),fun h=>(h.2.2 h3).elim⟩
 rw [if_neg h3]
 exact⟨fun _=>⟨h1,h2,h3⟩,fun _=>rfl⟩
theorem Q8a {F:Nat} (hF:8≤F) {boxes:List Int} {n:Nat} {H:Int} {ss:List (List Int)} (hS:SmY boxes n H ss):Rc F (n:Int) (G68 boxes ss) H=some ((Gc5 ss H.toNat).map (J0b boxes)):=by
 refine Yi ?_
 unfold Rc
 have h5:=hS.few
 have h6:=hS.right.low
 have h3:=hS.right.high
 have ht:((n:Int)).toNat=n:=by omega
 refine Qk (Eu (by omega)) ?_
 rw [ht]
 refine H2d (fun i s=>s=(H8f ss H.toNat n i).map (J0b boxes)) rfl (fun i s nx hi hI h1=>?_) (fun s hI=>Hs ?_)
 ·subst hI
  refine Qk (Eu (by omega)) (H2d (fun j s=>s=(H8f ss H.toNat n i).map (J0b boxes)++(H5b ss H.toNat i j).map (J0b boxes)) (by simp [H5b]) (fun j s nx' hj hJ h0=>?_) (fun s hJ=>h1 _ ?_))
  ·subst hJ
   obtain⟨s,hs,s6,sH,sb⟩:=hS.at_ hi
   obtain⟨t,ht,t6,tH,tb⟩:=hS.at_ hj
   refine J35 (fun r=>r=(H8f ss H.toNat n i).map (J0b boxes)++(H5b ss H.toNat i (j+1)).map (J0b boxes)) (fun K hK=>?_) (fun a ha=>h0 _ ha)
   refine He (J62 hF (by omega) hs s6) (He (J62 hF (by omega) ht t6) ?_)
   have hc:=Qe1 (h:=H.toNat) hs ht
   rw [Ha4,G5b] at hK
   refine Jt (fun h=>hK _ ?_) (fun h=>?_)
   ·simp only [Ks,Kk] at h
    rw [if_neg (fun g=>by have:=hc.1 g; omega),List.append_nil]
   ·simp only [Kt,decide_eq_false_iff_not] at h
    have hz:(Hw ss H.toNat ⟨i,j⟩).2=0:=hc.2 (by omega)
    rw [if_pos hz] at hK
    rcases Gc3 ss H.toNat ⟨i,j⟩ with h' | ⟨f,t',a,b,x,c⟩
    ·exact(h' hz).elim
    ·have ef:f=i:=by have:(i:Int)=f:=c.from_; omega
     have et:t'=j:=by have:(j:Int)=t':=c.to_; omega
     subst ef et
     have es:s=a++[x]:=Ey (hs.symm.trans c.hf)
     have eb:t=b:=Ey (ht.symm.trans c.ht)
     subst es eb
     have h2:(a++[x]).length=a.length+1:=by simp
     rw [h2] at s6 sH h ⊢
     have h4:=c.room
     have hm:=Q98 (boxes:=boxes) c (by omega) (by omega) (by omega) (by omega)
     refine Yj (by omega) (Yj (by omega) ?_)
     refine G00 (Yh (m:=f) rfl (by omega) (G00 (Yh (m:=a.length) (by omega) (by omega) (G00 (Yh (m:=t') rfl (by omega) (G00 (Yh (m:=t.length) rfl (by omega) (G00 (Yh (m:=f) rfl (by omega) (G00 (Yh (m:=a.length) (by omega) (by omega) (hK _ ?_))))))))))))
     rw [c.eq,List.append_assoc,List.map_append]
     congr 2
     show _=[J0b boxes _]
     unfold J0b
     rw [hm]
  ·rw [hJ,Hb1,List.map_append]
 ·rw [hI]
  unfold Gc5
  rw [hS.len]

/-! ### The reference -/
theorem same_eq (F:Nat) (n:Nat) {a b:List (List Int)} {H H':Int} (ha:a.length=n) (hb:b.length=n):Y3 F ⟨a,H⟩ ⟨b,H'⟩=some (decide (a=b)):=by
 refine Yi ?_
 unfold Y3
 refine Qf (fun pre _=>pre=b.take pre.length) (by simp) (fun pre x post s nx e hI h1=>?_) (fun s hI=>Hs ?_)
 ·have e:a=pre++x::post:=e
  have hp:pre.length < n:=by
   rw [← ha,e]; simp
  have hg:b[pre.length]? = some b[pre.length]:=Ex (by omega)
  have no:∀ h:x≠b[pre.length],decide (a=b)=false:=fun h=>Ev fun eq=>h (by
   have:a[pre.length]? = some x:=by rw [e]; simp
   rw [eq,hg] at this
   exact(Ey this).symm)
  refine Rj rfl hg (Jt (fun h=>Hs (no fun ex=>?_).symm) (fun h=>?_))
  ·have h:=Er h
   rw [ex] at h; exact h rfl
  ·have h:x.length=b[pre.length].length:=by have:=Es h; omega
   refine Qf (fun pr _=>pr=b[pre.length].take pr.length) (by simp) (fun pr z po s nx' e' hJ h0=>?_) (fun s hJ=>h1 _ ?_)
   ·have h3:pr.length < b[pre.length].length:=by rw [← h,e']; simp
    have hz:b[pre.length][pr.length]? = some b[pre.length][pr.length]:=Ex h3
    refine Rj rfl hg (Rj rfl hz (Jt (fun h2=>Hs (no fun ex=>?_).symm) (fun h2=>h0 _ ?_)))
    ·have h2:=Er h2
     apply h2
     have:x[pr.length]? = some z:=by rw [e']; simp
     rw [ex,hz] at this
     exact(Ey this).symm
    ·have h2:z=b[pre.length][pr.length]:=by
      have:=Es h2
      exact Classical.byContradiction fun g=>this g
     rw [Kh,Ki,List.take_add_one,hz,← hJ,h2]; rfl
   ·have hJ:x=b[pre.length].take x.length:=hJ
    rw [h,List.take_length] at hJ
    rw [Kh,Ki,List.take_add_one,hg,← hI]
    simp only [Option.toList_some]
    rw [← hJ]
 ·have hI:a=b.take a.length:=hI
  rw [ha,← hb,List.take_length] at hI
  exact(Eu hI).symm
def addN (H at_:Int) (all:List Gd) (x:G5×List (List Int)):List Gd:=if ∃ z∈all,z.y.Stacks=x.2 then all else all++[⟨⟨x.2,H⟩,at_,⟨x.1.From,x.1.To⟩⟩]
def G3b (H at_:Int) (all:List Gd) (l:List (G5×List (List Int))):List Gd:=l.foldl (addN H at_) all
theorem H23 (H at_:Int) (all:List Gd) (l m:List (G5×List (List Int))):G3b H at_ all (l++m)=G3b H at_ (G3b H at_ all l) m:=by unfold G3b; rw [List.foldl_append]
theorem H91 (H at_:Int):∀ (l:List (G5×List (List Int))) (all:List Gd),all.length≤(G3b H at_ all l).length∧(G3b H at_ all l).length≤all.length+l.length
 | [],all=>by simp [G3b]
 | x::l,all=>by
  have e:G3b H at_ all (x::l)=G3b H at_ (addN H at_ all x) l:=rfl
  have:=H91 H at_ l (addN H at_ all x)
  have h2:all.length≤(addN H at_ all x).length∧(addN H at_ all x).length≤all.length+1:=by unfold addN; split <;> simp
  rw [e,Kd]; omega
theorem Ja4 {P:List (List Int)→Prop} (H at_:Int):∀ (l:List (G5×List (List Int))) (all:List Gd),(∀ z∈all,P z.y.Stacks)→(∀ x∈l,P x.2)→∀ z∈G3b H at_ all l,P z.y.Stacks
 | [],all,h,_=>h
 | x::l,all,h,hl=>by
  refine Ja4 H at_ l (addN H at_ all x) (fun z hz=>?_) (fun y hy=>hl y (List.mem_cons_of_mem _ hy))
  unfold addN at hz
  split at hz
  ·exact h z hz
  ·rcases Kn.1 hz with hz | hz
   ·exact h z hz
   ·rw [Kp] at hz; subst hz; exact hl x (List.mem_cons_self ..)
theorem Q9f {F:Nat} {boxes:List Int} {n:Nat} {H:Int} {all:List Gd} {at_:Nat} {z:Gd} (hz:all[at_]? = some z) (h5:∀ z∈all,SmY boxes n H z.y.Stacks∧z.y.Height=H) (hF:all.length+20 < F) (a4:all.length≤9000000) :
  Qu F all (at_:Int)=some (G3b H (at_:Int) all (Gc5 z.y.Stacks H.toNat)):=by
 refine Yi ?_
 unfold Qu
 obtain⟨hS,hH⟩:=h5 z (Ez hz)
 have a0:=hS.few
 refine Rj rfl hz ?_
 obtain⟨⟨ss,H'⟩,fr,by_⟩:=z
 have hH:H'=H:=hH
 subst hH
 have hS:SmY boxes n H' ss:=hS
 show Wp (each _ _ ss 0 all) _
 have good:∀ l:List (G5×List (List Int)),(∀ x∈l,SmY boxes n H' x.2)→∀ z∈G3b H' (at_:Int) all l,SmY boxes n H' z.y.Stacks:=fun l hl=>Ja4 H' _ l all (fun z hz=>(h5 z hz).1) hl
 have mvok:∀ a b:Nat,∀ x∈G5b ss H'.toNat a b,SmY boxes n H' x.2:=fun a b x hx=>by
  unfold G5b at hx
  split at hx
  ·rename_i h0
   rw [Kp] at hx
   subst hx
   rcases Gc3 ss H'.toNat ⟨a,b⟩ with h' | ⟨f,t,p,q,y,c⟩
   ·exact(h' h0).elim
   ·have hp:=c.perm
    exact⟨G9c hS.right h0,by rw [c.eq]; simp [hS.len],a0,fun v=>by rw [c.eq]; exact(hp.mem_iff).trans (hS.in_ v)⟩
  ·exact absurd hx (by simp)
 have rowok:∀ a m:Nat,∀ x∈H5b ss H'.toNat a m,SmY boxes n H' x.2:=fun a m x hx=>by
  unfold H5b at hx
  obtain⟨b,_,hx⟩:=List.mem_flatMap.1 hx
  exact mvok a b x hx
 have colok:∀ m:Nat,∀ x∈H8f ss H'.toNat ss.length m,SmY boxes n H' x.2:=fun m x hx=>by
  unfold H8f at hx
  obtain⟨a,_,hx⟩:=List.mem_flatMap.1 hx
  exact rowok a _ x hx
 refine Qf (fun pre s=>s=G3b H' (at_:Int) all (H8f ss H'.toNat ss.length pre.length)∧s.length≤all.length+4*pre.length) ⟨by simp [H8f,G3b],by simp⟩ (fun pre x post s nx e hI a2=>?_) (fun s hI=>Hs hI.1)
 obtain⟨hI,a7⟩:=hI
 have a8:pre.length < n:=by rw [← hS.len,e]; simp
 refine Qf (fun pr s'=>s'=G3b H' (at_:Int) s (H5b ss H'.toNat pre.length pr.length)∧s'.length≤s.length+pr.length) ⟨by simp [H5b,G3b],by simp⟩ (fun pr x' po s' nx' e' hJ a1=>?_) (fun s' hJ=>a2 _ ⟨?_,?_⟩)
 ·obtain⟨hJ,a9⟩:=hJ
  have e':ss=pr++x'::po:=e'
  have a5:pr.length < n:=by rw [← hS.len,e']; simp
  have hs'all:∀ z∈s',SmY boxes n H' z.y.Stacks:=by
   rw [hJ,hI,← H23]
   exact good _ fun x hx=>(Kn.1 hx).elim (colok _ x) (rowok _ _ x)
  refine J35 (fun r=>r=G3b H' (at_:Int) s' (G5b ss H'.toNat pre.length pr.length)) (fun K hK=>?_) (fun r hr=>a1 _ ⟨?_,?_⟩)
  ·refine He (J51 F hS.right ⟨(pre.length:Int),(pr.length:Int)⟩) ?_
   have emv:mv ⟨(pre.length:Int),(pr.length:Int)⟩=(⟨(pre.length:Int),(pr.length:Int)⟩:G5):=rfl
   unfold G71
   rw [emv]
   by_cases h0:(Hw ss H'.toNat ⟨(pre.length:Int),(pr.length:Int)⟩).2=0
   ·have h3:G5b ss H'.toNat pre.length pr.length=[(⟨(pre.length:Int),(pr.length:Int)⟩,(Hw ss H'.toNat ⟨(pre.length:Int),(pr.length:Int)⟩).1)]:=by unfold G5b; rw [if_pos h0]
    have h6:SmY boxes n H' (Hw ss H'.toNat ⟨(pre.length:Int),(pr.length:Int)⟩).1:=mvok pre.length pr.length _ (by rw [h3]; exact Kp.2 rfl)
    rw [if_pos h0]
    dsimp only
    generalize a6:(Hw ss H'.toNat ⟨(pre.length:Int),(pr.length:Int)⟩).1=next at h6 h3 ⊢
    rw [h3] at hK
    have h8:∀ a,a=addN H' (at_:Int) s' (⟨(pre.length:Int),(pr.length:Int)⟩,next)→Wp (K a) _:=hK
    refine wp_loop (fun q=>∃ k:Nat,k≤s'.length∧q.2=(k:Int)∧(q.1=true ↔ ∃ z∈s'.take k,z.y.Stacks=next)) (fun q=>s'.length+1 - q.2.toNat) ⟨0,Nat.zero_le _,rfl,⟨fun h=>absurd h (show ¬ (decide ((0:Int)≠0)=true) by decide),fun⟨z,hz,_⟩=>absurd hz (by simp)⟩⟩ (by dsimp only; omega) (fun q nq hq h9=>?_)
    obtain⟨is,i⟩:=q
    obtain⟨k,hk,h7,his⟩:=hq
    have h7:i=(k:Int):=h7
    subst h7
    refine Jt (fun h=>?_) (fun h=>?_)
    ·simp only [Kj,Kk,Bool.not_eq_true'] at h
     obtain⟨b0,hf⟩:=h
     have h4:k < s'.length:=by omega
     have a3:=hs'all _ (List.getElem_mem h4)
     have e0:(s'[k]).y=⟨(s'[k]).y.Stacks,(s'[k]).y.Height⟩:=rfl
     refine Rj rfl (Ex h4) ?_
     rw [e0]
     refine He (same_eq F n a3.len h6.len) (Yj (by omega) (h9 _ ⟨k+1,by omega,by dsimp only; omega,?_⟩ (by dsimp only; omega)))
     dsimp only
     rw [Kk,List.take_add_one,Ex h4]
     constructor
     ·exact fun g=>⟨s'[k],Kn.2 (.inr (by rw [Option.toList_some]; exact Kp.2 rfl)),g⟩
     ·rintro⟨z,hz,g⟩
      rcases Kn.1 hz with hz | hz
      ·have:=his.2 ⟨z,hz,g⟩
       rw [hf] at this; cases this
      ·simp only [Option.toList_some,Kp] at hz
       subst hz; exact g
    ·refine Jt (fun h2=>?_) (fun h2=>h8 _ ?_)
     ·have hf:is=false:=by simpa using h2
      have h4:k=s'.length:=by
       rw [hf] at h
       simp only [Bool.not_false,Bool.and_true,decide_eq_false_iff_not] at h
       omega
      refine Qk (G28 (by rw [Ki]; omega) (by decide)) (h8 _ ?_)
      unfold addN
      rw [if_neg]
      rintro⟨z,hz,g⟩
      have:=his.2 ⟨z,by rw [h4,List.take_length]; exact hz,g⟩
      dsimp only at this
      rw [hf] at this; cases this
     ·have hf:is=true:=by simpa using h2
      obtain⟨z,hz,g⟩:=his.1 hf
      unfold addN
      rw [if_pos ⟨z,List.mem_of_mem_take hz,g⟩]
   ·have h3:G5b ss H'.toNat pre.length pr.length=[]:=by unfold G5b; rw [if_neg h0]
    rw [if_neg h0]
    rw [h3] at hK
    dsimp only
    rw [Eu h0]
    refine wp_loop (fun q=>q=(true,(0:Int))) (fun q=>0) rfl (by omega) (fun q nq hq h9=>?_)
    subst hq
    refine Jt (fun h=>?_) (fun h=>Jt (fun h2=>by simp at h2) (fun h2=>hK _ rfl))
    simp at h
  ·rw [Kh,Ki,Ha4,H23,← hJ]; exact hr
  ·have h1:=(H91 H' (at_:Int) (G5b ss H'.toNat pre.length pr.length) s').2
   have h2:=Hfb ss H'.toNat pre.length pr.length
   rw [hr,Kh,Ki]; omega
 ·rw [Kh,Ki,Hb1,H23,← hI]; exact hJ.1
 ·have h1:ss.length=n:=hS.len
  have:s'.length≤s.length+ss.length:=hJ.2
  rw [Kh,Ki]; omega

theorem Q82:∀ (n:Nat) (l:List Nat),l.Nodup→(∀ x∈l,x < n)→l.length≤n
 | 0,l,_,h=>by
  cases l with
  | nil=>simp
  | cons x r=>exact absurd (h x (by simp)) (by omega)
 | n+1,l,hn,h=>by
  have h1:=Q82 n (l.filter (fun x=>decide (x≠n))) (hn.filter _) (fun x hx=>by
   have:=Kr.1 hx
   have h2:=h x this.1
   have h3:=Er this.2
   omega)
  have h2:l.count n≤1:=List.nodup_iff_count.1 hn n
  have h3:=List.length_eq_countP_add_countP (fun x=>decide (x≠n)) (l:=l)
  rw [← List.countP_eq_length_filter] at h1
  have h4:l.countP (fun a=>decide (¬ decide (a≠n)=true))=l.count n:=by
   unfold List.count
   congr 1
   funext a
   by_cases e:a=n <;> simp [e]
  rw [h4] at h3
  omega

theorem J4b {n:Nat} {a b:List (List Int)} (ha:a.length=n) (hb:b.length=n) (h:∀ i k,i < n→cellAt a i k=cellAt b i k):a=b:=by
 refine List.ext_getElem (by omega) fun i h1 h2=>List.ext_getElem? fun k=>?_
 have:=h i k (by omega)
 rw [G43 (Ex h1),G43 (Ex h2)] at this
 exact this
theorem SmY.Gc8 {boxes:List Int} {n:Nat} {H:Int} {ss:List (List Int)} (h:SmY boxes n H ss) {i k:Nat} {b:Int} (hc:cellAt ss i k=some b):i < n∧k < 6∧b∈boxes:=by
 unfold cellAt at hc
 obtain⟨s,hs,hk⟩:=Option.bind_eq_some_iff.1 hc
 have hi:=(Ew hs).1
 rw [h.len] at hi
 obtain⟨s',h0,h6,_,hb⟩:=h.at_ hi
 rw [hs] at h0; cases h0
 have:=(Ew hk).1
 exact⟨hi,by omega,hb b (Ez hk)⟩
theorem code_inj {boxes:List Int} {o p:Option Int} (ho:∀ b,o=some b→b∈boxes) (hp:∀ b,p=some b→b∈boxes) (h:codeOf boxes o=codeOf boxes p):o=p:=by
 cases o with
 | none=>
  cases p with
  | none=>rfl
  | some b=>simp only [codeOf] at h; omega
 | some a=>
  cases p with
  | none=>simp only [codeOf] at h; omega
  | some b=>
   simp only [codeOf] at h
   have e:boxes.idxOf a=boxes.idxOf b:=by omega
   have ha:=ho a rfl
   have hb:=hp b rfl
   have h1:=List.getElem_idxOf (List.idxOf_lt_length_of_mem ha)
   have h2:=List.getElem_idxOf (List.idxOf_lt_length_of_mem hb)
   have:boxes[boxes.idxOf a]? = boxes[boxes.idxOf b]? := by rw [e]
   rw [Ex (List.idxOf_lt_length_of_mem ha),Ex (List.idxOf_lt_length_of_mem hb),h1,h2] at this
   exact this
theorem Qde {boxes:List Int} {n:Nat} {H:Int} {a b:List (List Int)} (ha:SmY boxes n H a) (hb:SmY boxes n H b) (h:G68 boxes a=G68 boxes b):a=b:=by
 refine J4b ha.len hb.len fun i k hi=>?_
 have h0:=ha.few
 by_cases hk:k < 6
 ·refine code_inj (fun x hx=>(ha.Gc8 hx).2.2) (fun x hx=>(hb.Gc8 hx).2.2) ?_
  have:=congrArg (fun z:Gn=>z.g (i*6+k*1)) h
  have h2:(G68 boxes a).g (i*6+k*1)=(G68 boxes b).g (i*6+k*1):=this
  rw [J48 boxes a (by omega) hk,J48 boxes b (by omega) hk] at h2
  exact h2
 ·have no:∀ {ss},SmY boxes n H ss→cellAt ss i k=none:=fun {ss} hs=>by
   cases hc:cellAt ss i k with
   | none=>rfl
   | some x=>exact absurd (hs.Gc8 hc).2.1 hk
  rw [no ha,no hb]

/-! ### Where the boxes stand -/
theorem J08 {b:Int}:∀ {ss:List (List Int)} {o i k:Nat} {s:List Int},ss.flatten.Nodup→ss[i]? = some s→s[k]? = some b→G6b b ss o=(((o+i:Nat):Int),(k:Int),true)
 | [],o,i,k,s,_,h,_=>by simp at h
 | x::ss,o,0,k,s,hn,h,hk=>by
  simp at h; subst h
  have hm:b∈x:=Ez hk
  rw [G6b,if_pos hm]
  have hx:x.Nodup:=(List.nodup_append.1 (by rw [List.flatten_cons] at hn; exact hn)).1
  have hl:=(Ew hk).1
  have h1:x[k]=b:=by rw [Ex hl] at hk; exact Ey hk
  have:x.idxOf b=k:=by
   have hi:=List.idxOf_lt_length_of_mem hm
   exact(List.getElem?_inj hi hx).1 (by rw [Ex hi,List.getElem_idxOf hi,hk])
  rw [this]; simp
 | x::ss,o,i+1,k,s,hn,h,hk=>by
  rw [List.flatten_cons] at hn
  have h0:=List.nodup_append.1 hn
  have h:ss[i]? = some s:=by simpa using h
  have hm:b∈ss.flatten:=List.mem_flatten.2 ⟨s,Ez h,Ez hk⟩
  have hx:b ∉ x:=fun hb=>h0.2.2 b hb b hm rfl
  rw [G6b,if_neg hx,J08 h0.2.1 h hk]
  simp only [Prod.mk.injEq,and_true]
  omega
theorem J92 {b:Int} {ss:List (List Int)} (h:b∈ss.flatten):∃ i k,cellAt ss i k=some b:=by
 obtain⟨s,hs,hb⟩:=List.mem_flatten.1 h
 obtain⟨i,hi⟩:=List.mem_iff_getElem?.1 hs
 obtain⟨k,hk⟩:=List.mem_iff_getElem?.1 hb
 exact⟨i,k,by rw [G43 hi]; exact hk⟩
def J2c (ss:List (List Int)) (b:Int):Nat:=(G6b b ss 0).1.toNat*6+(G6b b ss 0).2.1.toNat
theorem Ha6 {boxes:List Int} {n:Nat} {H:Int} {ss:List (List Int)} (h:SmY boxes n H ss) {i k:Nat} {b:Int} (hc:cellAt ss i k=some b):J2c ss b=i*6+k:=by
 unfold cellAt at hc
 obtain⟨s,hs,hk⟩:=Option.bind_eq_some_iff.1 hc
 unfold J2c
 rw [J08 h.right.nodup hs hk]
 dsimp only
 omega
theorem J5f {boxes:List Int} {n:Nat} {H:Int} {ss:List (List Int)} (h:SmY boxes n H ss) {b:Int} (hb:b∈boxes):J2c ss b < 24:=by
 obtain⟨i,k,hc⟩:=J92 ((h.in_ b).2 hb)
 have:=h.Gc8 hc
 have:=h.few
 rw [Ha6 h hc]; omega
def H1e (ss:List (List Int)):List Int→Nat
 | []=>0
 | b::r=>J2c ss b+24*H1e ss r
theorem J9f {boxes:List Int} {n:Nat} {H:Int} {ss:List (List Int)} (h:SmY boxes n H ss):∀ l:List Int,(∀ b∈l,b∈boxes)→H1e ss l < 24 ^ l.length
 | [],_=>by simp [H1e]
 | b::r,hl=>by
  have h1:=J5f h (hl b (List.mem_cons_self ..))
  have h2:=J9f h r (fun x hx=>hl x (List.mem_cons_of_mem _ hx))
  rw [H1e,Kd,Nat.pow_succ]
  omega
theorem J4a {boxes:List Int} {n:Nat} {H:Int} {a c:List (List Int)} (ha:SmY boxes n H a) (hc:SmY boxes n H c):∀ l:List Int,(∀ b∈l,b∈boxes)→H1e a l=H1e c l→∀ b∈l,J2c a b=J2c c b
 | [],_,_,b,hb=>by simp at hb
 | x::r,hl,h,b,hb=>by
  rw [H1e,H1e] at h
  have h1:=J5f ha (hl x (List.mem_cons_self ..))
  have h2:=J5f hc (hl x (List.mem_cons_self ..))
  have e1:J2c a x=J2c c x:=by omega
  rcases Kq.1 hb with rfl | hb
  ·exact e1
  ·exact J4a ha hc r (fun x hx=>hl x (List.mem_cons_of_mem _ hx)) (by omega) b hb
theorem Q75 {boxes:List Int} {n:Nat} {H:Int} {a c:List (List Int)} (ha:SmY boxes n H a) (hc:SmY boxes n H c) (h:H1e a boxes=H1e c boxes):a=c:=by
 have hp:=J4a ha hc boxes (fun _ h=>h) h
 have one:∀ {a c:List (List Int)},SmY boxes n H a→SmY boxes n H c→(∀ b∈boxes,J2c a b=J2c c b)→∀ i k b,cellAt a i k=some b→cellAt c i k=some b:=fun {a c} ha hc hp i k b h3=>by
  have hl:=ha.Gc8 h3
  obtain⟨i',k',h0⟩:=J92 ((hc.in_ b).2 hl.2.2)
  have h4:=hc.Gc8 h0
  have e:=hp b hl.2.2
  rw [Ha6 ha h3,Ha6 hc h0] at e
  have e1:i=i':=by omega
  have e2:k=k':=by omega
  rw [e1,e2]; exact h0
 refine J4b ha.len hc.len fun i k _=>?_
 cases h1:cellAt a i k with
 | some b=>exact(one ha hc hp i k b h1).symm
 | none=>
  cases h2:cellAt c i k with
  | none=>rfl
  | some b=>rw [one hc ha (fun b hb=>(hp b hb).symm) i k b h2] at h1; cases h1

/-! ### What is met -/
structure Met (boxes:List Int) (n:Nat) (H:Int) (all:List Gd):Prop where
 ok:∀ z∈all,SmY boxes n H z.y.Stacks∧z.y.Height=H
 nodup:(all.map (·.y.Stacks)).Nodup
 first:∃ z,all[0]? = some z∧z.from_ = -1
 from_:∀ (i:Nat) z,all[i]? = some z→0 < i→∃ j:Nat,z.from_=(j:Int)∧j < i
theorem Met.len {boxes:List Int} {n:Nat} {H:Int} {all:List Gd} (h:Met boxes n H all) (hb:boxes.length≤5):all.length≤7962624:=by
 have hn:(all.map fun z=>H1e z.y.Stacks boxes).Nodup:=by
  have:=h.nodup
  unfold List.Nodup at this ⊢
  rw [List.pairwise_map] at this ⊢
  exact this.imp_of_mem fun {a c} ha hc h0 e=>h0 (Q75 (h.ok a ha).1 (h.ok c hc).1 e)
 have:=Q82 7962624 _ hn (fun x hx=>by
  obtain⟨z,hz,rfl⟩:=Ko.1 hx
  have h1:=J9f (h.ok z hz).1 boxes (fun _ h=>h)
  have h2:24 ^ boxes.length≤24 ^ 5:=Nat.pow_le_pow_right (by decide) hb
  have h3:(24:Nat) ^ 5=7962624:=by decide
  omega)
 rwa [Km] at this
theorem Met.addN {boxes:List Int} {n:Nat} {H:Int} {all:List Gd} (h:Met boxes n H all) {at_:Nat} (h3:at_ < all.length) {x:G5×List (List Int)} (hx:SmY boxes n H x.2):Met boxes n H (addN H (at_:Int) all x):=by
 unfold Go.Proofs.Ytokjlondbjdlfaa.addN
 split
 ·exact h
 ·rename_i h0
  refine⟨fun z hz=>?_,?_,?_,fun i z hz hi=>?_⟩
  ·rcases Kn.1 hz with hz | hz
   ·exact h.ok z hz
   ·rw [Kp] at hz; subst hz; exact⟨hx,rfl⟩
  ·rw [List.map_append]
   refine List.nodup_append.2 ⟨h.nodup,by simp,fun a ha c hc=>?_⟩
   simp only [List.map_cons,List.map_nil,Kp] at hc
   subst hc
   obtain⟨z,hz,rfl⟩:=Ko.1 ha
   exact fun e=>h0 ⟨z,hz,e⟩
  ·obtain⟨z,h1,h2⟩:=h.first
   exact⟨z,by rw [Kc (by omega)]; exact h1,h2⟩
  ·rcases Eo i all.length with hl | hl
   ·rw [Kc hl] at hz
    exact h.from_ i z hz hi
   ·rw [Kb hl] at hz
    have e:i - all.length=0:=by
     have:=(Ew hz).1
     simp at this; omega
    rw [e] at hz
    simp at hz
    subst hz
    exact⟨at_,rfl,by omega⟩
theorem Met.G3b {boxes:List Int} {n:Nat} {H:Int} {at_:Nat}:∀ (l:List (G5×List (List Int))) {all:List Gd},Met boxes n H all→at_ < all.length→(∀ x∈l,SmY boxes n H x.2)→Met boxes n H (G3b H (at_:Int) all l)
 | [],all,h,_,_=>h
 | x::l,all,h,h0,hl=>by
  have h1:=h.addN h0 (hl x (List.mem_cons_self ..))
  refine Met.G3b l h1 ?_ (fun y hy=>hl y (List.mem_cons_of_mem _ hy))
  unfold Go.Proofs.Ytokjlondbjdlfaa.addN
  split
  ·exact h0
  ·rw [Kh]; omega
theorem H82 {boxes:List Int} {n:Nat} {H:Int} {ss:List (List Int)} (h:SmY boxes n H ss):∀ x∈Gc5 ss H.toNat,SmY boxes n H x.2:=fun x hx=>by
 obtain⟨a,b,ha,hb,e1,h0,e2⟩:=Q5b hx
 rw [e2]
 rcases Gc3 ss H.toNat x.1 with h' | ⟨f,t,p,q,y,c⟩
 ·exact(h' h0).elim
 ·have hp:=c.perm
  exact⟨G9c h.right h0,by rw [c.eq]; simp [h.len],h.few,fun v=>by rw [c.eq]; exact(hp.mem_iff).trans (h.in_ v)⟩
theorem Q59 {ss:List (List Int)} {h:Nat} (hn:ss.length≤4):(Gc5 ss h).length≤16:=by
 have key:∀ m,(H8f ss h ss.length m).length≤4*m:=by
  intro m
  induction m with
  | zero=>simp [H8f]
  | succ m ih=>rw [Hb1,Kh]; have:=Q7b ss h m ss.length; omega
 have:=key ss.length
 unfold Gc5
 omega
end Go.Proofs.Ytokjlondbjdlfaa
