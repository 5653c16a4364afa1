/-
 Moves: Small yards: The moves of a small yard,in order;
-/
import Derived.Test.YtokjlondbjdlfaaGreatMarC
set_option maxRecDepth 100000
set_option linter.unusedVariables false
namespace Go.Proofs.YtokjlondbjdlfaaGreat
open Go.RowKit

theorem H3c {v:List Int}:∀ {ss:List (List Int)} {i:Nat} {s:List Int},ss[i]? = some s→((ss.set i v).flatten++s).Perm (ss.flatten++v)
 | x::ss,0,s,h=>by
  simp at h; subst h
  rw [List.set_cons_zero,List.flatten_cons,List.flatten_cons]
  have h1:(v++ss.flatten++x).Perm (x++(v++ss.flatten)):=List.perm_append_comm
  have h2:(x++(v++ss.flatten)).Perm (x++(ss.flatten++v)):=List.perm_append_comm.append_left x
  rw [List.append_assoc] at h1
  rw [List.append_assoc,List.append_assoc]
  exact h1.trans h2
 | x::ss,i+1,s,h=>by
  rw [List.set_cons_succ,List.flatten_cons,List.flatten_cons,List.append_assoc,List.append_assoc]
  exact(H3c (ss:=ss) (by simpa using h)).append_left x
 | [],i,s,h=>by simp at h

structure Can (ss:List (List Int)) (h:Nat) (m:G2) (f t:Nat) (a b:List Int) (x:Int):Prop where
 from_:m.From=(f:Int)
 to_:m.To=(t:Int)
 ne:f≠t
 hf:ss[f]? = some (a++[x])
 ht:ss[t]? = some b
 room:b.length≠h
theorem G63 (ss:List (List Int)) (h:Nat) (m:G2):(Hn ss h m).2≠0∨∃ f t a b x,Can ss h m f t a b x:=by
 unfold Hn
 by_cases h1:(m.From < 0∨(ss.length:Int)≤m.From)∨m.To < 0∨(ss.length:Int)≤m.To
 ·rw [if_pos h1]; exact .inl (show (6:Int)≠0 by decide)
 rw [if_neg h1]
 by_cases h2:m.From=m.To
 ·rw [if_pos h2]; exact .inl (show (340:Int)≠0 by decide)
 rw [if_neg h2]
 by_cases h3:(ss.getD m.From.toNat []).length=0
 ·rw [if_pos h3]; exact .inl (show (341:Int)≠0 by decide)
 rw [if_neg h3]
 by_cases h4:(ss.getD m.To.toNat []).length=h
 ·rw [if_pos h4]; exact .inl (show (4:Int)≠0 by decide)
 obtain⟨f,hf⟩:∃ f:Nat,m.From=f:=⟨m.From.toNat,by omega⟩
 obtain⟨t,ht⟩:∃ t:Nat,m.To=t:=⟨m.To.toNat,by omega⟩
 rw [hf,ht] at h1 h2
 rw [hf,show ((f:Int)).toNat=f by omega] at h3
 rw [ht,show ((t:Int)).toNat=t by omega] at h4
 have h0:f < ss.length:=by omega
 have h5:t < ss.length:=by omega
 rw [List.getD_eq_getElem?_getD,Ey h0,Option.getD_some] at h3
 rw [List.getD_eq_getElem?_getD,Ey h5,Option.getD_some] at h4
 have h6:ss[f]≠[]:=fun e=>h3 (by rw [e]; rfl)
 exact .inr ⟨f,t,ss[f].dropLast,ss[t],ss[f].getLast h6,hf,ht,fun e=>h2 (by rw [e]),by rw [List.dropLast_concat_getLast,Ey h0],Ey h5,h4⟩
theorem Can.eq {ss:List (List Int)} {h:Nat} {m:G2} {f t:Nat} {a b:List Int} {x:Int} (c:Can ss h m f t a b x):Hn ss h m=((ss.set t (b++[x])).set f a,0):=by
 have h0:=(Ex c.hf).1
 have h1:=(Ex c.ht).1
 have e1:ss.getD f []=a++[x]:=by rw [List.getD_eq_getElem?_getD,c.hf]; rfl
 have e2:ss.getD t []=b:=by rw [List.getD_eq_getElem?_getD,c.ht]; rfl
 unfold Hn
 rw [c.from_,c.to_,show ((f:Int)).toNat=f by omega,show ((t:Int)).toNat=t by omega,e1,e2,if_neg (by omega),if_neg (by have:=c.ne; omega),if_neg (by simp),if_neg c.room]
 simp
theorem Can.perm {ss:List (List Int)} {h:Nat} {m:G2} {f t:Nat} {a b:List Int} {x:Int} (c:Can ss h m f t a b x):((ss.set t (b++[x])).set f a).flatten.Perm ss.flatten:=by
 have e:(ss.set t (b++[x]))[f]? = some (a++[x]):=by rw [List.getElem?_set_ne (Ne.symm c.ne)]; exact c.hf
 have h1:=H3c (v:=a) e
 have h2:=H3c (v:=b++[x]) c.ht
 rw [List.perm_iff_count] at *
 intro z
 have h1:=h1 z
 have h2:=h2 z
 simp only [List.count_append] at h1 h2
 omega
theorem Q5.shift {ss:List (List Int)} {H:Int} (hr:Q5 ss H) {m:G2} {f t:Nat} {a b:List Int} {x:Int} (c:Can ss H.toNat m f t a b x):Q5 ((ss.set t (b++[x])).set f a) H:=by
 have hp:=c.perm
 refine⟨hr.low,hr.high,by simpa using hr.some_,by simpa using hr.most,fun s hs=>?_,hp.nodup_iff.2 hr.nodup,fun z hz=>hr.ids z (hp.mem_iff.1 hz)⟩
 have hA:=hr.fit _ (K0 c.hf)
 have hB:=hr.fit _ (K0 c.ht)
 have:=c.room
 have:=hr.low
 simp only [Ki,Kj] at hA
 rcases List.mem_or_eq_of_mem_set hs with hs | rfl
 ·rcases List.mem_or_eq_of_mem_set hs with hs | rfl
  ·exact hr.fit s hs
  ·simp only [Ki,Kj]; omega
 ·omega

/-! ### The reference -/
def H2b (ss:List (List Int)) (k:Int) (v:List Int):List (List Int):=ss.mapIdx fun i s=>if (i:Int)=k then v else s
theorem J5f {ss:List (List Int)} {t:Nat} {v:List Int}:H2b ss (t:Int) v=ss.set t v:=by
 refine List.ext_getElem? fun i=>?_
 unfold H2b
 rw [List.getElem?_mapIdx,List.getElem?_set]
 by_cases e:t=i
 ·subst e
  rw [if_pos rfl]
  by_cases h:t < ss.length
  ·rw [if_pos h,Ey h]; simp
  ·rw [if_neg h,List.getElem?_eq_none (by omega)]; rfl
 ·rw [if_neg e]
  cases ss[i]? with
  | none=>rfl
  | some s=>simp only [Option.map_some]; rw [if_neg (by omega)]
theorem Q88 {ss:List (List Int)} {v:List Int}:H2b ss (-1) v=ss:=by
 refine List.ext_getElem? fun i=>?_
 unfold H2b
 rw [List.getElem?_mapIdx]
 cases ss[i]? with
 | none=>rfl
 | some s=>simp only [Option.map_some]; rw [if_neg (by omega)]
theorem J8a {ss:List (List Int)} {H k:Int} {v:List Int} (hn:ss.length≤30) (hl:∀ s∈ss,s.length≤7) (hv:v.length≤7):Qy ⟨ss,H⟩ k v=some ⟨H2b ss k v,H⟩:=by
 refine Y1 ?_
 unfold Qy
 refine Qd (fun pre s=>s=(H2b pre k v,H)) rfl (fun pre x post s nx e hI h0=>?_) (fun s hI=>Hy (by rw [hI]))
 have e:ss=pre++x::post:=e
 subst hI
 have hp:pre.length < 30:=by
  have:=congrArg List.length e
  simp only [Ki,Ke] at this; omega
 have hx:=hl x (by rw [e]; simp)
 have hw:(H2b pre k v).length=pre.length:=by simp [H2b]
 have hs:H2b (pre++[x]) k v=H2b pre k v++[if (pre.length:Int)=k then v else x]:=List.mapIdx_concat
 refine H69 (fun r=>r=H2b (pre++[x]) k v) (fun K hK=>?_) (fun a ha=>h0 _ (by rw [ha]))
 rw [hs] at hK
 refine J0 (fun h=>?_) (fun h=>?_)
 ·have h:=Es h
  refine Jn (Zt (by rw [List.length_nil]; omega) (by decide)) (Jn (Zt (by rw [Kj]; simp only [hw]; omega) (by decide)) (hK _ ?_))
  rw [if_pos h]; rfl
 ·have h:=Eu h
  refine Jn (Zt (by rw [List.length_nil]; omega) (by decide)) (Jn (Zt (by rw [Kj]; simp only [hw]; omega) (by decide)) (hK _ ?_))
  rw [if_neg h]; rfl
def mv (m:G7):G2:=⟨m.From,m.To⟩
def G22 (ss:List (List Int)) (H:Int) (m:G2):List (List Int)×Int×Int:=if (Hn ss H.toNat m).2=0 then ((Hn ss H.toNat m).1,H,0) else ([],0,(Hn ss H.toNat m).2)
theorem H0c {ss ss':List (List Int)} {H e:Int} {m:G2} (h:Hn ss H.toNat m=(ss',e)) (he:e≠0):((⟨[],0⟩:Gs),e)=(⟨(G22 ss H m).1,(G22 ss H m).2.1⟩,(G22 ss H m).2.2):=by
 unfold G22
 rw [h,if_neg he]
theorem Jbf {ss ss':List (List Int)} {H:Int} {m:G2} (h:Hn ss H.toNat m=(ss',0)):((⟨ss',H⟩:Gs),(0:Int))=(⟨(G22 ss H m).1,(G22 ss H m).2.1⟩,(G22 ss H m).2.2):=by
 unfold G22
 rw [h,if_pos rfl]
theorem Hd8 (F:Nat) {ss:List (List Int)} {H:Int} (hr:Q5 ss H) (m:G7):Jx F ⟨ss,H⟩ m=some (⟨(G22 ss H (mv m)).1,(G22 ss H (mv m)).2.1⟩,(G22 ss H (mv m)).2.2):=by
 refine Y1 ?_
 unfold Jx
 refine Gg (Hd9 F ss H) ?_
 rw [Ev hr]
 refine J0 (fun h=>by cases h) (fun _=>?_)
 have h8:=hr.low
 have hS:Hn ss H.toNat (mv m)=if (m.From < 0∨(ss.length:Int)≤m.From)∨m.To < 0∨(ss.length:Int)≤m.To then (ss,6)
  else if m.From=m.To then (ss,340)
  else if (ss.getD m.From.toNat []).length=0 then (ss,341)
  else if (ss.getD m.To.toNat []).length=H.toNat then (ss,4)
  else ((ss.set m.To.toNat (ss.getD m.To.toNat []++[(ss.getD m.From.toNat []).getLastD 0])).set m.From.toNat ((ss.getD m.From.toNat []).take ((ss.getD m.From.toNat []).length - 1)),0):=rfl
 refine J0 (fun h=>Hy ?_) (fun h=>?_)
 ·simp only [Kt,Km] at h
  rw [if_pos (by omega)] at hS
  exact H0c hS (by decide)
 simp only [Ku,decide_eq_false_iff_not] at h
 rw [if_neg (by omega)] at hS
 refine J0 (fun h2=>Hy ?_) (fun h2=>?_)
 ·rw [if_pos (Es h2)] at hS
  exact H0c hS (by decide)
 have h2:=Eu h2
 rw [if_neg h2] at hS
 obtain⟨f,hf⟩:∃ f:Nat,m.From=f:=⟨m.From.toNat,by omega⟩
 obtain⟨t,ht⟩:∃ t:Nat,m.To=t:=⟨m.To.toNat,by omega⟩
 have h0:f < ss.length:=by omega
 have h1:t < ss.length:=by omega
 have gf:ss.getD m.From.toNat []=ss[f]:=by rw [hf,show ((f:Int)).toNat=f by omega,List.getD_eq_getElem?_getD,Ey h0]; rfl
 have gt:ss.getD m.To.toNat []=ss[t]:=by rw [ht,show ((t:Int)).toNat=t by omega,List.getD_eq_getElem?_getD,Ey h1]; rfl
 have lf:=hr.fit _ (List.getElem_mem h0)
 have lt:=hr.fit _ (List.getElem_mem h1)
 have hH:=hr.high
 rw [gf,gt] at hS
 refine Qf hf (Ey h0) (Qf ht (Ey h1) (J0 (fun h3=>Hy ?_) (fun h3=>?_)))
 ·have h3:=Es h3
  rw [if_pos (by omega)] at hS
  exact H0c hS (by decide)
 have h3:=Eu h3
 rw [if_neg (by omega)] at hS
 refine J0 (fun h4=>Hy ?_) (fun h4=>?_)
 ·have h4:H≤(ss[t].length:Int):=Es h4
  rw [if_pos (by omega)] at hS
  exact H0c hS (by decide)
 have h4:¬ H≤(ss[t].length:Int):=Eu h4
 rw [if_neg (by omega)] at hS
 have h5:ss[f]≠[]:=fun e=>h3 (by rw [e]; rfl)
 have h6:ss[f][ss[f].length - 1]? = some (ss[f].getLast h5):=by rw [List.getLast_eq_getElem,Ey]
 have h7:∀ s∈ss,s.length≤7:=fun s hs=>by have:=hr.len s hs; omega
 refine Jn (Zt (by rw [List.length_nil]; omega) (by decide)) (Qh (by omega) (Qf (m:=ss[f].length - 1) (by omega) h6 (Jn (Zt (by simp only [List.nil_append,Kj]; omega) (by decide)) ?_)))
 refine Gg (J8a hr.most h7 (by simp only [List.nil_append,Ki,Kj]; omega)) (Qh (by omega) (Zv (Rs (m:=ss[f].length - 1) (by omega) (by omega) ?_)))
 rw [ht,J5f,hf]
 refine Gg (J8a (by simpa using hr.most) (fun s hs=>?_) (by rw [List.length_take]; omega)) (Hy ?_)
 ·rcases List.mem_or_eq_of_mem_set hs with hs | rfl
  ·exact h7 s hs
  ·simp only [List.nil_append,Ki,Kj]; omega
 ·rw [ht,hf,show ((f:Int)).toNat=f by omega,show ((t:Int)).toNat=t by omega,show ss[f].getLastD 0=ss[f].getLast h5 from List.getLastD_eq_getLast?.trans (by rw [List.getLast?_eq_some_getLast h5]; rfl)] at hS
  rw [J5f,List.nil_append]
  exact Jbf hS
theorem G72 {ss:List (List Int)} {H:Int} (hr:Q5 ss H) {m:G2} (h:(Hn ss H.toNat m).2=0):Q5 (Hn ss H.toNat m).1 H:=by
 rcases G63 ss H.toNat m with h' | ⟨f,t,a,b,x,c⟩
 ·exact(h' h).elim
 ·rw [c.eq]; exact hr.shift c
theorem He7 {H:Int}:∀ (l:List G2) {ss:List (List Int)} (i:Nat),Q5 ss H→(G00 H.toNat ss i l).2.2=0→Q5 (G00 H.toNat ss i l).1 H
 | [],ss,i,hr,_=>hr
 | m::l,ss,i,hr,h=>by
  unfold G00 at h ⊢
  by_cases h1:(Hn ss H.toNat m).2=0
  ·rw [if_pos h1] at h ⊢
   exact He7 l (i+1) (G72 hr h1) h
  ·rw [if_neg h1] at h; exact(h1 h).elim
theorem Qf3 {ss:List (List Int)} {H:Int} (hr:Q5 ss H):YOk ⟨ss,H⟩=true:=by
 unfold YOk
 rw [Kk,List.all_eq_true]
 exact⟨Ev ⟨hr.low,hr.high,hr.most⟩,fun s hs=>Ev (hr.fit s hs)⟩
def G1b (ss:List (List Int)) (H:Int) (l:List G2):List (List Int)×Int×Int×Int:=
 if ¬ Q5 ss H then ([],0,0,2) else if 10000 < l.length then ([],0,0,5) else if (G00 H.toNat ss 0 l).2.2=0 then ((G00 H.toNat ss 0 l).1,H,(G00 H.toNat ss 0 l).2) else ([],0,(G00 H.toNat ss 0 l).2)
theorem J1c {ss:List (List Int)} {H:Int} {l:List G2} (h:¬ Q5 ss H):G1b ss H l=([],0,0,2):=if_pos h
theorem H85 {ss:List (List Int)} {H:Int} {l:List G2} (h:Q5 ss H) (hl:10000 < l.length):G1b ss H l=([],0,0,5):=by
 unfold G1b
 rw [if_neg (fun g=>g h),if_pos hl]
theorem Hcb {ss:List (List Int)} {H:Int} {l:List G2} (h:Q5 ss H) (hl:¬ 10000 < l.length):G1b ss H l=if (G00 H.toNat ss 0 l).2.2=0 then ((G00 H.toNat ss 0 l).1,H,(G00 H.toNat ss 0 l).2) else ([],0,(G00 H.toNat ss 0 l).2):=by
 unfold G1b
 rw [if_neg (fun g=>g h),if_neg hl]
theorem R36 (ss:List (List Int)) (H:Int) (l:List G2):G9c ⟨ss,H⟩ l=some (⟨(G1b ss H l).1,(G1b ss H l).2.1⟩,(G1b ss H l).2.2):=by
 unfold G9c
 rw [Gf7,G04]
 by_cases hr:Q5 ss H
 ·rw [Ev hr,Bool.not_true,cond_false]
  by_cases hl:10000 < l.length
  ·rw [H85 hr hl,Ev (by omega)]; rfl
  ·rw [Hcb hr hl,Ew (by omega),cond_false,Qf3 hr]
   split <;> rfl
 ·rw [J1c hr,Ew hr]; rfl
theorem Jc2 (F:Nat) {H:Int}:∀ (l:List G7) {ss:List (List Int)} (i:Nat),Q5 ss H →
  each (fun(y59:G7) i59 (s59:(List (List Int))×Int) nx59=>bnd (Jx F (Gs.mk s59.1 s59.2) y59) fun r64=>bif decide (r64.2≠0) then (some ((Gs.mk [] 0),(i59:Int),r64.2)) else (nx59 (r64.1.Stacks,r64.1.Height)))
   (fun(s59:(List (List Int))×Int)=>some ((Gs.mk s59.1 s59.2),0,0)) l i (ss,H) =
  some (if (G00 H.toNat ss i (l.map mv)).2.2=0 then (⟨(G00 H.toNat ss i (l.map mv)).1,H⟩,(G00 H.toNat ss i (l.map mv)).2) else (⟨[],0⟩,(G00 H.toNat ss i (l.map mv)).2))
 | [],ss,i,hr=>rfl
 | m::l,ss,i,hr=>by
  rw [each,Hd8 F hr,G04,List.map_cons,G00]
  unfold G22
  by_cases h:(Hn ss H.toNat (mv m)).2=0
  ·rw [if_pos h,if_pos h]
   exact Jc2 F l (i+1) (G72 hr h)
  ·rw [if_neg h,if_neg h]
   simp only [Ev h,cond_true]
   rw [if_neg h]
theorem Qf4 (F:Nat) (ss:List (List Int)) (H:Int) (l:List G7):Ym F ⟨ss,H⟩ l=some (⟨(G1b ss H (l.map mv)).1,(G1b ss H (l.map mv)).2.1⟩,(G1b ss H (l.map mv)).2.2):=by
 unfold Ym
 rw [Hd9,G04]
 by_cases hr:Q5 ss H
 ·rw [Ev hr,Bool.not_true,cond_false]
  by_cases hl:10000 < l.length
  ·rw [H85 hr (by rw [Kn]; exact hl),Ev (by omega)]; rfl
  ·rw [Hcb hr (by rw [Kn]; exact hl),Ew (by omega),cond_false,J8a hr.most (fun s hs=>by have:=hr.len s hs; omega) (by decide),G04,Q88,Jc2 F l 0 hr]
   split <;> rfl
 ·rw [J1c hr,Ew hr]; rfl

theorem wp_loop {β σ:Type} {Q:β→Prop} (I:σ→Prop) (μ:σ→Nat) {b:(σ→Option β)→σ→Option β} {F:Nat} {s:σ} (h0:I s) (hF:μ s < F)
  (hb:∀ s nx,I s→(∀ s',I s'→μ s' < μ s→Wp (nx s') Q)→Wp (b nx s) Q):Wp (loop b F s) Q:=by
 induction F generalizing s with
 | zero=>omega
 | succ F ih=>
  rw [loop]
  exact hb s _ h0 (fun s' h1 h2=>ih h1 (by omega))

def cellAt (ss:List (List Int)) (i k:Nat):Option Int:=(ss[i]?).bind (·[k]?)
def codeOf (boxes:List Int):Option Int→Int
 | some b=>((boxes.idxOf b+1:Nat):Int)
 | none=>0
def G81 (boxes:List Int) (ss:List (List Int)):Gp:=⟨(List.range 24).map fun j=>codeOf boxes (cellAt ss (j / 6) (j % 6)),by simp⟩
theorem H3d (boxes:List Int) (ss:List (List Int)) {j:Nat} (hj:j < 24):(G81 boxes ss).g j=codeOf boxes (cellAt ss (j / 6) (j % 6)):=by
 unfold G81 Gp.g
 rw [List.getD_eq_getElem?_getD,Kf,List.getElem?_range hj]; rfl
theorem J79 (boxes:List Int) (ss:List (List Int)) {i k:Nat} (hi:i < 4) (hk:k < 6):(G81 boxes ss).g (i*6+k*1)=codeOf boxes (cellAt ss i k):=by
 rw [H3d boxes ss (by omega),show (i*6+k*1) / 6=i by omega,show (i*6+k*1) % 6=k by omega]
theorem G59 {ss:List (List Int)} {i k:Nat} {s:List Int} (h:ss[i]? = some s):cellAt ss i k=s[k]? := by unfold cellAt; rw [h]; rfl
theorem Qe9 {boxes:List Int} {o:Option Int}:0 < codeOf boxes o ↔ o.isSome=true:=by
 cases o with
 | none=>simp [codeOf]
 | some b=>simp only [codeOf,Option.isSome_some,iff_true]; omega
theorem Gp.ext_g {a b:Gp} (h:∀ j,j < 24→a.g j=b.g j):a=b:=
 Gp.Qe5 (h 0 (by decide)) (h 1 (by decide)) (h 2 (by decide)) (h 3 (by decide)) (h 4 (by decide)) (h 5 (by decide)) (h 6 (by decide)) (h 7 (by decide)) (h 8 (by decide)) (h 9 (by decide)) (h 10 (by decide)) (h 11 (by decide)) (h 12 (by decide)) (h 13 (by decide)) (h 14 (by decide)) (h 15 (by decide)) (h 16 (by decide)) (h 17 (by decide)) (h 18 (by decide)) (h 19 (by decide)) (h 20 (by decide)) (h 21 (by decide)) (h 22 (by decide)) (h 23 (by decide))

theorem J99 {F:Nat} (hF:8≤F) {boxes:List Int} {ss:List (List Int)} {i:Nat} {s:List Int} (hi:i < 4) (hs:ss[i]? = some s) (hl:s.length≤6):Qa F (G81 boxes ss) (i:Int)=some (s.length:Int):=by
 refine Y1 ?_
 unfold Qa
 refine wp_loop (fun z=>∃ k:Nat,z=(k:Int)∧k≤s.length) (fun z=>s.length - z.toNat) ⟨0,rfl,Nat.zero_le _⟩ (by omega) (fun z nx hz h0=>?_)
 obtain⟨k,rfl,hk⟩:=hz
 by_cases h6:k < 6
 ·have hd:decide ((k:Int) < 6)=true:=Ev (by omega)
  rw [hd]
  refine Zv (Rs (m:=i) rfl (by omega) (Zv (Rs (m:=k) rfl (by omega) ?_)))
  rw [J79 boxes ss hi h6,G59 hs]
  by_cases h1:k < s.length
  ·rw [Ey h1]
   refine J0 (fun _=>Qh (by omega) (h0 _ ⟨k+1,by omega,by omega⟩ (by omega))) (fun h=>?_)
   simp only [Bool.true_and,decide_eq_false_iff_not] at h
   exact absurd (Qe9.2 rfl) h
  ·rw [List.getElem?_eq_none (by omega)]
   exact J0 (fun h=>by simp [codeOf] at h) (fun _=>Hy (by omega))
 ·have hd:decide ((k:Int) < 6)=false:=Ew (by omega)
  rw [hd]
  refine Gg (x:=0) rfl (Gg (x:=0) rfl (J0 (fun h=>by simp at h) (fun _=>Hy (by omega))))

/-! ### Sorted -/
theorem Jac (order:List Int):∀ (s:List Int) (m:Nat),G44 order m s=[] ↔ (∀ b,s[0]? = some b→rnk order b≤m)∧∀ (k:Nat) a b,s[k]? = some a→s[k+1]? = some b→rnk order b≤rnk order a
 | [],m=>by simp [G44]
 | x::s,m=>by
  rw [G44]
  by_cases h:m < rnk order x
  ·rw [if_pos h]
   refine⟨fun h=>by simp at h,fun g=>?_⟩
   have:=g.1 x rfl
   omega
  ·rw [if_neg h,Jac order s]
   constructor
   ·rintro⟨h1,h2⟩
    refine⟨fun b hb=>by simp at hb; subst hb; omega,fun k a b ha hb=>?_⟩
    cases k with
    | zero=>simp at ha hb; subst ha; exact h1 b (by simpa using hb)
    | succ k=>exact h2 k a b (by simpa using ha) (by simpa using hb)
   ·rintro⟨h1,h2⟩
    exact⟨fun b hb=>h2 0 x b rfl (by simpa using hb),fun k a b ha hb=>h2 (k+1) a b (by simpa using ha) (by simpa using hb)⟩
theorem Jad (order:List Int) (ss:List (List Int)):Qj order ss=[] ↔ ∀ s∈ss,∀ (k:Nat) a b,s[k]? = some a→s[k+1]? = some b→rnk order b≤rnk order a:=by
 unfold Qj
 rw [List.flatMap_eq_nil_iff]
 refine forall_congr' fun s=>forall_congr' fun hs=>?_
 rw [Jac]
 exact⟨fun h=>h.2,fun h=>⟨fun b _=>Q29 order b,h⟩⟩

structure SmY (boxes:List Int) (n:Nat) (H:Int) (ss:List (List Int)):Prop where
 right:Q5 ss H
 len:ss.length=n
 few:n≤4
 in_:∀ b,b∈ss.flatten ↔ b∈boxes
theorem SmY.at_ {boxes:List Int} {n:Nat} {H:Int} {ss:List (List Int)} (h:SmY boxes n H ss) {i:Nat} (hi:i < n):∃ s,ss[i]? = some s∧s.length≤6∧(s.length:Int)≤H∧∀ b∈s,b∈boxes:=by
 have hi:i < ss.length:=by rw [h.len]; exact hi
 refine⟨ss[i],Ey hi,h.right.len _ (List.getElem_mem hi),h.right.fit _ (List.getElem_mem hi),fun b hb=>(h.in_ b).1 (List.mem_flatten.2 ⟨_,List.getElem_mem hi,hb⟩)⟩
def Gd4 (order boxes:List Int):List Int:=0::boxes.map fun b=>(rnk order b:Int)
theorem Jc7 {order boxes:List Int} {b:Int} (h:b∈boxes):(Gd4 order boxes)[boxes.idxOf b+1]? = some (rnk order b:Int):=by
 unfold Gd4
 rw [List.getElem?_cons_succ,Kf]
 have hl:=List.idxOf_lt_length_of_mem h
 rw [Ey hl,Option.map_some]
 congr 3
 exact List.getElem_idxOf hl
theorem Q90 {F:Nat} (hF:8≤F) {boxes order:List Int} {n:Nat} {H:Int} {ss:List (List Int)} (hS:SmY boxes n H ss):Rc F (G81 boxes ss) (n:Int) (Gd4 order boxes)=some (decide (Qj order ss=[])):=by
 refine Y1 ?_
 unfold Rc
 have h4:=hS.few
 refine Jn (Ev (by omega)) ?_
 have ht:((n:Int)).toNat=n:=by omega
 rw [ht]
 refine H01 (fun i _=>∀ j,j < i→∀ s,ss[j]? = some s→∀ (k:Nat) a b,s[k]? = some a→s[k+1]? = some b→rnk order b≤rnk order a) (fun j hj=>by omega) (fun i s0 nx hi hI h3=>?_) (fun s0 hI=>Hy ?_)
 ·obtain⟨s,hs,h6,hH,hb⟩:=hS.at_ hi
  refine wp_loop (fun z=>∃ k:Nat,z=(k:Int)∧1≤k∧∀ (q:Nat) a b,q+1 < k→s[q]? = some a→s[q+1]? = some b→rnk order b≤rnk order a) (fun z=>s.length+1 - z.toNat) ⟨1,rfl,by omega,fun q a b hq=>by omega⟩ (by omega) (fun z nx' hz h2=>?_)
  obtain⟨k,rfl,h5,hk⟩:=hz
  refine Gg (J99 hF (by omega) hs h6) (J0 (fun h=>?_) (fun h=>h3 _ ?_))
  ·have h1:k < s.length:=by have:=Es h; omega
   refine Zv (Rs (m:=i) rfl (by omega) (Zv (Rs (m:=k) rfl (by omega) ?_)))
   rw [J79 boxes ss (by omega) (by omega),G59 hs,Ey h1]
   refine Qf (m:=boxes.idxOf s[k]+1) rfl (Jc7 (hb _ (List.getElem_mem h1))) (Qh (by omega) ?_)
   refine Zv (Rs (m:=i) rfl (by omega) (Zv (Rs (m:=k - 1) (by omega) (by omega) ?_)))
   have h0:k - 1 < s.length:=by omega
   rw [J79 boxes ss (by omega) (by omega),G59 hs,Ey h0]
   refine Qf (m:=boxes.idxOf s[k - 1]+1) rfl (Jc7 (hb _ (List.getElem_mem h0))) (J0 (fun h=>Hy ?_) (fun h=>Qh (by omega) (h2 _ ⟨k+1,by omega,by omega,fun q a b hq ha hb=>?_⟩ (by omega))))
   ·have h:=Es h
    refine(Ew fun hw=>?_).symm
    have:=(Jad order ss).1 hw s (K0 hs) (k - 1) s[k - 1] s[k] (Ey h0) (by rw [show k - 1+1=k by omega]; exact Ey h1)
    omega
   ·have h:=Eu h
    by_cases e:q+1=k
    ·have e1:s[k - 1]=a:=by
      have:s[k - 1]? = some a:=by rw [show k - 1=q by omega]; exact ha
      rw [Ey h0] at this; exact Ez this
     have e2:s[k]=b:=by
      have:s[k]? = some b:=by rw [← e]; exact hb
      rw [Ey h1] at this; exact Ez this
     rw [e1,e2] at h
     omega
    ·exact hk q a b (by omega) ha hb
  ·have h:=Eu h
   intro j hj t ht q a b ha hb
   by_cases e:j=i
   ·subst e
    rw [hs] at ht; cases ht
    have:=(Ex hb).1
    exact hk q a b (by omega) ha hb
   ·exact hI j (by omega) t ht q a b ha hb
 ·refine(Ev ((Jad order ss).2 fun s hs=>?_)).symm
  obtain⟨j,hj⟩:=List.mem_iff_getElem?.1 hs
  exact hI j (by rw [← hS.len]; exact(Ex hj).1) s hj

def G2f (ss:List (List Int)) (h a b:Nat):List (G2×List (List Int)):=if (Hn ss h ⟨a,b⟩).2=0 then [(⟨a,b⟩,(Hn ss h ⟨a,b⟩).1)] else []
def Gf3 (ss:List (List Int)) (h a m:Nat):List (G2×List (List Int)):=(List.range m).flatMap (G2f ss h a)
def H1a (ss:List (List Int)) (h n m:Nat):List (G2×List (List Int)):=(List.range m).flatMap fun a=>Gf3 ss h a n
def G64 (ss:List (List Int)) (h:Nat):List (G2×List (List Int)):=H1a ss h ss.length ss.length
theorem H50 (ss:List (List Int)) (h a m:Nat):Gf3 ss h a (m+1)=Gf3 ss h a m++G2f ss h a m:=by
 unfold Gf3; rw [List.range_succ,List.flatMap_append]; simp
theorem H5f (ss:List (List Int)) (h n m:Nat):H1a ss h n (m+1)=H1a ss h n m++Gf3 ss h m n:=by
 unfold H1a; rw [List.range_succ,List.flatMap_append]; simp
theorem J1f (ss:List (List Int)) (h a b:Nat):(G2f ss h a b).length≤1:=by unfold G2f; split <;> simp
theorem Qc7 (ss:List (List Int)) (h a m:Nat):(Gf3 ss h a m).length≤m:=by
 induction m with
 | zero=>simp [Gf3]
 | succ m ih=>rw [H50,Ki]; have:=J1f ss h a m; omega
theorem J70 {ss:List (List Int)} {h:Nat} {x:G2×List (List Int)} (hx:x∈G64 ss h):∃ a b:Nat,a < ss.length∧b < ss.length∧x.1=⟨a,b⟩∧(Hn ss h x.1).2=0∧x.2=(Hn ss h x.1).1:=by
 unfold G64 H1a at hx
 obtain⟨a,ha,hx⟩:=List.mem_flatMap.1 hx
 unfold Gf3 at hx
 obtain⟨b,hb,hx⟩:=List.mem_flatMap.1 hx
 unfold G2f at hx
 split at hx
 ·rename_i h0
  rw [Kq] at hx
  subst hx
  exact⟨a,b,List.mem_range.1 ha,List.mem_range.1 hb,rfl,h0,rfl⟩
 ·exact absurd hx (by simp)

theorem Qe7 {boxes:List Int} {ss:List (List Int)} {f t:Nat} {a b:List Int} {x:Int} {h:Nat} {m:G2} (c:Can ss h m f t a b x) (hf:f < 4) (ht:t < 4) (hl:a.length < 6) (hr:b.length < 6) :
  G81 boxes ((ss.set t (b++[x])).set f a)=((G81 boxes ss).set (t*6+b.length*1) ((G81 boxes ss).g (f*6+a.length*1))).set (f*6+a.length*1) 0:=by
 have h4:=(Ex c.hf).1
 have h5:=(Ex c.ht).1
 refine Gp.ext_g fun j hj=>?_
 rw [Gp.Q6e _ (by omega),Gp.Q6e _ (by omega),H3d _ _ hj,J79 boxes ss hf hl,G59 c.hf,H3d boxes ss hj]
 have h8:=c.ne
 obtain⟨i,k,hi,hk,rfl⟩:∃ i k,i < 4∧k < 6∧j=i*6+k:=⟨j / 6,j % 6,by omega,by omega,by omega⟩
 have e1:(i*6+k) / 6=i:=by omega
 have e2:(i*6+k) % 6=k:=by omega
 rw [e1,e2]
 have h2:(a++[x])[a.length]? = some x:=by simp
 rw [h2]
 by_cases h0:i=f
 ·subst h0
  have g1:cellAt ((ss.set t (b++[x])).set i a) i k=a[k]? := G59 (by rw [List.getElem?_set_self (by simpa using h4)])
  rw [g1,G59 c.hf]
  by_cases h6:k=a.length
  ·subst h6
   rw [if_pos (by omega),List.getElem?_eq_none (by omega)]; rfl
  ·rw [if_neg (by omega),if_neg (by omega)]
   rcases Ep k a.length with h1 | h1
   ·rw [Kd h1]
   ·rw [List.getElem?_eq_none (by omega),List.getElem?_eq_none (by simp; omega)]
 ·by_cases h3:i=t
  ·subst h3
   have g1:cellAt ((ss.set i (b++[x])).set f a) i k=(b++[x])[k]? := G59 (by rw [List.getElem?_set_ne (Ne.symm h0),List.getElem?_set_self h5])
   rw [g1,G59 c.ht,if_neg (by omega)]
   by_cases h7:k=b.length
   ·subst h7
    rw [if_pos (by omega)]; simp
   ·rw [if_neg (by omega)]
    rcases Ep k b.length with h1 | h1
    ·rw [Kd h1]
    ·rw [List.getElem?_eq_none (by simp; omega),List.getElem?_eq_none (by omega)]
  ·have g1:cellAt ((ss.set t (b++[x])).set f a) i k=cellAt ss i k:=by
    unfold cellAt
    rw [List.getElem?_set_ne (Ne.symm h0),List.getElem?_set_ne (Ne.symm h3)]
   rw [g1,if_neg (by omega),if_neg (by omega)]
def J31 (boxes:List Int) (x:G2×List (List Int)):G2×Gp:=(x.1,G81 boxes x.2)
theorem R34 {ss:List (List Int)} {h i j:Nat} {s t:List Int} (hs:ss[i]? = some s) (ht:ss[j]? = some t):(Hn ss h ⟨i,j⟩).2=0 ↔ i≠j∧s.length≠0∧t.length≠h:=by
 have h0:=(Ex hs).1
 have h4:=(Ex ht).1
 unfold Hn
 dsimp only
 rw [if_neg (by omega),show ((i:Int)).toNat=i by omega,show ((j:Int)).toNat=j by omega,List.getD_eq_getElem?_getD,List.getD_eq_getElem?_getD,hs,ht]
 simp only [Option.getD_some]
 by_cases h1:i=j
 ·subst h1
  rw [if_pos rfl]
  exact⟨fun h=>absurd h (show ¬ ((340:Int)=0) by decide),fun h=>(h.1 rfl).elim⟩
 rw [if_neg (by omega)]
 by_cases h2:s.length=0
 ·rw [if_pos h2]
  exact⟨fun h=>absurd h (show ¬ ((341:Int)=0) by decide),fun h=>(h.2.1 h2).elim⟩
 rw [if_neg h2]
 by_cases h3:t.length=h
 ·rw [if_pos h3]
  exact⟨fun h=>absurd h (show ¬ ((4:Int)=0) by decide),fun h=>(h.2.2 h3).elim⟩
 rw [if_neg h3]
 exact⟨fun _=>⟨h1,h2,h3⟩,fun _=>rfl⟩
theorem Qd6 {F:Nat} (hF:8≤F) {boxes:List Int} {n:Nat} {H:Int} {ss:List (List Int)} (hS:SmY boxes n H ss):Y2 F (n:Int) (G81 boxes ss) H=some ((G64 ss H.toNat).map (J31 boxes)):=by
 refine Y1 ?_
 unfold Y2
 have h5:=hS.few
 have h6:=hS.right.low
 have h3:=hS.right.high
 have ht:((n:Int)).toNat=n:=by omega
 refine Jn (Ev (by omega)) ?_
 rw [ht]
 refine H01 (fun i s=>s=(H1a ss H.toNat n i).map (J31 boxes)) rfl (fun i s nx hi hI h1=>?_) (fun s hI=>Hy ?_)
 ·subst hI
  refine Jn (Ev (by omega)) (H01 (fun j s=>s=(H1a ss H.toNat n i).map (J31 boxes)++(Gf3 ss H.toNat i j).map (J31 boxes)) (by simp [Gf3]) (fun j s nx' hj hJ h0=>?_) (fun s hJ=>h1 _ ?_))
  ·subst hJ
   obtain⟨s,hs,s6,sH,sb⟩:=hS.at_ hi
   obtain⟨t,ht,t6,tH,tb⟩:=hS.at_ hj
   refine H69 (fun r=>r=(H1a ss H.toNat n i).map (J31 boxes)++(Gf3 ss H.toNat i (j+1)).map (J31 boxes)) (fun K hK=>?_) (fun a ha=>h0 _ ha)
   refine Gg (J99 hF (by omega) hs s6) (Gg (J99 hF (by omega) ht t6) ?_)
   have hc:=R34 (h:=H.toNat) hs ht
   rw [H50,G2f] at hK
   refine J0 (fun h=>hK _ ?_) (fun h=>?_)
   ·simp only [Kt,Km] at h
    rw [if_neg (fun g=>by have:=hc.1 g; omega),List.append_nil]
   ·simp only [Ku,decide_eq_false_iff_not] at h
    have hz:(Hn ss H.toNat ⟨i,j⟩).2=0:=hc.2 (by omega)
    rw [if_pos hz] at hK
    rcases G63 ss H.toNat ⟨i,j⟩ with h' | ⟨f,t',a,b,x,c⟩
    ·exact(h' hz).elim
    ·have ef:f=i:=by have:(i:Int)=f:=c.from_; omega
     have et:t'=j:=by have:(j:Int)=t':=c.to_; omega
     subst ef et
     have es:s=a++[x]:=Ez (hs.symm.trans c.hf)
     have eb:t=b:=Ez (ht.symm.trans c.ht)
     subst es eb
     have h2:(a++[x]).length=a.length+1:=by simp
     rw [h2] at s6 sH h ⊢
     have h4:=c.room
     have hm:=Qe7 (boxes:=boxes) c (by omega) (by omega) (by omega) (by omega)
     refine Qh (by omega) (Qh (by omega) ?_)
     refine Zv (Rs (m:=f) rfl (by omega) (Zv (Rs (m:=a.length) (by omega) (by omega) (Zv (Rs (m:=t') rfl (by omega) (Zv (Rs (m:=t.length) rfl (by omega) (Zv (Rs (m:=f) rfl (by omega) (Zv (Rs (m:=a.length) (by omega) (by omega) (hK _ ?_))))))))))))
     rw [c.eq,List.append_assoc,List.map_append]
     congr 2
     show _=[J31 boxes _]
     unfold J31
     rw [hm]
  ·rw [hJ,H5f,List.map_append]
 ·rw [hI]
  unfold G64
  rw [hS.len]

/-! ### The reference -/
theorem same_eq (F:Nat) (n:Nat) {a b:List (List Int)} {H H':Int} (ha:a.length=n) (hb:b.length=n):Yk F ⟨a,H⟩ ⟨b,H'⟩=some (decide (a=b)):=by
 refine Y1 ?_
 unfold Yk
 refine Qd (fun pre _=>pre=b.take pre.length) (by simp) (fun pre x post s nx e hI h1=>?_) (fun s hI=>Hy ?_)
 ·have e:a=pre++x::post:=e
  have hp:pre.length < n:=by
   rw [← ha,e]; simp
  have hg:b[pre.length]? = some b[pre.length]:=Ey (by omega)
  have no:∀ h:x≠b[pre.length],decide (a=b)=false:=fun h=>Ew fun eq=>h (by
   have:a[pre.length]? = some x:=by rw [e]; simp
   rw [eq,hg] at this
   exact(Ez this).symm)
  refine Qf rfl hg (J0 (fun h=>Hy (no fun ex=>?_).symm) (fun h=>?_))
  ·have h:=Es h
   rw [ex] at h; exact h rfl
  ·have h:x.length=b[pre.length].length:=by have:=Eu h; omega
   refine Qd (fun pr _=>pr=b[pre.length].take pr.length) (by simp) (fun pr z po s nx' e' hJ h0=>?_) (fun s hJ=>h1 _ ?_)
   ·have h3:pr.length < b[pre.length].length:=by rw [← h,e']; simp
    have hz:b[pre.length][pr.length]? = some b[pre.length][pr.length]:=Ey h3
    refine Qf rfl hg (Qf rfl hz (J0 (fun h2=>Hy (no fun ex=>?_).symm) (fun h2=>h0 _ ?_)))
    ·have h2:=Es h2
     apply h2
     have:x[pr.length]? = some z:=by rw [e']; simp
     rw [ex,hz] at this
     exact(Ez this).symm
    ·have h2:z=b[pre.length][pr.length]:=by
      have:=Eu h2
      exact Classical.byContradiction fun g=>this g
     rw [Ki,Kj,List.take_add_one,hz,← hJ,h2]; rfl
   ·have hJ:x=b[pre.length].take x.length:=hJ
    rw [h,List.take_length] at hJ
    rw [Ki,Kj,List.take_add_one,hg,← hI]
    simp only [Option.toList_some]
    rw [← hJ]
 ·have hI:a=b.take a.length:=hI
  rw [ha,← hb,List.take_length] at hI
  exact(Ev hI).symm
def addN (H at_:Int) (all:List Gb) (x:G2×List (List Int)):List Gb:=if ∃ z∈all,z.y.Stacks=x.2 then all else all++[⟨⟨x.2,H⟩,at_,⟨x.1.From,x.1.To⟩⟩]
def G3e (H at_:Int) (all:List Gb) (l:List (G2×List (List Int))):List Gb:=l.foldl (addN H at_) all
theorem H44 (H at_:Int) (all:List Gb) (l m:List (G2×List (List Int))):G3e H at_ all (l++m)=G3e H at_ (G3e H at_ all l) m:=by unfold G3e; rw [List.foldl_append]
theorem H43 (H at_:Int):∀ (l:List (G2×List (List Int))) (all:List Gb),all.length≤(G3e H at_ all l).length∧(G3e H at_ all l).length≤all.length+l.length
 | [],all=>by simp [G3e]
 | x::l,all=>by
  have e:G3e H at_ all (x::l)=G3e H at_ (addN H at_ all x) l:=rfl
  have:=H43 H at_ l (addN H at_ all x)
  have h2:all.length≤(addN H at_ all x).length∧(addN H at_ all x).length≤all.length+1:=by unfold addN; split <;> simp
  rw [e,Ke]; omega
theorem Je2 {P:List (List Int)→Prop} (H at_:Int):∀ (l:List (G2×List (List Int))) (all:List Gb),(∀ z∈all,P z.y.Stacks)→(∀ x∈l,P x.2)→∀ z∈G3e H at_ all l,P z.y.Stacks
 | [],all,h,_=>h
 | x::l,all,h,hl=>by
  refine Je2 H at_ l (addN H at_ all x) (fun z hz=>?_) (fun y hy=>hl y (List.mem_cons_of_mem _ hy))
  unfold addN at hz
  split at hz
  ·exact h z hz
  ·rcases Ko.1 hz with hz | hz
   ·exact h z hz
   ·rw [Kq] at hz; subst hz; exact hl x (List.mem_cons_self ..)
theorem Qf1 {F:Nat} {boxes:List Int} {n:Nat} {H:Int} {all:List Gb} {at_:Nat} {z:Gb} (hz:all[at_]? = some z) (h5:∀ z∈all,SmY boxes n H z.y.Stacks∧z.y.Height=H) (hF:all.length+20 < F) (a4:all.length≤9000000) :
  R9 F all (at_:Int)=some (G3e H (at_:Int) all (G64 z.y.Stacks H.toNat)):=by
 refine Y1 ?_
 unfold R9
 obtain⟨hS,hH⟩:=h5 z (K0 hz)
 have a0:=hS.few
 refine Qf rfl hz ?_
 obtain⟨⟨ss,H'⟩,fr,by_⟩:=z
 have hH:H'=H:=hH
 subst hH
 have hS:SmY boxes n H' ss:=hS
 show Wp (each _ _ ss 0 all) _
 have good:∀ l:List (G2×List (List Int)),(∀ x∈l,SmY boxes n H' x.2)→∀ z∈G3e H' (at_:Int) all l,SmY boxes n H' z.y.Stacks:=fun l hl=>Je2 H' _ l all (fun z hz=>(h5 z hz).1) hl
 have mvok:∀ a b:Nat,∀ x∈G2f ss H'.toNat a b,SmY boxes n H' x.2:=fun a b x hx=>by
  unfold G2f at hx
  split at hx
  ·rename_i h0
   rw [Kq] at hx
   subst hx
   rcases G63 ss H'.toNat ⟨a,b⟩ with h' | ⟨f,t,p,q,y,c⟩
   ·exact(h' h0).elim
   ·have hp:=c.perm
    exact⟨G72 hS.right h0,by rw [c.eq]; simp [hS.len],a0,fun v=>by rw [c.eq]; exact(hp.mem_iff).trans (hS.in_ v)⟩
  ·exact absurd hx (by simp)
 have rowok:∀ a m:Nat,∀ x∈Gf3 ss H'.toNat a m,SmY boxes n H' x.2:=fun a m x hx=>by
  unfold Gf3 at hx
  obtain⟨b,_,hx⟩:=List.mem_flatMap.1 hx
  exact mvok a b x hx
 have colok:∀ m:Nat,∀ x∈H1a ss H'.toNat ss.length m,SmY boxes n H' x.2:=fun m x hx=>by
  unfold H1a at hx
  obtain⟨a,_,hx⟩:=List.mem_flatMap.1 hx
  exact rowok a _ x hx
 refine Qd (fun pre s=>s=G3e H' (at_:Int) all (H1a ss H'.toNat ss.length pre.length)∧s.length≤all.length+4*pre.length) ⟨by simp [H1a,G3e],by simp⟩ (fun pre x post s nx e hI a2=>?_) (fun s hI=>Hy hI.1)
 obtain⟨hI,a7⟩:=hI
 have a8:pre.length < n:=by rw [← hS.len,e]; simp
 refine Qd (fun pr s'=>s'=G3e H' (at_:Int) s (Gf3 ss H'.toNat pre.length pr.length)∧s'.length≤s.length+pr.length) ⟨by simp [Gf3,G3e],by simp⟩ (fun pr x' po s' nx' e' hJ a1=>?_) (fun s' hJ=>a2 _ ⟨?_,?_⟩)
 ·obtain⟨hJ,a9⟩:=hJ
  have e':ss=pr++x'::po:=e'
  have a5:pr.length < n:=by rw [← hS.len,e']; simp
  have hs'all:∀ z∈s',SmY boxes n H' z.y.Stacks:=by
   rw [hJ,hI,← H44]
   exact good _ fun x hx=>(Ko.1 hx).elim (colok _ x) (rowok _ _ x)
  refine H69 (fun r=>r=G3e H' (at_:Int) s' (G2f ss H'.toNat pre.length pr.length)) (fun K hK=>?_) (fun r hr=>a1 _ ⟨?_,?_⟩)
  ·refine Gg (Hd8 F hS.right ⟨(pre.length:Int),(pr.length:Int)⟩) ?_
   have emv:mv ⟨(pre.length:Int),(pr.length:Int)⟩=(⟨(pre.length:Int),(pr.length:Int)⟩:G2):=rfl
   unfold G22
   rw [emv]
   by_cases h0:(Hn ss H'.toNat ⟨(pre.length:Int),(pr.length:Int)⟩).2=0
   ·have h3:G2f ss H'.toNat pre.length pr.length=[(⟨(pre.length:Int),(pr.length:Int)⟩,(Hn ss H'.toNat ⟨(pre.length:Int),(pr.length:Int)⟩).1)]:=by unfold G2f; rw [if_pos h0]
    have h6:SmY boxes n H' (Hn ss H'.toNat ⟨(pre.length:Int),(pr.length:Int)⟩).1:=mvok pre.length pr.length _ (by rw [h3]; exact Kq.2 rfl)
    rw [if_pos h0]
    dsimp only
    generalize a6:(Hn ss H'.toNat ⟨(pre.length:Int),(pr.length:Int)⟩).1=next at h6 h3 ⊢
    rw [h3] at hK
    have h8:∀ a,a=addN H' (at_:Int) s' (⟨(pre.length:Int),(pr.length:Int)⟩,next)→Wp (K a) _:=hK
    refine wp_loop (fun q=>∃ k:Nat,k≤s'.length∧q.2=(k:Int)∧(q.1=true ↔ ∃ z∈s'.take k,z.y.Stacks=next)) (fun q=>s'.length+1 - q.2.toNat) ⟨0,Nat.zero_le _,rfl,⟨fun h=>absurd h (show ¬ (decide ((0:Int)≠0)=true) by decide),fun⟨z,hz,_⟩=>absurd hz (by simp)⟩⟩ (by dsimp only; omega) (fun q nq hq h9=>?_)
    obtain⟨is,i⟩:=q
    obtain⟨k,hk,h7,his⟩:=hq
    have h7:i=(k:Int):=h7
    subst h7
    refine J0 (fun h=>?_) (fun h=>?_)
    ·simp only [Kk,Km,Bool.not_eq_true'] at h
     obtain⟨b0,hf⟩:=h
     have h4:k < s'.length:=by omega
     have a3:=hs'all _ (List.getElem_mem h4)
     have e0:(s'[k]).y=⟨(s'[k]).y.Stacks,(s'[k]).y.Height⟩:=rfl
     refine Qf rfl (Ey h4) ?_
     rw [e0]
     refine Gg (same_eq F n a3.len h6.len) (Qh (by omega) (h9 _ ⟨k+1,by omega,by dsimp only; omega,?_⟩ (by dsimp only; omega)))
     dsimp only
     rw [Km,List.take_add_one,Ey h4]
     constructor
     ·exact fun g=>⟨s'[k],Ko.2 (.inr (by rw [Option.toList_some]; exact Kq.2 rfl)),g⟩
     ·rintro⟨z,hz,g⟩
      rcases Ko.1 hz with hz | hz
      ·have:=his.2 ⟨z,hz,g⟩
       rw [hf] at this; cases this
      ·simp only [Option.toList_some,Kq] at hz
       subst hz; exact g
    ·refine J0 (fun h2=>?_) (fun h2=>h8 _ ?_)
     ·have hf:is=false:=by simpa using h2
      have h4:k=s'.length:=by
       rw [hf] at h
       simp only [Bool.not_false,Bool.and_true,decide_eq_false_iff_not] at h
       omega
      refine Jn (Zt (by rw [Kj]; omega) (by decide)) (h8 _ ?_)
      unfold addN
      rw [if_neg]
      rintro⟨z,hz,g⟩
      have:=his.2 ⟨z,by rw [h4,List.take_length]; exact hz,g⟩
      dsimp only at this
      rw [hf] at this; cases this
     ·have hf:is=true:=by simpa using h2
      obtain⟨z,hz,g⟩:=his.1 hf
      unfold addN
      rw [if_pos ⟨z,List.mem_of_mem_take hz,g⟩]
   ·have h3:G2f ss H'.toNat pre.length pr.length=[]:=by unfold G2f; rw [if_neg h0]
    rw [if_neg h0]
    rw [h3] at hK
    dsimp only
    rw [Ev h0]
    refine wp_loop (fun q=>q=(true,(0:Int))) (fun q=>0) rfl (by omega) (fun q nq hq h9=>?_)
    subst hq
    refine J0 (fun h=>?_) (fun h=>J0 (fun h2=>by simp at h2) (fun h2=>hK _ rfl))
    simp at h
  ·rw [Ki,Kj,H50,H44,← hJ]; exact hr
  ·have h1:=(H43 H' (at_:Int) (G2f ss H'.toNat pre.length pr.length) s').2
   have h2:=J1f ss H'.toNat pre.length pr.length
   rw [hr,Ki,Kj]; omega
 ·rw [Ki,Kj,H5f,H44,← hI]; exact hJ.1
 ·have h1:ss.length=n:=hS.len
  have:s'.length≤s.length+ss.length:=hJ.2
  rw [Ki,Kj]; omega
end Go.Proofs.YtokjlondbjdlfaaGreat
