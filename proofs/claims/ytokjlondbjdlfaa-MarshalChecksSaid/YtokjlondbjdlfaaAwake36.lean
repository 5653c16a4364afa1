/-
 begin,Bound; Moves: The examples of chapter 36.
-/
import Derived.Test.YtokjlondbjdlfaaMarB
import Derived.Test.YtokjlondbjdlfaaXD
set_option maxRecDepth 100000
set_option linter.unusedVariables false
namespace Go.Proofs.Ytokjlondbjdlfaa
open Go.RowKit

section
theorem Jc2 {α β:Type} [DecidableEq β] {xs:List α} {k:Bool→Option β} {r:Option β} (h:∀ b,(b=true→xs=[])→k b=r):Q8b xs k=r:=by
 unfold Q8b
 cases xs with
 | nil=>rw [h true (fun _=>rfl),h false (fun e=>by cases e)]; simp
 | cons x l=>exact h false (fun e=>by cases e)
end
theorem Q25 {s:List Int} (h:s.length≤1000000):Qw s=some s:=by
 unfold Qw
 refine Jc2 (fun b hb=>?_)
 cases b with
 | true=>rw [hb rfl]; rfl
 | false=>rw [cond_false,show decide ((([]:List Int).length+s.length)*8≤140737488355328∧([]:List Int).length+s.length≤maxLen)=true from G86 (by rw [List.length_nil]; omega) (by decide)]; rfl

structure Q5c (ss:List (List Int)) (order:List Int) (j:Hk):Prop where
 stacks:j.stacks=ss
 order_:j.order=order
 has:∀ b,Hj.has j.ranks b=decide (b∈order)
 get:∀ b,b∈order→Hj.get j.ranks b 0=(rnk order b:Int)

theorem H90 {β:Type} {ss:List (List Int)} {z:Int×(List Int)×(List Gu)×Int} (hn:ss.length≤30) (hl:∀ s∈ss,s.length≤6) (P:Option β→Prop) {k:(List (List Int))×Int×(List Int)×(List Gu)×Int→Option β} (h:P (k (ss,z))) :
  P (each (fun(y37:List Int) (i37:Nat) (s37:(List (List Int))×Int×(List Int)×(List Gu)×Int) nx37=>bnd (Qw y37) fun r42=>need (decide ((s37.1.length+[r42].length)*24≤140737488355328∧s37.1.length+[r42].length≤maxLen)) <| nx37 ((s37.1++[r42]),s37.2.1,s37.2.2.1,s37.2.2.2.1,s37.2.2.2.2)) k ss 0 ([],z)):=by
 refine Hec P (fun pre s=>s=(pre,z)) rfl (fun pre x post s nx e hI h0=>?_) (fun s hI=>by rw [hI]; exact h)
 subst hI
 have hx:=hl x (by rw [e]; simp)
 have hp:pre.length < 30:=by
  have:=congrArg List.length e
  simp only [Ki,Ke] at this; omega
 rw [Q25 (by omega),Gf7,show decide ((pre.length+[x].length)*24≤140737488355328∧pre.length+[x].length≤maxLen)=true from G86 (by rw [Kj]; omega) (by decide)]
 exact h0 _ rfl
theorem Q19 {pre:List Int} {s:Hj Int Int} {b:Int} (hn:b ∉ pre) (h1:∀ a,Hj.has s a=decide (a∈pre)) (h2:∀ a,a∈pre→Hj.get s a 0=(rnk pre a:Int)) :
  (∀ a,Hj.has (Hj.put s b (pre.length:Int)) a=decide (a∈pre++[b]))∧∀ a,a∈pre++[b]→Hj.get (Hj.put s b (pre.length:Int)) a 0=(rnk (pre++[b]) a:Int):=by
 refine⟨fun a=>?_,fun a ha=>?_⟩
 ·rw [Q3d,h1]
  by_cases e:b=a
  ·subst e; simp
  ·simp [e,Ne.symm e]
 ·rw [J8c]
  by_cases e:b=a
  ·subst e; rw [if_pos rfl,J37.2 hn]
  ·rw [if_neg e]
   have ha:a∈pre:=by simpa [Ne.symm e] using ha
   rw [h2 a ha]
   unfold rnk
   rw [List.idxOf_append,if_pos ha]
theorem Jcf {ss:List (List Int)} {H:Int} {order:List Int} (h:G82 ss H order):Wp (Q8 ⟨ss,H⟩ order) (fun r=>r.2=true∧Q5c ss order r.1):=by
 unfold Q8
 refine Ja (H0f ss H) ?_
 rw [Ev h.y]
 refine H90 h.y.most h.y.len (fun m=>Wp m _) ?_
 refine Yg (fun pre s=>(∀ a,Hj.has s a=decide (a∈pre))∧∀ a,a∈pre→Hj.get s a 0=(rnk pre a:Int)) ⟨fun a=>by simp; rfl,by simp⟩ (fun pre b post s nx e hI h1=>?_) (fun s hI=>Jp ⟨rfl,rfl,rfl,hI.1,hI.2⟩)
 refine Ja (J48 ss H b) (Ja rfl ?_)
 have h0:=h.o.nodup
 rw [e] at h0
 have hn:b ∉ pre:=fun hb=>(List.nodup_append.1 h0).2.2 b hb b (by simp) rfl
 rw [H6f,hI.1,Ew hn,Ev (h.o.in_ b (by rw [e]; simp))]
 exact h1 _ (Q19 hn hI.1 hI.2)
theorem Jd0 {ss:List (List Int)} {H:Int} {order:List Int} (h:¬ G82 ss H order):Q8 ⟨ss,H⟩ order=none∧Ro ⟨ss,H⟩ order=some false:=by
 by_cases hY:Qi ss H
 ·have hO:¬ H48 ss order:=fun hO=>h ⟨hY,hO⟩
  have fin:∀ s:Hj Int Int,(order.Nodup∧(∀ a∈order,a∈ss.flatten))∧(∀ a,Hj.has s a=decide (a∈order))→False:=fun s hs=>hO ⟨hs.1.1,hs.1.2⟩
  have step:∀ (pre:List Int) (b:Int) (post:List Int) (s:Hj Int Int),order=pre++b::post→(pre.Nodup∧(∀ a∈pre,a∈ss.flatten))∧(∀ a,Hj.has s a=decide (a∈pre))→(Hj.has s b||!(Gc9 b ss 0).2.2)=false →
    ((pre++[b]).Nodup∧(∀ a∈pre++[b],a∈ss.flatten))∧(∀ a,Hj.has (Hj.put s b (pre.length:Int)) a=decide (a∈pre++[b])):=fun pre b post s e hI hf=>by
   rw [H6f,hI.2] at hf
   simp only [Ku,decide_eq_false_iff_not,Bool.not_eq_false',Km] at hf
   refine⟨⟨List.nodup_append.2 ⟨hI.1.1,by simp,fun a ha c hc=>?_⟩,fun a ha=>?_⟩,fun a=>?_⟩
   ·rw [Kq] at hc; subst hc; exact fun e=>hf.1 (e ▸ ha)
   ·rcases Ko.1 ha with ha | ha
    ·exact hI.1.2 a ha
    ·rw [Kq] at ha; subst ha; exact hf.2
   ·rw [Q3d,hI.2]
    by_cases e:b=a
    ·subst e; simp
    ·simp [e,Ne.symm e]
  constructor
  ·unfold Q8
   rw [H0f,Ev hY,Gf7]
   refine H90 hY.most hY.len (fun m=>m=none) ?_
   refine Hec (fun m=>m=none) (fun pre s=>(pre.Nodup∧(∀ a∈pre,a∈ss.flatten))∧(∀ a,Hj.has s a=decide (a∈pre))) ⟨⟨by simp,by simp⟩,fun a=>by simp; rfl⟩ (fun pre b post s nx e hI h0=>?_) (fun s hI=>(fin s hI).elim)
   rw [J48,Gf7,Gf7]
   cases hc:(Hj.has s b||!(Gc9 b ss 0).2.2) with
   | true=>rfl
   | false=>exact h0 _ (step pre b post s e hI hc)
  ·unfold Ro
   rw [H0f,Ev hY,Gf7]
   refine H90 hY.most hY.len (fun m=>m=some false) ?_
   refine Hec (fun m=>m=some false) (fun pre s=>(pre.Nodup∧(∀ a∈pre,a∈ss.flatten))∧(∀ a,Hj.has s a=decide (a∈pre))) ⟨⟨by simp,by simp⟩,fun a=>by simp; rfl⟩ (fun pre b post s nx e hI h0=>?_) (fun s hI=>(fin s hI).elim)
   rw [J48,Gf7,Gf7]
   cases hc:(Hj.has s b||!(Gc9 b ss 0).2.2) with
   | true=>rfl
   | false=>exact h0 _ (step pre b post s e hI hc)
 ·unfold Q8 Ro
  rw [H0f,Ew hY]
  exact⟨rfl,rfl⟩

/-! ### In the way -/
def Gbb (order:List Int):Nat→List Int→List Int
 | _,[]=>[]
 | m,b::r=>if m < rnk order b then b::Gbb order m r else Gbb order (rnk order b) r
def mnF (order:List Int) (m:Nat) (s:List Int):Nat:=s.foldl (fun m b=>min m (rnk order b)) m
def G5d (order:List Int) (ss:List (List Int)):List Int:=ss.flatMap (Gbb order order.length)
theorem H67 (order:List Int) (m:Nat) (s:List Int) (b:Int):mnF order m (s++[b])=min (mnF order m s) (rnk order b):=by
 unfold mnF; rw [List.foldl_append]; rfl
theorem G38 (order:List Int) (b:Int):∀ (s:List Int) (m:Nat),Gbb order m (s++[b])=Gbb order m s++(if mnF order m s < rnk order b then [b] else [])
 | [],m=>by
  show (if m < rnk order b then [b] else [])=[]++(if m < rnk order b then [b] else [])
  rw [List.nil_append]
 | x::s,m=>by
  rw [List.cons_append,Gbb,Gbb,G38 order b s,G38 order b s]
  have e:mnF order m (x::s)=mnF order (min m (rnk order x)) s:=rfl
  rw [e]
  by_cases h:m < rnk order x
  ·rw [if_pos h,if_pos h,Nat.min_eq_left (by omega)]; rfl
  ·rw [if_neg h,if_neg h,Nat.min_eq_right (by omega)]
theorem H52 (order:List Int):∀ (s:List Int) (m:Nat),(Gbb order m s).Sublist s
 | [],m=>by simp [Gbb]
 | x::s,m=>by
  rw [Gbb]
  split
  ·exact(H52 order s m).cons_cons x
  ·exact(H52 order s _).cons x
theorem Gfd (order:List Int) (a b:List (List Int)):G5d order (a++b)=G5d order a++G5d order b:=by
 unfold G5d; rw [List.flatMap_append]
theorem Hbd (order:List Int) (s:List Int):G5d order [s]=Gbb order order.length s:=by simp [G5d]
theorem Hbc (order:List Int):∀ ss:List (List Int),(G5d order ss).Sublist ss.flatten
 | []=>by simp [G5d]
 | s::r=>by
  have:G5d order (s::r)=Gbb order order.length s++G5d order r:=rfl
  rw [this,List.flatten_cons]
  exact(H52 order s _).append (Hbc order r)
theorem J34 {order:List Int} {ss pre post:List (List Int)} {s pr po:List Int} {b:Int} (e:ss=pre++s::post) (e':s=pr++b::po) (h:ss.flatten.length≤180):(G5d order pre).length+(Gbb order order.length pr).length < 180:=by
 have h1:=(Hbc order pre).length_le
 have h2:=(H52 order pr order.length).length_le
 rw [e,e',List.flatten_append,List.flatten_cons,Ki,Ki,Ki,Ke] at h
 omega
theorem Q51 {ss:List (List Int)} {order:List Int} {j:Hk} (hj:Q5c ss order j) (b:Int):Yd j b=some (rnk order b:Int):=by
 unfold Yd
 rw [Gf7,hj.has b]
 by_cases h:b∈order
 ·rw [Ev h,cond_true,hj.get b h]
 ·rw [Ew h,cond_false,hj.order_]
  unfold rnk
  rw [List.idxOf_eq_length h]
theorem Q91 {ss:List (List Int)} {order:List Int} {j:Hk} (hj:Q5c ss order j) (hl:ss.flatten.length≤180):Yt j=some ((G5d order ss).length:Int):=by
 refine G48 ?_
 unfold Yt
 rw [hj.stacks,hj.order_]
 refine Yg (fun pre s=>s=((G5d order pre).length:Int)) rfl (fun pre x post s nx e hI h1=>?_) (fun s hI=>Jp hI)
 subst hI
 refine Yg (fun pr s=>s=((((G5d order pre).length+(Gbb order order.length pr).length:Nat):Int),(mnF order order.length pr:Int))) rfl (fun pr b po s nx' e' hJ h0=>?_) (fun s hJ=>h1 _ ?_)
 ·subst hJ
  have h2:=J34 (order:=order) e e' hl
  refine Je2 (fun r=>r=((((G5d order pre).length+(Gbb order order.length (pr++[b])).length:Nat):Int),(mnF order order.length (pr++[b]):Int))) (fun K hK=>?_) (fun a ha=>h0 _ ha)
  refine Ja (Q51 hj b) (Zb (fun h=>?_) (fun h=>hK _ ?_))
  ·have h:mnF order order.length pr < rnk order b:=by have:=Es h; omega
   refine G5c (by dsimp only; omega) (hK _ ?_)
   rw [G38,if_pos h,H67,Nat.min_eq_left (by omega),Ki]
   rfl
  ·have h:¬ mnF order order.length pr < rnk order b:=by have:=Eu h; omega
   rw [G38,if_neg h,H67,Nat.min_eq_right (by omega),List.append_nil]
 ·subst hJ
  rw [Gfd,Hbd,Ki]
theorem Q8c {ss:List (List Int)} {H:Int} {order:List Int} (hl:ss.flatten.length≤180):R3 ⟨ss,H⟩ order=some (G5a (G5d order ss)):=by
 refine G48 ?_
 unfold R3
 refine Yg (fun pre s=>s=G5d order pre) rfl (fun pre x post s nx e hI h1=>?_) (fun s hI=>?_)
 ·have e:ss=pre++x::post:=e
  subst hI
  refine Yg (fun pr s=>s=((mnF order order.length pr:Int),G5d order pre++Gbb order order.length pr)) (by simp [Gbb,mnF]) (fun pr b po s nx' e' hJ h0=>?_) (fun s hJ=>h1 _ ?_)
  ·subst hJ
   have h2:=J34 (order:=order) e e' hl
   refine Ja (Q96 order b) (Je2 (fun r=>r=G5d order pre++Gbb order order.length (pr++[b])) (fun K hK=>?_) (fun a ha=>h0 _ ?_))
   ·refine Zb (fun h=>?_) (fun h=>hK _ ?_)
    ·have h:mnF order order.length pr < rnk order b:=by have:=Es h; omega
     refine Yf (G86 (by simp only [Ki,Kj]; omega) (by decide)) (hK _ ?_)
     rw [G38,if_pos h,List.append_assoc]
    ·have h:¬ mnF order order.length pr < rnk order b:=by have:=Eu h; omega
     rw [G38,if_neg h,List.append_nil]
   ·rw [ha,H67]
    congr 1
    omega
  ·subst hJ
   rw [Gfd,Hbd]
 ·have hI:s=G5d order ss:=hI
  subst hI
  have:=(Hbc order ss).length_le
  refine Ja (x:=G5a (G5d order ss)) ?_ (Jp rfl)
  unfold Hd3
  rw [Ev (by omega)]; rfl
theorem Q52 (F:Nat) {ss:List (List Int)} {H:Int} {order:List Int} (hl:ss.flatten.length≤180):J1 F ⟨ss,H⟩ order=some (G5d order ss):=by
 refine G48 ?_
 unfold J1
 refine Yg (fun pre s=>s=G5d order pre) rfl (fun pre x post s nx e hI h4=>?_) (fun s hI=>Jp hI)
 have e:ss=pre++x::post:=e
 subst hI
 refine Yg (fun pr s=>s=G5d order pre++Gbb order order.length pr) (by simp [Gbb]) (fun pr b po s nx' e' hJ h3=>?_) (fun s hJ=>h4 _ ?_)
 ·subst hJ
  have h6:=J34 (order:=order) e e' hl
  refine Je2 (fun r=>r=G5d order pre++Gbb order order.length (pr++[b])) (fun K hK=>?_) (fun a ha=>h3 _ ha)
  have h7:pr.length≤180:=by
   have h1:ss.flatten.length=pre.flatten.length+((pr.length+(po.length+1))+post.flatten.length):=by
    rw [e,e',List.flatten_append,List.flatten_cons,Ki,Ki,Ki,Ke]
   omega
  refine Yf (Ev (by omega)) ?_
  have ht:((pr.length:Int)).toNat=pr.length:=by omega
  rw [ht]
  refine J31 (fun i s=>s=decide (mnF order order.length (pr.take i) < rnk order b)) ?_ (fun i s nx2 hi h0 h2=>?_) (fun s h0=>?_)
  ·have:=Qcd order b
   exact(Ew (by simp only [List.take_zero,mnF,List.foldl_nil]; omega)).symm
  ·have hx:x[i]? = some pr[i]:=by rw [e',Kd hi,Ey hi]
   have h5:mnF order order.length (pr.take (i+1))=min (mnF order order.length (pr.take i)) (rnk order pr[i]):=by
    rw [List.take_add_one,Ey hi]
    exact H67 _ _ _ _
   cases s with
   | true=>
    have h1:=Es h0.symm
    exact Ja (x:=default) rfl (Ja (x:=default) rfl (Ja (x:=default) rfl (h2 _ ((Ev (by omega)).symm))))
   | false=>
    have h1:=Eu h0.symm
    refine Ja (x:=pr[i]) (J3c hx _) (Ja (Hf9 order pr[i]) (Ja (Hf9 order b) (h2 _ ?_)))
    rw [h5,Bool.false_or]
    exact decide_eq_decide.2 (by omega)
  ·rw [List.take_length] at h0
   subst h0
   refine Zb (fun h=>?_) (fun h=>hK _ ?_)
   ·have h:=Es h
    refine Yf (G86 (by simp only [Ki,Kj]; omega) (by decide)) (hK _ ?_)
    rw [G38,if_pos h,List.append_assoc]
   ·have h:=Eu h
    rw [G38,if_neg h,List.append_nil]
 ·subst hJ
  rw [Gfd,Hbd]
theorem Q6a (ss:List (List Int)) (H:Int) (order:List Int):Qm ⟨ss,H⟩ order=some (if G82 ss H order then (((G5d order ss).length:Int),0) else (0,2)):=by
 unfold Qm
 by_cases h:G82 ss H order
 ·obtain⟨r,e,h1,h2⟩:=Jcf h
  rw [e,if_pos h,Option.isSome_some,cond_true,Gf7,h1,Q91 h2 h.y.all]
  rfl
 ·obtain⟨e1,e2⟩:=Jd0 h
  rw [e1,if_neg h,Option.isSome_none,cond_false,e2]
  rfl

theorem H09 {v:List Int}:∀ {ss:List (List Int)} {i:Nat} {s:List Int},ss[i]? = some s→((ss.set i v).flatten++s).Perm (ss.flatten++v)
 | x::ss,0,s,h=>by
  simp at h; subst h
  rw [List.set_cons_zero,List.flatten_cons,List.flatten_cons]
  have h1:(v++ss.flatten++x).Perm (x++(v++ss.flatten)):=List.perm_append_comm
  have h2:(x++(v++ss.flatten)).Perm (x++(ss.flatten++v)):=List.perm_append_comm.append_left x
  rw [List.append_assoc] at h1
  rw [List.append_assoc,List.append_assoc]
  exact h1.trans h2
 | x::ss,i+1,s,h=>by
  rw [List.set_cons_succ,List.flatten_cons,List.flatten_cons,List.append_assoc,List.append_assoc]
  exact(H09 (ss:=ss) (by simpa using h)).append_left x
 | [],i,s,h=>by simp at h

structure Can (ss:List (List Int)) (h:Nat) (m:G5) (f t:Nat) (a b:List Int) (x:Int):Prop where
 from_:m.From=(f:Int)
 to_:m.To=(t:Int)
 ne:f≠t
 hf:ss[f]? = some (a++[x])
 ht:ss[t]? = some b
 room:b.length≠h
theorem J5c (ss:List (List Int)) (h:Nat) (m:G5):(J3 ss h m).2≠0∨∃ f t a b x,Can ss h m f t a b x:=by
 unfold J3
 by_cases h1:(m.From < 0∨(ss.length:Int)≤m.From)∨m.To < 0∨(ss.length:Int)≤m.To
 ·rw [if_pos h1]; exact .inl (show (6:Int)≠0 by decide)
 rw [if_neg h1]
 by_cases h2:m.From=m.To
 ·rw [if_pos h2]; exact .inl (show (340:Int)≠0 by decide)
 rw [if_neg h2]
 by_cases h3:(ss.getD m.From.toNat []).length=0
 ·rw [if_pos h3]; exact .inl (show (341:Int)≠0 by decide)
 rw [if_neg h3]
 by_cases h4:(ss.getD m.To.toNat []).length=h
 ·rw [if_pos h4]; exact .inl (show (4:Int)≠0 by decide)
 obtain⟨f,hf⟩:∃ f:Nat,m.From=f:=⟨m.From.toNat,by omega⟩
 obtain⟨t,ht⟩:∃ t:Nat,m.To=t:=⟨m.To.toNat,by omega⟩
 rw [hf,ht] at h1 h2
 rw [hf,show ((f:Int)).toNat=f by omega] at h3
 rw [ht,show ((t:Int)).toNat=t by omega] at h4
 have h0:f < ss.length:=by omega
 have h5:t < ss.length:=by omega
 rw [List.getD_eq_getElem?_getD,Ey h0,Option.getD_some] at h3
 rw [List.getD_eq_getElem?_getD,Ey h5,Option.getD_some] at h4
 have h6:ss[f]≠[]:=fun e=>h3 (by rw [e]; rfl)
 exact .inr ⟨f,t,ss[f].dropLast,ss[t],ss[f].getLast h6,hf,ht,fun e=>h2 (by rw [e]),by rw [List.dropLast_concat_getLast,Ey h0],Ey h5,h4⟩
theorem Can.eq {ss:List (List Int)} {h:Nat} {m:G5} {f t:Nat} {a b:List Int} {x:Int} (c:Can ss h m f t a b x):J3 ss h m=((ss.set t (b++[x])).set f a,0):=by
 have h0:=(Ex c.hf).1
 have h1:=(Ex c.ht).1
 have e1:ss.getD f []=a++[x]:=by rw [List.getD_eq_getElem?_getD,c.hf]; rfl
 have e2:ss.getD t []=b:=by rw [List.getD_eq_getElem?_getD,c.ht]; rfl
 unfold J3
 rw [c.from_,c.to_,show ((f:Int)).toNat=f by omega,show ((t:Int)).toNat=t by omega,e1,e2,if_neg (by omega),if_neg (by have:=c.ne; omega),if_neg (by simp),if_neg c.room]
 simp
theorem Can.perm {ss:List (List Int)} {h:Nat} {m:G5} {f t:Nat} {a b:List Int} {x:Int} (c:Can ss h m f t a b x):((ss.set t (b++[x])).set f a).flatten.Perm ss.flatten:=by
 have e:(ss.set t (b++[x]))[f]? = some (a++[x]):=by rw [List.getElem?_set_ne (Ne.symm c.ne)]; exact c.hf
 have h1:=H09 (v:=a) e
 have h2:=H09 (v:=b++[x]) c.ht
 rw [List.perm_iff_count] at *
 intro z
 have h1:=h1 z
 have h2:=h2 z
 simp only [List.count_append] at h1 h2
 omega
theorem Qi.shift {ss:List (List Int)} {H:Int} (hr:Qi ss H) {m:G5} {f t:Nat} {a b:List Int} {x:Int} (c:Can ss H.toNat m f t a b x):Qi ((ss.set t (b++[x])).set f a) H:=by
 have hp:=c.perm
 refine⟨hr.low,hr.high,by simpa using hr.some_,by simpa using hr.most,fun s hs=>?_,hp.nodup_iff.2 hr.nodup,fun z hz=>hr.ids z (hp.mem_iff.1 hz)⟩
 have hA:=hr.fit _ (K0 c.hf)
 have hB:=hr.fit _ (K0 c.ht)
 have:=c.room
 have:=hr.low
 simp only [Ki,Kj] at hA
 rcases List.mem_or_eq_of_mem_set hs with hs | rfl
 ·rcases List.mem_or_eq_of_mem_set hs with hs | rfl
  ·exact hr.fit s hs
  ·simp only [Ki,Kj]; omega
 ·omega

/-! ### The reference -/
def Gfc (ss:List (List Int)) (k:Int) (v:List Int):List (List Int):=ss.mapIdx fun i s=>if (i:Int)=k then v else s
theorem J15 {ss:List (List Int)} {t:Nat} {v:List Int}:Gfc ss (t:Int) v=ss.set t v:=by
 refine List.ext_getElem? fun i=>?_
 unfold Gfc
 rw [List.getElem?_mapIdx,List.getElem?_set]
 by_cases e:t=i
 ·subst e
  rw [if_pos rfl]
  by_cases h:t < ss.length
  ·rw [if_pos h,Ey h]; simp
  ·rw [if_neg h,List.getElem?_eq_none (by omega)]; rfl
 ·rw [if_neg e]
  cases ss[i]? with
  | none=>rfl
  | some s=>simp only [Option.map_some]; rw [if_neg (by omega)]
theorem Q0c {ss:List (List Int)} {v:List Int}:Gfc ss (-1) v=ss:=by
 refine List.ext_getElem? fun i=>?_
 unfold Gfc
 rw [List.getElem?_mapIdx]
 cases ss[i]? with
 | none=>rfl
 | some s=>simp only [Option.map_some]; rw [if_neg (by omega)]
theorem J33 {ss:List (List Int)} {H k:Int} {v:List Int} (hn:ss.length≤30) (hl:∀ s∈ss,s.length≤7) (hv:v.length≤7):Q9 ⟨ss,H⟩ k v=some ⟨Gfc ss k v,H⟩:=by
 refine G48 ?_
 unfold Q9
 refine Yg (fun pre s=>s=(Gfc pre k v,H)) rfl (fun pre x post s nx e hI h0=>?_) (fun s hI=>Jp (by rw [hI]))
 have e:ss=pre++x::post:=e
 subst hI
 have hp:pre.length < 30:=by
  have:=congrArg List.length e
  simp only [Ki,Ke] at this; omega
 have hx:=hl x (by rw [e]; simp)
 have hw:(Gfc pre k v).length=pre.length:=by simp [Gfc]
 have hs:Gfc (pre++[x]) k v=Gfc pre k v++[if (pre.length:Int)=k then v else x]:=List.mapIdx_concat
 refine Je2 (fun r=>r=Gfc (pre++[x]) k v) (fun K hK=>?_) (fun a ha=>h0 _ (by rw [ha]))
 rw [hs] at hK
 refine Zb (fun h=>?_) (fun h=>?_)
 ·have h:=Es h
  refine Yf (G86 (by rw [List.length_nil]; omega) (by decide)) (Yf (G86 (by rw [Kj]; simp only [hw]; omega) (by decide)) (hK _ ?_))
  rw [if_pos h]; rfl
 ·have h:=Eu h
  refine Yf (G86 (by rw [List.length_nil]; omega) (by decide)) (Yf (G86 (by rw [Kj]; simp only [hw]; omega) (by decide)) (hK _ ?_))
  rw [if_neg h]; rfl
def mv (m:G9):G5:=⟨m.From,m.To⟩
def G7d (ss:List (List Int)) (H:Int) (m:G5):List (List Int)×Int×Int:=if (J3 ss H.toNat m).2=0 then ((J3 ss H.toNat m).1,H,0) else ([],0,(J3 ss H.toNat m).2)
theorem Gdd {ss ss':List (List Int)} {H e:Int} {m:G5} (h:J3 ss H.toNat m=(ss',e)) (he:e≠0):((⟨[],0⟩:Gq),e)=(⟨(G7d ss H m).1,(G7d ss H m).2.1⟩,(G7d ss H m).2.2):=by
 unfold G7d
 rw [h,if_neg he]
theorem J5d {ss ss':List (List Int)} {H:Int} {m:G5} (h:J3 ss H.toNat m=(ss',0)):((⟨ss',H⟩:Gq),(0:Int))=(⟨(G7d ss H m).1,(G7d ss H m).2.1⟩,(G7d ss H m).2.2):=by
 unfold G7d
 rw [h,if_pos rfl]
theorem Q2b (F:Nat) {ss:List (List Int)} {H:Int} (hr:Qi ss H) (m:G9):Jx F ⟨ss,H⟩ m=some (⟨(G7d ss H (mv m)).1,(G7d ss H (mv m)).2.1⟩,(G7d ss H (mv m)).2.2):=by
 refine G48 ?_
 unfold Jx
 refine Ja (H93 F ss H) ?_
 rw [Ev hr]
 refine Zb (fun h=>by cases h) (fun _=>?_)
 have h8:=hr.low
 have hS:J3 ss H.toNat (mv m)=if (m.From < 0∨(ss.length:Int)≤m.From)∨m.To < 0∨(ss.length:Int)≤m.To then (ss,6)
  else if m.From=m.To then (ss,340)
  else if (ss.getD m.From.toNat []).length=0 then (ss,341)
  else if (ss.getD m.To.toNat []).length=H.toNat then (ss,4)
  else ((ss.set m.To.toNat (ss.getD m.To.toNat []++[(ss.getD m.From.toNat []).getLastD 0])).set m.From.toNat ((ss.getD m.From.toNat []).take ((ss.getD m.From.toNat []).length - 1)),0):=rfl
 refine Zb (fun h=>Jp ?_) (fun h=>?_)
 ·simp only [Kt,Km] at h
  rw [if_pos (by omega)] at hS
  exact Gdd hS (by decide)
 simp only [Ku,decide_eq_false_iff_not] at h
 rw [if_neg (by omega)] at hS
 refine Zb (fun h2=>Jp ?_) (fun h2=>?_)
 ·rw [if_pos (Es h2)] at hS
  exact Gdd hS (by decide)
 have h2:=Eu h2
 rw [if_neg h2] at hS
 obtain⟨f,hf⟩:∃ f:Nat,m.From=f:=⟨m.From.toNat,by omega⟩
 obtain⟨t,ht⟩:∃ t:Nat,m.To=t:=⟨m.To.toNat,by omega⟩
 have h0:f < ss.length:=by omega
 have h1:t < ss.length:=by omega
 have gf:ss.getD m.From.toNat []=ss[f]:=by rw [hf,show ((f:Int)).toNat=f by omega,List.getD_eq_getElem?_getD,Ey h0]; rfl
 have gt:ss.getD m.To.toNat []=ss[t]:=by rw [ht,show ((t:Int)).toNat=t by omega,List.getD_eq_getElem?_getD,Ey h1]; rfl
 have lf:=hr.fit _ (List.getElem_mem h0)
 have lt:=hr.fit _ (List.getElem_mem h1)
 have hH:=hr.high
 rw [gf,gt] at hS
 refine Hb2 hf (Ey h0) (Hb2 ht (Ey h1) (Zb (fun h3=>Jp ?_) (fun h3=>?_)))
 ·have h3:=Es h3
  rw [if_pos (by omega)] at hS
  exact Gdd hS (by decide)
 have h3:=Eu h3
 rw [if_neg (by omega)] at hS
 refine Zb (fun h4=>Jp ?_) (fun h4=>?_)
 ·have h4:H≤(ss[t].length:Int):=Es h4
  rw [if_pos (by omega)] at hS
  exact Gdd hS (by decide)
 have h4:¬ H≤(ss[t].length:Int):=Eu h4
 rw [if_neg (by omega)] at hS
 have h5:ss[f]≠[]:=fun e=>h3 (by rw [e]; rfl)
 have h6:ss[f][ss[f].length - 1]? = some (ss[f].getLast h5):=by rw [List.getLast_eq_getElem,Ey]
 have h7:∀ s∈ss,s.length≤7:=fun s hs=>by have:=hr.len s hs; omega
 refine Yf (G86 (by rw [List.length_nil]; omega) (by decide)) (G5c (by omega) (Hb2 (m:=ss[f].length - 1) (by omega) h6 (Yf (G86 (by simp only [List.nil_append,Kj]; omega) (by decide)) ?_)))
 refine Ja (J33 hr.most h7 (by simp only [List.nil_append,Ki,Kj]; omega)) (G5c (by omega) (J32 (Hbb (m:=ss[f].length - 1) (by omega) (by omega) ?_)))
 rw [ht,J15,hf]
 refine Ja (J33 (by simpa using hr.most) (fun s hs=>?_) (by rw [List.length_take]; omega)) (Jp ?_)
 ·rcases List.mem_or_eq_of_mem_set hs with hs | rfl
  ·exact h7 s hs
  ·simp only [List.nil_append,Ki,Kj]; omega
 ·rw [ht,hf,show ((f:Int)).toNat=f by omega,show ((t:Int)).toNat=t by omega,show ss[f].getLastD 0=ss[f].getLast h5 from List.getLastD_eq_getLast?.trans (by rw [List.getLast?_eq_some_getLast h5]; rfl)] at hS
  rw [J15,List.nil_append]
  exact J5d hS
theorem H5c {ss:List (List Int)} {H:Int} (hr:Qi ss H) {m:G5} (h:(J3 ss H.toNat m).2=0):Qi (J3 ss H.toNat m).1 H:=by
 rcases J5c ss H.toNat m with h' | ⟨f,t,a,b,x,c⟩
 ·exact(h' h).elim
 ·rw [c.eq]; exact hr.shift c
theorem Ha0 {H:Int}:∀ (l:List G5) {ss:List (List Int)} (i:Nat),Qi ss H→(Z3 H.toNat ss i l).2.2=0→Qi (Z3 H.toNat ss i l).1 H
 | [],ss,i,hr,_=>hr
 | m::l,ss,i,hr,h=>by
  unfold Z3 at h ⊢
  by_cases h1:(J3 ss H.toNat m).2=0
  ·rw [if_pos h1] at h ⊢
   exact Ha0 l (i+1) (H5c hr h1) h
  ·rw [if_neg h1] at h; exact(h1 h).elim
theorem Qdb {ss:List (List Int)} {H:Int} (hr:Qi ss H):YOk ⟨ss,H⟩=true:=by
 unfold YOk
 rw [Kk,List.all_eq_true]
 exact⟨Ev ⟨hr.low,hr.high,hr.most⟩,fun s hs=>Ev (hr.fit s hs)⟩
def Zt (ss:List (List Int)) (H:Int) (l:List G5):List (List Int)×Int×Int×Int:=
 if ¬ Qi ss H then ([],0,0,2) else if 10000 < l.length then ([],0,0,5) else if (Z3 H.toNat ss 0 l).2.2=0 then ((Z3 H.toNat ss 0 l).1,H,(Z3 H.toNat ss 0 l).2) else ([],0,(Z3 H.toNat ss 0 l).2)
theorem Hdc {ss:List (List Int)} {H:Int} {l:List G5} (h:¬ Qi ss H):Zt ss H l=([],0,0,2):=if_pos h
theorem H40 {ss:List (List Int)} {H:Int} {l:List G5} (h:Qi ss H) (hl:10000 < l.length):Zt ss H l=([],0,0,5):=by
 unfold Zt
 rw [if_neg (fun g=>g h),if_pos hl]
theorem H86 {ss:List (List Int)} {H:Int} {l:List G5} (h:Qi ss H) (hl:¬ 10000 < l.length):Zt ss H l=if (Z3 H.toNat ss 0 l).2.2=0 then ((Z3 H.toNat ss 0 l).1,H,(Z3 H.toNat ss 0 l).2) else ([],0,(Z3 H.toNat ss 0 l).2):=by
 unfold Zt
 rw [if_neg (fun g=>g h),if_neg hl]
theorem Q97 (ss:List (List Int)) (H:Int) (l:List G5):G79 ⟨ss,H⟩ l=some (⟨(Zt ss H l).1,(Zt ss H l).2.1⟩,(Zt ss H l).2.2):=by
 unfold G79
 rw [H0f,Gf7]
 by_cases hr:Qi ss H
 ·rw [Ev hr,Bool.not_true,cond_false]
  by_cases hl:10000 < l.length
  ·rw [H40 hr hl,Ev (by omega)]; rfl
  ·rw [H86 hr hl,Ew (by omega),cond_false,Qdb hr]
   split <;> rfl
 ·rw [Hdc hr,Ew hr]; rfl
theorem J60 (F:Nat) {H:Int}:∀ (l:List G9) {ss:List (List Int)} (i:Nat),Qi ss H →
  each (fun(y59:G9) i59 (s59:(List (List Int))×Int) nx59=>bnd (Jx F (Gq.mk s59.1 s59.2) y59) fun r64=>bif decide (r64.2≠0) then (some ((Gq.mk [] 0),(i59:Int),r64.2)) else (nx59 (r64.1.Stacks,r64.1.Height)))
   (fun(s59:(List (List Int))×Int)=>some ((Gq.mk s59.1 s59.2),0,0)) l i (ss,H) =
  some (if (Z3 H.toNat ss i (l.map mv)).2.2=0 then (⟨(Z3 H.toNat ss i (l.map mv)).1,H⟩,(Z3 H.toNat ss i (l.map mv)).2) else (⟨[],0⟩,(Z3 H.toNat ss i (l.map mv)).2))
 | [],ss,i,hr=>rfl
 | m::l,ss,i,hr=>by
  rw [each,Q2b F hr,Gf7,List.map_cons,Z3]
  unfold G7d
  by_cases h:(J3 ss H.toNat (mv m)).2=0
  ·rw [if_pos h,if_pos h]
   exact J60 F l (i+1) (H5c hr h)
  ·rw [if_neg h,if_neg h]
   simp only [Ev h,cond_true]
   rw [if_neg h]
theorem Q58 (F:Nat) (ss:List (List Int)) (H:Int) (l:List G9):Rk F ⟨ss,H⟩ l=some (⟨(Zt ss H (l.map mv)).1,(Zt ss H (l.map mv)).2.1⟩,(Zt ss H (l.map mv)).2.2):=by
 unfold Rk
 rw [H93,Gf7]
 by_cases hr:Qi ss H
 ·rw [Ev hr,Bool.not_true,cond_false]
  by_cases hl:10000 < l.length
  ·rw [H40 hr (by rw [Kn]; exact hl),Ev (by omega)]; rfl
  ·rw [H86 hr (by rw [Kn]; exact hl),Ew (by omega),cond_false,J33 hr.most (fun s hs=>by have:=hr.len s hs; omega) (by decide),Gf7,Q0c,J60 F l 0 hr]
   split <;> rfl
 ·rw [Hdc hr,Ew hr]; rfl
theorem Jfd:Yk 60=some true:=by kernel_rfl
end Go.Proofs.Ytokjlondbjdlfaa
