/-
 The rule: The law of Sorted,Way and Arrange;
-/
import Derived.Test.YtokjlondbjdlfaaMarL
import Derived.Test.YtokjlondbjdlfaaXG
set_option maxRecDepth 100000
set_option linter.unusedVariables false
namespace Go.Proofs.Ytokjlondbjdlfaa
open Go.RowKit Go.Sort Go.Shelf

/-! ### The order in which boxes are looked at -/
def Hcd (x y:Int):Int:=if x < y then -1 else if y < x then 1 else 0
def Gcd (order:List Int) (a b:Int):Int:=if Hcd (rnk order b) (rnk order a)≠0 then Hcd (rnk order b) (rnk order a) else Hcd a b
theorem J26 (x y:Int):Ys x y=some (Hcd x y):=by
 unfold Ys G16 Hcd
 have h1:decide (x≠x)=false:=by simp
 have h2:decide (y≠y)=false:=by simp
 rw [h1,h2,G08,G08,cond_false,cond_false]
 by_cases h:x < y
 ·rw [if_pos h,Eu h]; rfl
 ·rw [if_neg h,Ev h,cond_false]
  by_cases g:y < x
  ·rw [if_pos g,Eu g]; rfl
  ·rw [if_neg g,Ev g]; rfl
theorem Jc5 (order:List Int) (a b:Int):Qi a b order=some (Gcd order a b):=by
 unfold Qi Gcd G9a
 rw [H90,G08,H90,G08,J26,G08,J26,G08]
 generalize Hcd (rnk order b) (rnk order a)=p
 generalize Hcd a b=q
 simp only [each]
 by_cases h:p≠0
 ·rw [if_pos h,Eu h]; rfl
 ·rw [if_neg h,Ev h,cond_false]
  by_cases g:q≠0
  ·rw [Eu g]; rfl
  ·have g:q=0:=Classical.byContradiction g
   subst g; rfl
theorem Q0a (order:List Int) (a b:Int):ltOf (Gcd order) a b=true ↔ rnk order b < rnk order a∨(rnk order b=rnk order a∧a < b):=by
 unfold ltOf Gcd Hcd
 rw [Kk]
 by_cases h1:(rnk order b:Int) < rnk order a
 ·rw [if_pos h1,if_pos (by omega)]; omega
 ·rw [if_neg h1]
  by_cases h2:(rnk order a:Int) < rnk order b
  ·rw [if_pos h2,if_pos (by omega)]; omega
  ·rw [if_neg h2,if_neg (by omega)]
   by_cases h3:a < b
   ·rw [if_pos h3]; omega
   ·rw [if_neg h3]
    by_cases h4:b < a
    ·rw [if_pos h4]; omega
    ·rw [if_neg h4]; omega
theorem Q3c (order:List Int) (a b:Int):ltOf (Gcd order) a b=false ↔ ¬ (rnk order b < rnk order a∨(rnk order b=rnk order a∧a < b)):=by
 rw [← Q0a]; simp
theorem J70 (order:List Int):SWO (ltOf (Gcd order)):=by
 refine⟨fun x=>?_,fun x y z h1 h2=>?_,fun x y z h1 h2=>?_⟩
 ·rw [Q3c]; omega
 ·rw [Q0a] at *; omega
 ·rw [Q3c] at *; omega
theorem J07 (order:List Int):Parts (Gcd order):=fun x y h1 h2=>by
 rw [Q3c] at *; omega
theorem Qab (order:List Int) (a b:Int):Rt order a b=some (ltOf (Gcd order) a b):=by
 unfold Rt
 rw [G87,G08,G87,G08]
 congr 1
 cases h:ltOf (Gcd order) a b with
 | true=>rw [Q0a] at h; simp only [Ks,Kj,Kk]; omega
 | false=>rw [Q3c] at h; simp only [Kt,Bool.and_eq_false_iff,decide_eq_false_iff_not]; omega

/-! ### The first of those that are wanted -/
def Hb6 (lt:Int→Int→Bool) (p:Int→Bool) (l:List Int):Option Int→Prop
 | none=>∀ y∈l,p y=false
 | some x=>x∈l∧p x=true∧∀ y∈l,p y=true→y=x∨lt x y=true
theorem Hb6.uniq {lt:Int→Int→Bool} (hO:SWO lt) {p:Int→Bool} {l:List Int}:∀ {o o':Option Int},Hb6 lt p l o→Hb6 lt p l o'→o=o'
 | none,none,_,_=>rfl
 | none,some x,h,h'=>by have:=h x h'.1; rw [h'.2.1] at this; cases this
 | some x,none,h,h'=>by have:=h' x h.1; rw [h.2.1] at this; cases this
 | some x,some y,h,h'=>by
  rcases h.2.2 y h'.1 h'.2.1 with e | e
  ·rw [e]
  ·rcases h'.2.2 x h.1 h.2.1 with g | g
   ·rw [g]
   ·have:=hO.trans x y x e g
    rw [hO.irrefl] at this; cases this
theorem Hb6.perm {lt:Int→Int→Bool} {p:Int→Bool} {l l':List Int} (hp:l.Perm l'):∀ {o:Option Int},Hb6 lt p l o→Hb6 lt p l' o
 | none,h=>fun y hy=>h y (hp.mem_iff.2 hy)
 | some x,h=>⟨hp.mem_iff.1 h.1,h.2.1,fun y hy=>h.2.2 y (hp.mem_iff.2 hy)⟩
theorem J50 {lt:Int→Int→Bool} (hP:∀ x y,lt x y=false→lt y x=false→x=y) (p:Int→Bool):∀ {l:List Int},l.Pairwise (fun x y=>lt y x=false)→Hb6 lt p l (l.find? p)
 | [],_=>fun y hy=>by simp at hy
 | x::l,h=>by
  rw [List.pairwise_cons] at h
  have ih:=J50 hP p h.2
  rw [List.find?_cons]
  cases hx:p x with
  | true=>
   refine⟨List.mem_cons_self ..,hx,fun y hy h0=>?_⟩
   rcases Kq.1 hy with e | hy
   ·exact .inl e
   ·cases hl:lt x y with
    | true=>exact .inr rfl
    | false=>exact .inl (hP y x (h.1 y hy) hl)
  | false=>
   dsimp only
   cases hf:l.find? p with
   | none=>
    rw [hf] at ih
    intro y hy
    rcases Kq.1 hy with e | hy
    ·rw [e]; exact hx
    ·exact ih y hy
   | some z=>
    rw [hf] at ih
    refine⟨List.mem_cons_of_mem _ ih.1,ih.2.1,fun y hy h0=>?_⟩
    rcases Kq.1 hy with e | hy
    ·rw [e,hx] at h0; cases h0
    ·exact ih.2.2 y hy h0

/-! ### A box, where it stands and where it goes -/
def frB (ss:List (List Int)) (b:Int):Nat:=(G31 b ss 0).1.toNat
def plV (ss:List (List Int)) (H:Int) (order:List Int) (b:Int):Int:=(Qv ⟨ss,H⟩ order (frB ss b:Int) (rnk order b:Int)).getD 0
def Gc3 (ss:List (List Int)) (H:Int) (order:List Int) (b:Int):Bool:=decide ((G31 b ss 0).2.1=((ss.getD (frB ss b) []).length:Int) - 1)&&decide (0≤plV ss H order b)
def mvB (ss:List (List Int)) (H:Int) (order:List Int) (b:Int):G8:=⟨(frB ss b:Int),plV ss H order b⟩
section
variable {F:Nat} {ss:List (List Int)} {H:Int} {order:List Int}
theorem Q04 (hF:400 < F) (hr:Q1 ss H) (ho:order.length≤1000000) (b:Int):Qv ⟨ss,H⟩ order (frB ss b:Int) (rnk order b:Int)=some (plV ss H order b)∧Q2 F ⟨ss,H⟩ order (frB ss b:Int) b=some (plV ss H order b)∧H97 ss H order (frB ss b) (rnk order b) (fun _=>True) (plV ss H order b):=by
 obtain⟨v,h1,h2,h3⟩:=places hF hr ho (frB ss b) b
 have:plV ss H order b=v:=by unfold plV; rw [h1]; rfl
 rw [this]
 exact⟨h1,h2,h3⟩
theorem Q87 (hr:Q1 ss H) {b:Int} (hb:b∈ss.flatten):∃ (k:Nat) (s:List Int),G31 b ss 0=((frB ss b:Int),(k:Int),true)∧ss[frB ss b]? = some s∧s[k]? = some b:=by
 obtain⟨i,k,hc⟩:=J03 hb
 unfold cellAt at hc
 obtain⟨s,hs,hk⟩:=Option.bind_eq_some_iff.1 hc
 have hf:=Gfc (o:=0) hr.nodup hs hk
 have e:frB ss b=i:=by unfold frB; rw [hf]; dsimp only; omega
 refine⟨k,s,?_,by rw [e]; exact hs,hk⟩
 rw [hf,e,Nat.zero_add]
theorem J17 {b:Int} {k:Nat} {s:List Int} (hf:G31 b ss 0=((frB ss b:Int),(k:Int),true)) (hs:ss[frB ss b]? = some s):Gc3 ss H order b=(decide ((k:Int)=(s.length:Int) - 1)&&decide (0≤plV ss H order b)):=by
 unfold Gc3
 rw [List.getD_eq_getElem?_getD,hs,hf]; rfl
theorem Q9a (order:List Int):∀ (s:List Int) (m:Nat),mnF order m s≤m
 | [],m=>Ka
 | x::s,m=>by
  have:=Q9a order s (min m (rnk order x))
  show mnF order (min m (rnk order x)) s≤m
  omega
theorem Q3a (order:List Int):∀ (s:List Int) (m m':Nat),m≤m'→mnF order m s=min m (mnF order m' s)
 | [],m,m',h=>by show m=min m m'; omega
 | x::s,m,m',h=>by
  have e:=Q3a order s (min m (rnk order x)) (min m' (rnk order x)) (by omega)
  have h1:=Q9a order s (min m' (rnk order x))
  show mnF order (min m (rnk order x)) s=min m (mnF order (min m' (rnk order x)) s)
  omega
theorem J62 {v s:List Int}:∀ {ss:List (List Int)} {i:Nat},ss[i]? = some s→(Rn order (ss.set i v)).length+(G2b order order.length s).length=(Rn order ss).length+(G2b order order.length v).length
 | x::ss,0,h=>by
  simp at h; subst h
  rw [List.set_cons_zero]
  show (G2b order order.length v++Rn order ss).length+_=(G2b order order.length x++Rn order ss).length+_
  rw [Kh,Kh]; omega
 | x::ss,i+1,h=>by
  have ih:=J62 (v:=v) (ss:=ss) (i:=i) (by simpa using h)
  rw [List.set_cons_succ]
  show (G2b order order.length x++Rn order (ss.set i v)).length+_=(G2b order order.length x++Rn order ss).length+_
  rw [Kh,Kh]; omega
 | [],i,h=>by simp at h
theorem Jb3 (hF:400 < F) (hr:Q1 ss H) (ho:order.length≤1000000) {b:Int} (hw:b∈Rn order ss) (hc:Gc3 ss H order b=true):(Hs ss H.toNat (mv (mvB ss H order b))).2=0∧(Rn order (Hs ss H.toNat (mv (mvB ss H order b))).1).length+1=(Rn order ss).length:=by
 -- the stack in which it is in the way
 unfold Rn at hw
 obtain⟨s,hs,h2⟩:=List.mem_flatMap.1 hw
 have h5:b∈s:=(Gd6 order s _).subset h2
 obtain⟨i,hi⟩:=List.mem_iff_getElem?.1 hs
 obtain⟨k,hk⟩:=List.mem_iff_getElem?.1 h5
 have hf:=Gfc (o:=0) hr.nodup hi hk
 have ei:frB ss b=i:=by unfold frB; rw [hf]; dsimp only; omega
 rw [Nat.zero_add] at hf
 have h9:ss[frB ss b]? = some s:=by rw [ei]; exact hi
 rw [J17 (k:=k) (by rw [hf,ei]) h9,Kj,Kk,Kk] at hc
 obtain⟨a5,a6⟩:=hc
 obtain⟨_,_,hB⟩:=Q04 hF hr ho b
 rcases hB with ⟨h1,_⟩ | ⟨t,T,ht,_,hT,⟨a0,a2,a3⟩,_⟩
 ·omega
 -- it is the last one
 have a7:=(Ew hk).1
 have h3:s≠[]:=List.ne_nil_of_mem h5
 have h4:s.getLast h3=b:=by
  have:s[s.length - 1]? = some b:=by rw [show s.length - 1=k by omega]; exact hk
  rw [← List.getLast?_eq_getElem?] at this
  rw [List.getLast?_eq_some_getLast h3] at this
  exact Ey this
 have h0:s=s.dropLast++[b]:=by rw [← h4,List.dropLast_concat_getLast]
 generalize ha:s.dropLast=a at h0
 have a4:=hr.low
 have c:Can ss H.toNat (mv (mvB ss H order b)) i t a T b:=⟨by show ((frB ss b:Nat):Int)=i; rw [ei],ht,by rw [← ei]; exact Ne.symm a0,by rw [← h0]; exact hi,hT,by omega⟩
 rw [c.eq]
 refine⟨rfl,?_⟩
 have h6:s.Nodup:=by
  have:=hr.nodup
  obtain⟨p,q,e⟩:=List.append_of_mem hs
  rw [e,List.flatten_append,List.flatten_cons] at this
  exact(List.nodup_append.1 (List.nodup_append.1 this).2.1).1
 have a1:b ∉ a:=fun h=>by
  rw [h0] at h6
  exact(List.nodup_append.1 h6).2.2 b h b (by simp) rfl
 have w1:G2b order order.length s=G2b order order.length a++[b]:=by
  rw [h0,Zx]
  rw [h0,Zx] at h2
  by_cases h7:mnF order order.length a < rnk order b
  ·rw [if_pos h7]
  ·rw [if_neg h7,List.append_nil] at h2
   exact absurd ((Gd6 order a _).subset h2) a1
 have w2:G2b order order.length (T++[b])=G2b order order.length T:=by
  rw [Zx,if_neg,List.append_nil]
  have e1:=Q3a order T order.length (order.length+1) (by omega)
  have e2:mnF order (order.length+1) T=mnL order T:=rfl
  have:=Jfe order b
  omega
 have h8:(ss.set t (T++[b]))[i]? = some s:=by rw [List.getElem?_set_ne (Ne.symm c.ne)]; exact hi
 have l1:=J62 (order:=order) (v:=a) h8
 have l2:=J62 (order:=order) (v:=T++[b]) hT
 rw [w2] at l2
 rw [w1,Kh,Ki] at l1
 show (Rn order ((ss.set t (T++[b])).set i a)).length+1=_
 omega
end

/-! ### The next move -/
def Hd0 (ss:List (List Int)) (H:Int) (order:List Int):Option Int:=(G57 (Gcd order) (Zy (Rn order ss))).find? (Gc3 ss H order)
theorem J58 (ss:List (List Int)) (H:Int) (order:List Int):Hb6 (ltOf (Gcd order)) (Gc3 ss H order) (Rn order ss) (Hd0 ss H order):=
 Hb6.perm ((H57 _ _).trans (G6f _)) (J50 (J07 order) _ (J66 _ (J70 order) _))
section
variable {F:Nat} {ss:List (List Int)} {H:Int} {order:List Int}
theorem Qee (hF:400 < F) (hr:Q1 ss H) (ho:order.length≤1000000):R8 F ⟨ss,H⟩ order=some (match Hd0 ss H order with | none=>(⟨0,0⟩,false) | some b=>(mvB ss H order b,true)):=by
 refine Yh ?_
 unfold R8
 refine Gy (H86 F hr.all) ?_
 have h3:∀ b∈Rn order ss,b∈ss.flatten:=fun b hb=>(G9e order ss).subset hb
 refine Qq (fun pre s=>∃ o,Hb6 (ltOf (Gcd order)) (Gc3 ss H order) pre o∧s=(match o with | none=>((0:Int),(0:Int),(0:Int)) | some b=>(b,(mvB ss H order b).From,(mvB ss H order b).To))∧∀ b,o=some b→b∈Rn order ss) ⟨none,fun y hy=>by simp at hy,rfl,fun b h=>by cases h⟩ (fun pre b post s nx e hI a3=>?_) (fun s hI=>Ht ?_)
 ·obtain⟨o,hP,hs,h1⟩:=hI
  have h8:b∈Rn order ss:=by rw [e]; simp
  have h9:=h3 b h8
  obtain⟨k,st,hf,h5,hk⟩:=Q87 hr h9
  have a0:=J17 (H:=H) (order:=order) hf h5
  have a4:=(hr.ids b h9).1
  have a6:=hr.len st (Ez h5)
  obtain⟨p1,p2,p3⟩:=Q04 (F:=F) hF hr ho b
  -- nothing changes
  have stay:(Gc3 ss H order b=true→∃ x,o=some x∧ltOf (Gcd order) b x=false)→∀ K:Int×Int×Int→Option (G8×Bool),(∀ a,(∃ o,Hb6 (ltOf (Gcd order)) (Gc3 ss H order) (pre++[b]) o∧a=(match o with | none=>((0:Int),(0:Int),(0:Int)) | some b=>(b,(mvB ss H order b).From,(mvB ss H order b).To))∧∀ b,o=some b→b∈Rn order ss)→Wp (K a) (·=(match Hd0 ss H order with | none=>((⟨0,0⟩:G8),false) | some b=>(mvB ss H order b,true))))→Wp (K (s.1,s.2.1,s.2.2)) (·=(match Hd0 ss H order with | none=>((⟨0,0⟩:G8),false) | some b=>(mvB ss H order b,true))):=fun a1 K hK=>hK _ ⟨o,by
   cases o with
   | none=>
    intro y hy
    rcases Kn.1 hy with hy | hy
    ·exact hP y hy
    ·rw [Kp] at hy; subst hy
     cases hq:Gc3 ss H order y with
     | false=>rfl
     | true=>obtain⟨x,h,_⟩:=a1 hq; cases h
   | some x=>
    refine⟨Kn.2 (.inl hP.1),hP.2.1,fun y hy h2=>?_⟩
    rcases Kn.1 hy with hy | hy
    ·exact hP.2.2 y hy h2
    ·rw [Kp] at hy; subst hy
     obtain⟨x',h,hl⟩:=a1 h2
     cases h
     cases hq:ltOf (Gcd order) x y with
     | true=>exact .inr rfl
     | false=>exact .inl (J07 order y x hl hq),by rw [hs],h1⟩
  refine H42 (fun a=>∃ o,Hb6 (ltOf (Gcd order)) (Gc3 ss H order) (pre++[b]) o∧a=(match o with | none=>((0:Int),(0:Int),(0:Int)) | some b=>(b,(mvB ss H order b).From,(mvB ss H order b).To))∧∀ b,o=some b→b∈Rn order ss) (fun K hK=>?_) (fun a ha=>a3 _ ha)
  refine Gy (Jbd F ss H b) ?_
  rw [hf]
  refine Qx rfl h5 (R5 (by omega) ?_)
  by_cases h0:(k:Int)≠(st.length:Int) - 1
  ·have hd:decide ((k:Int)≠(st.length:Int) - 1)=true:=Eu h0
   dsimp only
   rw [hd]
   refine Q86 rfl (Jd (fun _=>stay (fun hq=>?_) K hK) (fun h=>by simp at h))
   rw [a0,Kj,Kk] at hq
   exact absurd hq.1 h0
  ·have hd:decide ((k:Int)≠(st.length:Int) - 1)=false:=Ev h0
   have h7:(k:Int)=(st.length:Int) - 1:=Classical.byContradiction h0
   dsimp only
   rw [hd]
   have h6:Gc3 ss H order b=decide (0≤plV ss H order b):=by rw [a0,Eu h7,Bool.true_and]
   -- the place, and what then
   have go:(∀ x,o=some x→ltOf (Gcd order) b x=true)→Wp (bnd (Q2 F ⟨ss,H⟩ order (frB ss b:Int) b) fun r131=>bif decide (0≤r131) then (K (b,(frB ss b:Int),r131)) else (K (s.1,s.2.1,s.2.2))) (·=(match Hd0 ss H order with | none=>((⟨0,0⟩:G8),false) | some b=>(mvB ss H order b,true))):=fun a5=>by
    refine Gy p2 (Jd (fun hp=>hK _ ⟨some b,⟨Kn.2 (.inr (Kp.2 rfl)),by rw [h6]; exact hp,fun y hy h2=>?_⟩,rfl,fun z hz=>by cases hz; exact h8⟩) (fun hp=>stay (fun hq=>?_) K hK))
    ·rcases Kn.1 hy with hy | hy
     ·cases o with
      | none=>have:=hP y hy; rw [h2] at this; cases this
      | some x=>
       have a2:=a5 x rfl
       rcases hP.2.2 y hy h2 with h | h
       ·rw [h]; exact .inr a2
       ·exact .inr ((J70 order).trans b x y a2 h)
     ·rw [Kp] at hy; exact .inl hy
    ·rw [h6,hp] at hq; cases hq
   cases o with
   | none=>
    have h4:s.1=0:=by rw [hs]
    have hz:decide (0 < s.1)=false:=Ev (by omega)
    rw [hz]
    exact Q86 rfl (Jd (fun h=>by simp at h) (fun _=>go fun x h=>by cases h))
   | some x=>
    have h4:s.1=x:=by rw [hs]
    have a7:=(hr.ids x (h3 x (h1 x rfl))).1
    have hz:decide (0 < s.1)=true:=Eu (by omega)
    rw [hz,h4]
    refine G0a rfl (Qab order b x) ?_
    cases hl:ltOf (Gcd order) b x with
    | true=>exact Jd (fun h=>by simp at h) (fun _=>by rw [← h4]; exact go fun x' h=>by cases h; exact hl)
    | false=>exact Jd (fun _=>by rw [← h4]; exact stay (fun _=>⟨x,rfl,hl⟩) K hK) (fun h=>by simp at h)
 ·obtain⟨o,hP,hs,h1⟩:=hI
  have:=Hb6.uniq (J70 order) hP (J58 ss H order)
  subst this
  cases hb:Hd0 ss H order with
  | none=>rw [hb] at hs; rw [hs]; rfl
  | some b=>
   rw [hb] at hs h1
   have a4:=(hr.ids b (h3 b (h1 b rfl))).1
   rw [hs]
   dsimp only
   rw [Eu (by omega)]
theorem Q74 (hr:Q1 ss H) (m:G5):G10 ⟨ss,H⟩ m=some (⟨(G0d ss H m).1,(G0d ss H m).2.1⟩,(G0d ss H m).2.2):=by
 unfold G10 G0d
 rw [Gdb,G08,Eu hr,Bool.not_true,cond_false,Qad hr]
 by_cases h:(Hs ss H.toNat m).2=0
 ·simp only [if_pos h,need,cond_true]; rw [h]
 ·simp only [if_neg h,need,cond_true]
theorem look_eq {β:Type} (hr:Q1 ss H) (ho:order.length≤1000000) {NX:(List G5)×(List (List Int))×Int→Option β} {Z:Option β} {out:List G5} (h5:out.length≤200):∀ (l:List Int) (i:Nat),(∀ b∈l,b∈Rn order ss) →
  each (fun(y72:Int) i72 (s72:(List G5)) nx72=>jp (fun kj75=>bnd (Zq (Gn.mk ss H) y72) fun r78=>R6 ss r78.1 fun y81=>chk ((y81.length:Int) - 1) fun v83=>bif decide (r78.2.1 < v83) then (kj75 ()) else
   (bnd (Q7 order y72) fun r85=>bnd (Qv (Gn.mk ss H) order r78.1 r85) fun r86=>bif decide (0≤r86) then (need (decide ((s72.length+[(G5.mk r78.1 r86)].length)*16≤140737488355328∧s72.length+[(G5.mk r78.1 r86)].length≤maxLen)) <|
    chk (((s72++[(G5.mk r78.1 r86)]).length:Int) - 1) fun v91=>R6 (s72++[(G5.mk r78.1 r86)]) v91 fun y92=>bnd (G10 (Gn.mk ss H) y92) fun r94=>NX ((s72++[(G5.mk r78.1 r86)]),r94.1.Stacks,r94.1.Height)) else (kj75 ()))) fun(j75:Unit)=>nx72 s72)
   (fun(s72:(List G5))=>Z) l i out=(match l.find? (Gc3 ss H order) with | none=>Z | some b=>NX (out++[mv (mvB ss H order b)],(Hs ss H.toNat (mv (mvB ss H order b))).1,H))
 | [],i,_=>rfl
 | b::l,i,hl=>by
  have h4:=hl b (List.mem_cons_self ..)
  have h8:=(G9e order ss).subset h4
  obtain⟨k,st,hf,h2,hk⟩:=Q87 hr h8
  have h0:=J17 (H:=H) (order:=order) hf h2
  have a3:=(Ew hk).1
  have a2:=hr.len st (Ez h2)
  obtain⟨p1,p2,p3⟩:=Q04 (F:=401) (by decide) hr ho b
  have ih:=look_eq hr ho (NX:=NX) (Z:=Z) h5 l (i+1) (fun x hx=>hl x (List.mem_cons_of_mem _ hx))
  rw [each,jp,Hde,G08,hf]
  dsimp only
  rw [G96 h2]
  have h9:∀ (f:Int→Option β),chk ((st.length:Int) - 1) f=f ((st.length:Int) - 1):=fun f=>by unfold chk J4f; rw [Eu (by omega),Eu (by omega)]; rfl
  rw [h9,List.find?_cons]
  by_cases h3:(k:Int)=(st.length:Int) - 1
  ·rw [Ev (by omega),cond_false,H90,G08,p1,G08]
   rw [Eu h3,Bool.true_and] at h0
   rw [h0]
   by_cases hp:0≤plV ss H order b
   ·rw [Eu hp,cond_true]
    have a0:Gc3 ss H order b=true:=by rw [h0]; exact Eu hp
    obtain⟨a1,_⟩:=Jb3 (F:=401) (by decide) hr ho h4 a0
    have h6:(out++[mv (mvB ss H order b)]).length=out.length+1:=by rw [Kh,Ki]
    have e0:(⟨(frB ss b:Int),plV ss H order b⟩:G5)=mv (mvB ss H order b):=rfl
    rw [e0]
    have h1:decide ((out.length+[mv (mvB ss H order b)].length)*16≤140737488355328∧out.length+[mv (mvB ss H order b)].length≤maxLen)=true:=G26 (by rw [Ki]; omega) (by decide)
    rw [h1]
    unfold need
    rw [cond_true]
    have h7:∀ (f:Int→Option β),chk (((out++[mv (mvB ss H order b)]).length:Int) - 1) f=f (out.length:Int):=fun f=>by rw [h6]; unfold chk J4f; rw [Eu (by omega),Eu (by omega)]; show f _=f _; congr 1; omega
    rw [h7,G96 (y:=mv (mvB ss H order b)) (by simp),Q74 hr,G08]
    unfold G0d
    rw [if_pos a1]
   ·rw [Ev hp,cond_false]
    exact ih
  ·rw [Eu (by omega),cond_true]
   rw [Ev h3,Bool.false_and] at h0
   rw [h0]
   exact ih
end

/-! ### The rule -/
theorem J59 {F:Nat} (hF:400 < F) {H:Int} {order:List Int} (ho:order.length≤1000000):∀ (f:Nat) {ss:List (List Int)} (out:List G8),Q1 ss H→(Rn order ss).length < f→out.length+(Rn order ss).length≤180→∃ r:List G8×Int,r.1.length≤180 ∧
  loop (fun nx9 (s9:(List G5)×(List (List Int))×Int)=>bnd (Rc (Gn.mk s9.2.1 s9.2.2) order) fun r11=>bif decide ((r11.length:Int)=0) then (some (s9.1,(0:Int))) else (bnd (H15 (fun z0 z1=>Qi z0 z1 order) r11) fun r17=>
   each (fun(y72:Int) i72 (s72:(List G5)) nx72=>jp (fun kj75=>bnd (Zq (Gn.mk s9.2.1 s9.2.2) y72) fun r78=>R6 s9.2.1 r78.1 fun y81=>chk ((y81.length:Int) - 1) fun v83=>bif decide (r78.2.1 < v83) then (kj75 ()) else
    (bnd (Q7 order y72) fun r85=>bnd (Qv (Gn.mk s9.2.1 s9.2.2) order r78.1 r85) fun r86=>bif decide (0≤r86) then (need (decide ((s72.length+[(G5.mk r78.1 r86)].length)*16≤140737488355328∧s72.length+[(G5.mk r78.1 r86)].length≤maxLen)) <|
     chk (((s72++[(G5.mk r78.1 r86)]).length:Int) - 1) fun v91=>R6 (s72++[(G5.mk r78.1 r86)]) v91 fun y92=>bnd (G10 (Gn.mk s9.2.1 s9.2.2) y92) fun r94=>nx9 ((s72++[(G5.mk r78.1 r86)]),r94.1.Stacks,r94.1.Height)) else (kj75 ()))) fun(j75:Unit)=>nx72 s72)
    (fun(s72:(List G5))=>some ([],(360:Int))) r17 0 s9.1)) f (out.map mv,ss,H)=some (r.1.map mv,r.2) ∧
  loop (fun nx38 (s38:(List G8)×(List (List Int))×Int)=>bnd (J0 F (Gp.mk s38.2.1 s38.2.2) order) fun r41=>bif decide (0 < (r41.length:Int)) then (bnd (R8 F (Gp.mk s38.2.1 s38.2.2) order) fun r43=>bif (!r43.2) then (some ([],(360:Int))) else
   (need (decide ((s38.1.length+[r43.1].length)*16≤140737488355328∧s38.1.length+[r43.1].length≤maxLen)) <| bnd (Ju F (Gp.mk s38.2.1 s38.2.2) r43.1) fun r49=>nx38 ((s38.1++[r43.1]),r49.1.Stacks,r49.1.Height))) else (some (s38.1,(0:Int)))) f (out,ss,H)=some r
 | 0,ss,out,hr,hf,hl=>by omega
 | f+1,ss,out,hr,hf,hl=>by
  rw [loop,loop]
  dsimp only
  rw [J6f hr.all,G08,H86 F hr.all,G08,G9b]
  by_cases h0:(Rn order ss).length=0
  ·refine⟨(out,0),by dsimp only; omega,?_,?_⟩
   ·rw [Eu (by omega)]; rfl
   ·rw [Ev (by omega)]; rfl
  ·have h5:H15 (fun z0 z1=>Qi z0 z1 order) (Zy (Rn order ss))=some (G57 (Gcd order) (Zy (Rn order ss))):=Q60 (Gcd order) (fun x y=>Jc5 order x y) (J70 order) (J07 order) (by rw [G9b]; omega)
   rw [Ev (by omega),cond_false,Eu (by omega),cond_true,h5,G08,Qee hF hr ho,G08]
   rw [look_eq hr ho (by rw [Km]; omega) _ _ (fun b hb=>((H57 _ _).trans (G6f _)).mem_iff.1 hb)]
   have h6:(G57 (Gcd order) (Zy (Rn order ss))).find? (Gc3 ss H order)=Hd0 ss H order:=rfl
   rw [h6]
   have h3:=J58 ss H order
   cases hb:Hd0 ss H order with
   | none=>exact⟨([],360),by simp,rfl,rfl⟩
   | some b=>
    rw [hb] at h3
    obtain⟨h1,h2⟩:=Jb3 hF hr ho h3.1 h3.2.1
    have h7:=G58 hr h1
    obtain⟨r,g1,g2,g3⟩:=J59 hF ho f (out++[mvB ss H order b]) h7 (by omega) (by rw [Kh,Ki]; omega)
    refine⟨r,g1,?_,?_⟩
    ·rw [List.map_append] at g2
     exact g2
    ·dsimp only
     have h4:decide ((out.length+[mvB ss H order b].length)*16≤140737488355328∧out.length+[mvB ss H order b].length≤maxLen)=true:=G26 (by rw [Ki]; omega) (by decide)
     rw [Bool.not_true,cond_false,h4,Hb4 F hr]
     unfold G0d
     rw [if_pos h1]
     exact g3
theorem H98 {F:Nat} (hF:400 < F) (ss:List (List Int)) (H:Int) {order:List Int} (ho:order.length≤1000000):∃ l e,Jv F ⟨ss,H⟩ order=some (l.map mv,e)∧J5 F ⟨ss,H⟩ order=some (l,e)∧l.length≤8000000:=by
 by_cases h:G11 ss H order
 ·have hl:(Rn order ss).length≤180:=Nat.le_trans (G9e order ss).length_le h.y.all
  obtain⟨r,h1,h2,h3⟩:=J59 hF ho F (ss:=ss) [] h.y (by omega) (by rw [List.length_nil]; omega)
  refine⟨r.1,r.2,?_,?_,by omega⟩
  ·unfold Jv
   rw [H28,if_pos h,G08,Ev (by simp),cond_false]
   exact h2
  ·unfold J5
   rw [H00,Eu h,G08,Bool.not_true,cond_false]
   exact h3
 ·refine⟨[],2,?_,?_,by simp⟩
  ·unfold Jv
   rw [H28,if_neg h]; rfl
  ·unfold J5
   rw [H00,Ev h]; rfl
open Go.RowKit Go.Sort Go.Shelf

theorem H02 {F:Nat} (hF:400 < F) {ss:List (List Int)} {H:Int} {order:List Int} {l:List G8} {e:Int} (ho:order.length≤1000000) (h:J5 F ⟨ss,H⟩ order=some (l,e)):Jv F ⟨ss,H⟩ order=some (l.map mv,e):=by
 obtain⟨l',e',h1,h2,_⟩:=H98 hF ss H ho
 rw [h] at h2
 have:=Ey h2
 cases this
 exact h1
theorem ex1:J5 500 ⟨[[1,3,2],[4],[]],3⟩ [1,2,3,4]=some ([⟨0,1⟩,⟨0,2⟩],0):=by kernel_rfl
theorem ex2:J5 500 ⟨[[1,2],[3,4]],2⟩ [1,2,3,4]=some ([],360):=by kernel_rfl
theorem ex3:J5 500 ⟨[[1,3],[2]],2⟩ [1,2,3]=some ([],360):=by kernel_rfl
theorem ex4:J5 500 ⟨[[1,3],[2,4],[]],2⟩ [1,2,3,4]=some ([⟨1,2⟩,⟨0,2⟩],0):=by kernel_rfl
theorem exW:Z5 ⟨[[1,3,2],[4],[]],3⟩ [1,2,3,4]=some ([2,3],0):=by kernel_rfl
theorem exL1:Rf 500 ⟨[[1,3,2],[4],[]],3⟩ [1,2,3,4]=some ([⟨0,1⟩,⟨0,2⟩],0):=by kernel_rfl
theorem exL2:Rf 500 ⟨[[1,2],[3,4]],2⟩ [1,2,3,4]=some ([],6):=by kernel_rfl
theorem exL3:Rf 500 ⟨[[1,3],[2]],2⟩ [1,2,3]=some ([],6):=by kernel_rfl
theorem exC:Y1 ⟨[[1,3,2],[4],[]],3⟩ [1,2,3,4] [⟨0,1⟩,⟨0,2⟩]=some (true,0):=by kernel_rfl
theorem Jb4:R0 500=some true:=by
 refine Yh ?_
 unfold R0
 refine Gy exW (Gy (H02 (by decide) (by decide) ex1) (Gy exL1 (Gy exC ?_)))
 refine Gy (Gce [2,3]) (G0a (x:=true) rfl (Gda [⟨0,1⟩,⟨0,2⟩]) (G0a (x:=true) rfl (Gda [⟨0,1⟩,⟨0,2⟩]) ?_))
 refine Gy (x:=0) rfl (Gy (x:=0) rfl (Gy (x:=0) rfl (Jd (fun h=>absurd h (show ¬ ((!true||!true||!true||!true||decide ((0:Int)≠0))=true) by decide)) (fun _=>?_))))
 refine Gy (H02 (by decide) (by decide) ex2) (Gy exL2 (Gy (x:=3) rfl (Gy (H02 (by decide) (by decide) ex3) (Gy (x:=3) rfl (Gy exL3 (Jd (fun h=>absurd h (show ¬ ((decide ((360:Int)≠360)||decide ((6:Int)≠6)||decide ((360:Int)≠360)||decide ((6:Int)≠6))=true) by decide)) (fun _=>?_)))))))
 exact Gy (H02 (by decide) (by decide) ex4) (G0a (x:=true) rfl (Gda [⟨1,2⟩,⟨0,2⟩]) (Ht rfl))
theorem Qd4 {l:List G8} (h:l.length≤8000000):Ra l=some (l.map mv):=by
 refine Yh ?_
 unfold Ra
 refine Qq (fun pre s=>s=pre.map mv) rfl (fun pre x post s nx e hI h0=>?_) (fun s hI=>Ht hI)
 subst hI
 have hp:pre.length < 8000000:=by
  have:=congrArg List.length e
  simp only [Kh,Kd] at this; omega
 refine Qw (G26 (by rw [Km,Ki]; omega) (by decide)) (h0 _ ?_)
 rw [List.map_append]; rfl
theorem Jb5 {F:Nat} (hF:400 < F) {y:Gn} {order:List Int} (h1:∀ s∈y.Stacks,s.length≤10) (h2:y.Stacks.length≤32) (h3:order.length≤60):R2 F y order=some true:=by
 refine Yh ?_
 unfold R2
 have hs:∀ s∈y.Stacks,s.length≤1048576:=fun s hs=>by have:=h1 s hs; omega
 obtain⟨l,e,hp,hr,hl⟩:=H98 hF y.Stacks y.Height (order:=order) (by omega)
 obtain⟨so,s1,s2⟩:=Jbc hF (ss:=y.Stacks) (H:=y.Height) (order:=order)
 refine Gy (Qb0 (by omega) hs) (Gy (H26 (by omega)) ?_)
 show Wp (bnd (Z8 ⟨(y.Stacks.map H85).map Prod.fst,y.Height⟩ order) fun r7=>bnd (Qo F ⟨y.Stacks,y.Height⟩ order) fun r9=>bnd (Z5 ⟨(y.Stacks.map H85).map Prod.fst,y.Height⟩ order) fun r11=>bnd (Qs F ⟨y.Stacks,y.Height⟩ order) fun r13=>bnd (Jv F ⟨(y.Stacks.map H85).map Prod.fst,y.Height⟩ order) _) _
 rw [J48]
 refine Gy s1 (Gy s2 (Gy Qed (Gy (Q48 hF) (Gy hp (Gy hr ?_)))))
 generalize (if G11 y.Stacks y.Height order then (Zy (Rn order y.Stacks),(0:Int)) else ([],2))=w
 have h0:(so.1==so.1&&decide (so.2=so.2))=true:=by simp
 rw [h0]
 refine G0a rfl (Gce _) ?_
 have hw:decide (w.2=w.2)=true:=Eu rfl
 rw [hw]
 refine G0a rfl (Qd4 hl) (G0a rfl (Gda _) ?_)
 have he:decide ((l.map mv,e).2=(l,e).2)=true:=Eu rfl
 rw [he]
 exact G0a rfl (Q4b (by omega) hs) (G0a rfl (H27 (by omega)) (Ht rfl))
theorem Jaa (y:Gn) (order:List Int):Qn 500 y order=some true:=by
 refine Yh ?_
 unfold Qn
 refine G32 (wp_mono (Qbc y) (fun r hr=>?_))
 cases hc:((!r)||(decide (60 < (order.length:Int)))) with
 | true=>
  refine Q86 rfl ?_
  rw [Bool.true_or]
  exact G0a rfl Jb4 (Ht rfl)
 | false=>
  simp only [Kt,decide_eq_false_iff_not,Bool.not_eq_false'] at hc
  obtain⟨h1,h2⟩:=hr hc.1
  refine G0a rfl (Jb5 (by decide) h1 h2 (by omega)) ?_
  exact G0a rfl Jb4 (Ht rfl)
end Go.Proofs.Ytokjlondbjdlfaa
