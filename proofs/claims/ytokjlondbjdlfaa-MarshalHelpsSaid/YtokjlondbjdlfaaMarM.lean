/- The rule: -/
import Derived.Test.YtokjlondbjdlfaaMarP
import Derived.Test.YtokjlondbjdlfaaMarP
set_option maxRecDepth 100000
set_option linter.unusedVariables false
namespace Go.Proofs.Ytokjlondbjdlfaa
open Go.RowKit Go.Sort Go.Shelf

/-! ### The order in which boxes are looked at -/
def J1f (x y:Int):Int:=if x < y then -1 else if y < x then 1 else 0
def H03 (order:List Int) (a b:Int):Int:=if J1f (rnk order b) (rnk order a)≠0 then J1f (rnk order b) (rnk order a) else J1f a b
theorem J7e (x y:Int):Zn x y=some (J1f x y):=by
 unfold Zn G32 J1f
 have h1:decide (x≠x)=false:=by simp
 have h2:decide (y≠y)=false:=by simp
 rw [h1,h2,G09,G09,cond_false,cond_false]
 by_cases h:x < y
 ·rw [if_pos h,Ew h]; rfl
 ·rw [if_neg h,Ex h,cond_false]
  by_cases g:y < x
  ·rw [if_pos g,Ew g]; rfl
  ·rw [if_neg g,Ex g]; rfl
theorem Q37 (order:List Int) (a b:Int):R5 a b order=some (H03 order a b):=by
 unfold R5 H03 Gcf
 rw [H86,G09,H86,G09,J7e,G09,J7e,G09]
 generalize J1f (rnk order b) (rnk order a)=p
 generalize J1f a b=q
 simp only [each]
 by_cases h:p≠0
 ·rw [if_pos h,Ew h]; rfl
 ·rw [if_neg h,Ex h,cond_false]
  by_cases g:q≠0
  ·rw [Ew g]; rfl
  ·have g:q=0:=Classical.byContradiction g
   subst g; rfl
theorem Q85 (order:List Int) (a b:Int):ltOf (H03 order) a b=true ↔ rnk order b < rnk order a∨(rnk order b=rnk order a∧a < b):=by
 unfold ltOf H03 J1f
 rw [Kn]
 by_cases h1:(rnk order b:Int) < rnk order a
 ·rw [if_pos h1,if_pos (by omega)]; omega
 ·rw [if_neg h1]
  by_cases h2:(rnk order a:Int) < rnk order b
  ·rw [if_pos h2,if_pos (by omega)]; omega
  ·rw [if_neg h2,if_neg (by omega)]
   by_cases h3:a < b
   ·rw [if_pos h3]; omega
   ·rw [if_neg h3]
    by_cases h4:b < a
    ·rw [if_pos h4]; omega
    ·rw [if_neg h4]; omega
theorem Qbc (order:List Int) (a b:Int):ltOf (H03 order) a b=false ↔ ¬ (rnk order b < rnk order a∨(rnk order b=rnk order a∧a < b)):=by
 rw [← Q85]; simp
theorem Jd6 (order:List Int):SWO (ltOf (H03 order)):=by
 refine⟨fun x=>?_,fun x y z h1 h2=>?_,fun x y z h1 h2=>?_⟩
 ·rw [Qbc]; omega
 ·rw [Q85] at *; omega
 ·rw [Qbc] at *; omega
theorem J5c (order:List Int):Parts (H03 order):=fun x y h1 h2=>by
 rw [Qbc] at *; omega
theorem R3f (order:List Int) (a b:Int):Ye order a b=some (ltOf (H03 order) a b):=by
 unfold Ye
 rw [Gb8,G09,Gb8,G09]
 congr 1
 cases h:ltOf (H03 order) a b with
 | true=>rw [Q85] at h; simp only [Ku,Km,Kn]; omega
 | false=>rw [Qbc] at h; simp only [Kv,Bool.and_eq_false_iff,decide_eq_false_iff_not]; omega

/-! ### The first of those that are wanted -/
def J04 (lt:Int→Int→Bool) (p:Int→Bool) (l:List Int):Option Int→Prop
 | none=>∀ y∈l,p y=false
 | some x=>x∈l∧p x=true∧∀ y∈l,p y=true→y=x∨lt x y=true
theorem J04.uniq {lt:Int→Int→Bool} (hO:SWO lt) {p:Int→Bool} {l:List Int}:∀ {o o':Option Int},J04 lt p l o→J04 lt p l o'→o=o'
 | none,none,_,_=>rfl
 | none,some x,h,h'=>by have:=h x h'.1; rw [h'.2.1] at this; cases this
 | some x,none,h,h'=>by have:=h' x h.1; rw [h.2.1] at this; cases this
 | some x,some y,h,h'=>by
  rcases h.2.2 y h'.1 h'.2.1 with e | e
  ·rw [e]
  ·rcases h'.2.2 x h.1 h.2.1 with g | g
   ·rw [g]
   ·have:=hO.trans x y x e g
    rw [hO.irrefl] at this; cases this
theorem J04.perm {lt:Int→Int→Bool} {p:Int→Bool} {l l':List Int} (hp:l.Perm l'):∀ {o:Option Int},J04 lt p l o→J04 lt p l' o
 | none,h=>fun y hy=>h y (hp.mem_iff.2 hy)
 | some x,h=>⟨hp.mem_iff.1 h.1,h.2.1,fun y hy=>h.2.2 y (hp.mem_iff.2 hy)⟩
theorem Jb3 {lt:Int→Int→Bool} (hP:∀ x y,lt x y=false→lt y x=false→x=y) (p:Int→Bool):∀ {l:List Int},l.Pairwise (fun x y=>lt y x=false)→J04 lt p l (l.find? p)
 | [],_=>fun y hy=>by simp at hy
 | x::l,h=>by
  rw [List.pairwise_cons] at h
  have ih:=Jb3 hP p h.2
  rw [List.find?_cons]
  cases hx:p x with
  | true=>
   refine⟨List.mem_cons_self ..,hx,fun y hy h0=>?_⟩
   rcases Ks.1 hy with e | hy
   ·exact .inl e
   ·cases hl:lt x y with
    | true=>exact .inr rfl
    | false=>exact .inl (hP y x (h.1 y hy) hl)
  | false=>
   dsimp only
   cases hf:l.find? p with
   | none=>
    rw [hf] at ih
    intro y hy
    rcases Ks.1 hy with e | hy
    ·rw [e]; exact hx
    ·exact ih y hy
   | some z=>
    rw [hf] at ih
    refine⟨List.mem_cons_of_mem _ ih.1,ih.2.1,fun y hy h0=>?_⟩
    rcases Ks.1 hy with e | hy
    ·rw [e,hx] at h0; cases h0
    ·exact ih.2.2 y hy h0

/-! ### A box, where it stands and where it goes -/
def frB (ss:List (List Int)) (b:Int):Nat:=(G31 b ss 0).1.toNat
def plV (ss:List (List Int)) (H:Int) (order:List Int) (b:Int):Int:=(Rj ⟨ss,H⟩ order (frB ss b:Int) (rnk order b:Int)).getD 0
def Gfa (ss:List (List Int)) (H:Int) (order:List Int) (b:Int):Bool:=decide ((G31 b ss 0).2.1=((ss.getD (frB ss b) []).length:Int) - 1)&&decide (0≤plV ss H order b)
def mvB (ss:List (List Int)) (H:Int) (order:List Int) (b:Int):G9:=⟨(frB ss b:Int),plV ss H order b⟩
section
variable {F:Nat} {ss:List (List Int)} {H:Int} {order:List Int}
theorem Q7f (hF:400 < F) (hr:Jz ss H) (ho:order.length≤1000000) (b:Int):Rj ⟨ss,H⟩ order (frB ss b:Int) (rnk order b:Int)=some (plV ss H order b)∧Qf F ⟨ss,H⟩ order (frB ss b:Int) b=some (plV ss H order b)∧Hea ss H order (frB ss b) (rnk order b) (fun _=>True) (plV ss H order b):=by
 obtain⟨v,h1,h2,h3⟩:=places hF hr ho (frB ss b) b
 have:plV ss H order b=v:=by unfold plV; rw [h1]; rfl
 rw [this]
 exact⟨h1,h2,h3⟩
theorem R10 (hr:Jz ss H) {b:Int} (hb:b∈ss.flatten):∃ (k:Nat) (s:List Int),G31 b ss 0=((frB ss b:Int),(k:Int),true)∧ss[frB ss b]? = some s∧s[k]? = some b:=by
 obtain⟨i,k,hc⟩:=Hd5 hb
 unfold cellAt at hc
 obtain⟨s,hs,hk⟩:=Option.bind_eq_some_iff.1 hc
 have hf:=Ga4 (o:=0) hr.nodup hs hk
 have e:frB ss b=i:=by unfold frB; rw [hf]; dsimp only; omega
 refine⟨k,s,?_,by rw [e]; exact hs,hk⟩
 rw [hf,e,Nat.zero_add]
theorem J6d {b:Int} {k:Nat} {s:List Int} (hf:G31 b ss 0=((frB ss b:Int),(k:Int),true)) (hs:ss[frB ss b]? = some s):Gfa ss H order b=(decide ((k:Int)=(s.length:Int) - 1)&&decide (0≤plV ss H order b)):=by
 unfold Gfa
 rw [List.getD_eq_getElem?_getD,hs,hf]; rfl
theorem R2a (order:List Int):∀ (s:List Int) (m:Nat),mnF order m s≤m
 | [],m=>Kc
 | x::s,m=>by
  have:=R2a order s (min m (rnk order x))
  show mnF order (min m (rnk order x)) s≤m
  omega
theorem Qba (order:List Int):∀ (s:List Int) (m m':Nat),m≤m'→mnF order m s=min m (mnF order m' s)
 | [],m,m',h=>by show m=min m m'; omega
 | x::s,m,m',h=>by
  have e:=Qba order s (min m (rnk order x)) (min m' (rnk order x)) (by omega)
  have h1:=R2a order s (min m' (rnk order x))
  show mnF order (min m (rnk order x)) s=min m (mnF order (min m' (rnk order x)) s)
  omega
theorem Hbd {v s:List Int}:∀ {ss:List (List Int)} {i:Nat},ss[i]? = some s→(Q0 order (ss.set i v)).length+(G1c order order.length s).length=(Q0 order ss).length+(G1c order order.length v).length
 | x::ss,0,h=>by
  simp at h; subst h
  rw [List.set_cons_zero]
  show (G1c order order.length v++Q0 order ss).length+_=(G1c order order.length x++Q0 order ss).length+_
  rw [Kj,Kj]; omega
 | x::ss,i+1,h=>by
  have ih:=Hbd (v:=v) (ss:=ss) (i:=i) (by simpa using h)
  rw [List.set_cons_succ]
  show (G1c order order.length x++Q0 order (ss.set i v)).length+_=(G1c order order.length x++Q0 order ss).length+_
  rw [Kj,Kj]; omega
 | [],i,h=>by simp at h
theorem Q23 (hF:400 < F) (hr:Jz ss H) (ho:order.length≤1000000) {b:Int} (hw:b∈Q0 order ss) (hc:Gfa ss H order b=true):(Hq ss H.toNat (mv (mvB ss H order b))).2=0∧(Q0 order (Hq ss H.toNat (mv (mvB ss H order b))).1).length+1=(Q0 order ss).length:=by
 -- the stack in which it is in the way
 unfold Q0 at hw
 obtain⟨s,hs,h2⟩:=List.mem_flatMap.1 hw
 have h5:b∈s:=(H0f order s _).subset h2
 obtain⟨i,hi⟩:=List.mem_iff_getElem?.1 hs
 obtain⟨k,hk⟩:=List.mem_iff_getElem?.1 h5
 have hf:=Ga4 (o:=0) hr.nodup hi hk
 have ei:frB ss b=i:=by unfold frB; rw [hf]; dsimp only; omega
 rw [Nat.zero_add] at hf
 have h9:ss[frB ss b]? = some s:=by rw [ei]; exact hi
 rw [J6d (k:=k) (by rw [hf,ei]) h9,Km,Kn,Kn] at hc
 obtain⟨a5,a6⟩:=hc
 obtain⟨_,_,hB⟩:=Q7f hF hr ho b
 rcases hB with ⟨h1,_⟩ | ⟨t,T,ht,_,hT,⟨a0,a2,a3⟩,_⟩
 ·omega
 -- it is the last one
 have a7:=(Ey hk).1
 have h3:s≠[]:=List.ne_nil_of_mem h5
 have h4:s.getLast h3=b:=by
  have:s[s.length - 1]? = some b:=by rw [show s.length - 1=k by omega]; exact hk
  rw [← List.getLast?_eq_getElem?] at this
  rw [List.getLast?_eq_some_getLast h3] at this
  exact K0 this
 have h0:s=s.dropLast++[b]:=by rw [← h4,List.dropLast_concat_getLast]
 generalize ha:s.dropLast=a at h0
 have a4:=hr.low
 have c:Can ss H.toNat (mv (mvB ss H order b)) i t a T b:=⟨by show ((frB ss b:Nat):Int)=i; rw [ei],ht,by rw [← ei]; exact Ne.symm a0,by rw [← h0]; exact hi,hT,by omega⟩
 rw [c.eq]
 refine⟨rfl,?_⟩
 have h6:s.Nodup:=by
  have:=hr.nodup
  obtain⟨p,q,e⟩:=List.append_of_mem hs
  rw [e,List.flatten_append,List.flatten_cons] at this
  exact(List.nodup_append.1 (List.nodup_append.1 this).2.1).1
 have a1:b ∉ a:=fun h=>by
  rw [h0] at h6
  exact(List.nodup_append.1 h6).2.2 b h b (by simp) rfl
 have w1:G1c order order.length s=G1c order order.length a++[b]:=by
  rw [h0,G01]
  rw [h0,G01] at h2
  by_cases h7:mnF order order.length a < rnk order b
  ·rw [if_pos h7]
  ·rw [if_neg h7,List.append_nil] at h2
   exact absurd ((H0f order a _).subset h2) a1
 have w2:G1c order order.length (T++[b])=G1c order order.length T:=by
  rw [G01,if_neg,List.append_nil]
  have e1:=Qba order T order.length (order.length+1) (by omega)
  have e2:mnF order (order.length+1) T=mnL order T:=rfl
  have:=Q79 order b
  omega
 have h8:(ss.set t (T++[b]))[i]? = some s:=by rw [List.getElem?_set_ne (Ne.symm c.ne)]; exact hi
 have l1:=Hbd (order:=order) (v:=a) h8
 have l2:=Hbd (order:=order) (v:=T++[b]) hT
 rw [w2] at l2
 rw [w1,Kj,Kk] at l1
 show (Q0 order ((ss.set t (T++[b])).set i a)).length+1=_
 omega
end

/-! ### The next move -/
def J22 (ss:List (List Int)) (H:Int) (order:List Int):Option Int:=(G82 (H03 order) (G1d (Q0 order ss))).find? (Gfa ss H order)
theorem Jbb (ss:List (List Int)) (H:Int) (order:List Int):J04 (ltOf (H03 order)) (Gfa ss H order) (Q0 order ss) (J22 ss H order):=
 J04.perm ((Ha9 _ _).trans (G9b _)) (Jb3 (J5c order) _ (Jca _ (Jd6 order) _))
section
variable {F:Nat} {ss:List (List Int)} {H:Int} {order:List Int}
theorem R87 (hF:400 < F) (hr:Jz ss H) (ho:order.length≤1000000):Rz F ⟨ss,H⟩ order=some (match J22 ss H order with | none=>(⟨0,0⟩,false) | some b=>(mvB ss H order b,true)):=by
 refine Ra ?_
 unfold Rz
 refine Gn (H5c F hr.all) ?_
 have h3:∀ b∈Q0 order ss,b∈ss.flatten:=fun b hb=>(G7f order ss).subset hb
 refine Q3 (fun pre s=>∃ o,J04 (ltOf (H03 order)) (Gfa ss H order) pre o∧s=(match o with | none=>((0:Int),(0:Int),(0:Int)) | some b=>(b,(mvB ss H order b).From,(mvB ss H order b).To))∧∀ b,o=some b→b∈Q0 order ss) ⟨none,fun y hy=>by simp at hy,rfl,fun b h=>by cases h⟩ (fun pre b post s nx e hI a3=>?_) (fun s hI=>Hj ?_)
 ·obtain⟨o,hP,hs,h1⟩:=hI
  have h8:b∈Q0 order ss:=by rw [e]; simp
  have h9:=h3 b h8
  obtain⟨k,st,hf,h5,hk⟩:=R10 hr h9
  have a0:=J6d (H:=H) (order:=order) hf h5
  have a4:=(hr.ids b h9).1
  have a6:=hr.len st (Ka h5)
  obtain⟨p1,p2,p3⟩:=Q7f (F:=F) hF hr ho b
  -- nothing changes
  have stay:(Gfa ss H order b=true→∃ x,o=some x∧ltOf (H03 order) b x=false)→∀ K:Int×Int×Int→Option (G9×Bool),(∀ a,(∃ o,J04 (ltOf (H03 order)) (Gfa ss H order) (pre++[b]) o∧a=(match o with | none=>((0:Int),(0:Int),(0:Int)) | some b=>(b,(mvB ss H order b).From,(mvB ss H order b).To))∧∀ b,o=some b→b∈Q0 order ss)→Wp (K a) (·=(match J22 ss H order with | none=>((⟨0,0⟩:G9),false) | some b=>(mvB ss H order b,true))))→Wp (K (s.1,s.2.1,s.2.2)) (·=(match J22 ss H order with | none=>((⟨0,0⟩:G9),false) | some b=>(mvB ss H order b,true))):=fun a1 K hK=>hK _ ⟨o,by
   cases o with
   | none=>
    intro y hy
    rcases Kp.1 hy with hy | hy
    ·exact hP y hy
    ·rw [Kr] at hy; subst hy
     cases hq:Gfa ss H order y with
     | false=>rfl
     | true=>obtain⟨x,h,_⟩:=a1 hq; cases h
   | some x=>
    refine⟨Kp.2 (.inl hP.1),hP.2.1,fun y hy h2=>?_⟩
    rcases Kp.1 hy with hy | hy
    ·exact hP.2.2 y hy h2
    ·rw [Kr] at hy; subst hy
     obtain⟨x',h,hl⟩:=a1 h2
     cases h
     cases hq:ltOf (H03 order) x y with
     | true=>exact .inr rfl
     | false=>exact .inl (J5c order y x hl hq),by rw [hs],h1⟩
  refine H42 (fun a=>∃ o,J04 (ltOf (H03 order)) (Gfa ss H order) (pre++[b]) o∧a=(match o with | none=>((0:Int),(0:Int),(0:Int)) | some b=>(b,(mvB ss H order b).From,(mvB ss H order b).To))∧∀ b,o=some b→b∈Q0 order ss) (fun K hK=>?_) (fun a ha=>a3 _ ha)
  refine Gn (Q2c F ss H b) ?_
  rw [hf]
  refine Ju rfl h5 (Q4 (by omega) ?_)
  by_cases h0:(k:Int)≠(st.length:Int) - 1
  ·have hd:decide ((k:Int)≠(st.length:Int) - 1)=true:=Ew h0
   dsimp only
   rw [hd]
   refine Ra6 rfl (Hi (fun _=>stay (fun hq=>?_) K hK) (fun h=>by simp at h))
   rw [a0,Km,Kn] at hq
   exact absurd hq.1 h0
  ·have hd:decide ((k:Int)≠(st.length:Int) - 1)=false:=Ex h0
   have h7:(k:Int)=(st.length:Int) - 1:=Classical.byContradiction h0
   dsimp only
   rw [hd]
   have h6:Gfa ss H order b=decide (0≤plV ss H order b):=by rw [a0,Ew h7,Bool.true_and]
   -- the place, and what then
   have go:(∀ x,o=some x→ltOf (H03 order) b x=true)→Wp (bnd (Qf F ⟨ss,H⟩ order (frB ss b:Int) b) fun r131=>bif decide (0≤r131) then (K (b,(frB ss b:Int),r131)) else (K (s.1,s.2.1,s.2.2))) (·=(match J22 ss H order with | none=>((⟨0,0⟩:G9),false) | some b=>(mvB ss H order b,true))):=fun a5=>by
    refine Gn p2 (Hi (fun hp=>hK _ ⟨some b,⟨Kp.2 (.inr (Kr.2 rfl)),by rw [h6]; exact hp,fun y hy h2=>?_⟩,rfl,fun z hz=>by cases hz; exact h8⟩) (fun hp=>stay (fun hq=>?_) K hK))
    ·rcases Kp.1 hy with hy | hy
     ·cases o with
      | none=>have:=hP y hy; rw [h2] at this; cases this
      | some x=>
       have a2:=a5 x rfl
       rcases hP.2.2 y hy h2 with h | h
       ·rw [h]; exact .inr a2
       ·exact .inr ((Jd6 order).trans b x y a2 h)
     ·rw [Kr] at hy; exact .inl hy
    ·rw [h6,hp] at hq; cases hq
   cases o with
   | none=>
    have h4:s.1=0:=by rw [hs]
    have hz:decide (0 < s.1)=false:=Ex (by omega)
    rw [hz]
    exact Ra6 rfl (Hi (fun h=>by simp at h) (fun _=>go fun x h=>by cases h))
   | some x=>
    have h4:s.1=x:=by rw [hs]
    have a7:=(hr.ids x (h3 x (h1 x rfl))).1
    have hz:decide (0 < s.1)=true:=Ew (by omega)
    rw [hz,h4]
    refine G7e rfl (R3f order b x) ?_
    cases hl:ltOf (H03 order) b x with
    | true=>exact Hi (fun h=>by simp at h) (fun _=>by rw [← h4]; exact go fun x' h=>by cases h; exact hl)
    | false=>exact Hi (fun _=>by rw [← h4]; exact stay (fun _=>⟨x,rfl,hl⟩) K hK) (fun h=>by simp at h)
 ·obtain⟨o,hP,hs,h1⟩:=hI
  have:=J04.uniq (Jd6 order) hP (Jbb ss H order)
  subst this
  cases hb:J22 ss H order with
  | none=>rw [hb] at hs; rw [hs]; rfl
  | some b=>
   rw [hb] at hs h1
   have a4:=(hr.ids b (h3 b (h1 b rfl))).1
   rw [hs]
   dsimp only
   rw [Ew (by omega)]
theorem Qfb (hr:Jz ss H) (m:G5):G2d ⟨ss,H⟩ m=some (⟨(G29 ss H m).1,(G29 ss H m).2.1⟩,(G29 ss H m).2.2):=by
 unfold G2d G29
 rw [Gb7,G09,Ew hr,Bool.not_true,cond_false,R43 hr]
 by_cases h:(Hq ss H.toNat m).2=0
 ·simp only [if_pos h,need,cond_true]; rw [h]
 ·simp only [if_neg h,need,cond_true]
theorem look_eq {β:Type} (hr:Jz ss H) (ho:order.length≤1000000) {NX:(List G5)×(List (List Int))×Int→Option β} {Z:Option β} {out:List G5} (h5:out.length≤200):∀ (l:List Int) (i:Nat),(∀ b∈l,b∈Q0 order ss) →
  each (fun(y72:Int) i72 (s72:(List G5)) nx72=>jp (fun kj75=>bnd (G14 (Gs.mk ss H) y72) fun r78=>Qu ss r78.1 fun y81=>chk ((y81.length:Int) - 1) fun v83=>bif decide (r78.2.1 < v83) then (kj75 ()) else
   (bnd (Qc order y72) fun r85=>bnd (Rj (Gs.mk ss H) order r78.1 r85) fun r86=>bif decide (0≤r86) then (need (decide ((s72.length+[(G5.mk r78.1 r86)].length)*16≤140737488355328∧s72.length+[(G5.mk r78.1 r86)].length≤maxLen)) <|
    chk (((s72++[(G5.mk r78.1 r86)]).length:Int) - 1) fun v91=>Qu (s72++[(G5.mk r78.1 r86)]) v91 fun y92=>bnd (G2d (Gs.mk ss H) y92) fun r94=>NX ((s72++[(G5.mk r78.1 r86)]),r94.1.Stacks,r94.1.Height)) else (kj75 ()))) fun(j75:Unit)=>nx72 s72)
   (fun(s72:(List G5))=>Z) l i out=(match l.find? (Gfa ss H order) with | none=>Z | some b=>NX (out++[mv (mvB ss H order b)],(Hq ss H.toNat (mv (mvB ss H order b))).1,H))
 | [],i,_=>rfl
 | b::l,i,hl=>by
  have h4:=hl b (List.mem_cons_self ..)
  have h8:=(G7f order ss).subset h4
  obtain⟨k,st,hf,h2,hk⟩:=R10 hr h8
  have h0:=J6d (H:=H) (order:=order) hf h2
  have a3:=(Ey hk).1
  have a2:=hr.len st (Ka h2)
  obtain⟨p1,p2,p3⟩:=Q7f (F:=401) (by decide) hr ho b
  have ih:=look_eq hr ho (NX:=NX) (Z:=Z) h5 l (i+1) (fun x hx=>hl x (List.mem_cons_of_mem _ hx))
  rw [each,jp,He9,G09,hf]
  dsimp only
  rw [Gcb h2]
  have h9:∀ (f:Int→Option β),chk ((st.length:Int) - 1) f=f ((st.length:Int) - 1):=fun f=>by unfold chk Jb1; rw [Ew (by omega),Ew (by omega)]; rfl
  rw [h9,List.find?_cons]
  by_cases h3:(k:Int)=(st.length:Int) - 1
  ·rw [Ex (by omega),cond_false,H86,G09,p1,G09]
   rw [Ew h3,Bool.true_and] at h0
   rw [h0]
   by_cases hp:0≤plV ss H order b
   ·rw [Ew hp,cond_true]
    have a0:Gfa ss H order b=true:=by rw [h0]; exact Ew hp
    obtain⟨a1,_⟩:=Q23 (F:=401) (by decide) hr ho h4 a0
    have h6:(out++[mv (mvB ss H order b)]).length=out.length+1:=by rw [Kj,Kk]
    have e0:(⟨(frB ss b:Int),plV ss H order b⟩:G5)=mv (mvB ss H order b):=rfl
    rw [e0]
    have h1:decide ((out.length+[mv (mvB ss H order b)].length)*16≤140737488355328∧out.length+[mv (mvB ss H order b)].length≤maxLen)=true:=Zi (by rw [Kk]; omega) (by decide)
    rw [h1]
    unfold need
    rw [cond_true]
    have h7:∀ (f:Int→Option β),chk (((out++[mv (mvB ss H order b)]).length:Int) - 1) f=f (out.length:Int):=fun f=>by rw [h6]; unfold chk Jb1; rw [Ew (by omega),Ew (by omega)]; show f _=f _; congr 1; omega
    rw [h7,Gcb (y:=mv (mvB ss H order b)) (by simp),Qfb hr,G09]
    unfold G29
    rw [if_pos a1]
   ·rw [Ex hp,cond_false]
    exact ih
  ·rw [Ew (by omega),cond_true]
   rw [Ex h3,Bool.false_and] at h0
   rw [h0]
   exact ih
end

/-! ### The rule -/
theorem Jbc {F:Nat} (hF:400 < F) {H:Int} {order:List Int} (ho:order.length≤1000000):∀ (f:Nat) {ss:List (List Int)} (out:List G9),Jz ss H→(Q0 order ss).length < f→out.length+(Q0 order ss).length≤180→∃ r:List G9×Int,(r.1.length≤180∧((r.2=360∧r.1=[]∧Q0 order ss≠[])∨(r.2=0∧∃ p t,r.1=out++p∧run H.toNat ss (p.map mv)=some t∧Q0 order t=[]∧p.length=(Q0 order ss).length))) ∧
  loop (fun nx9 (s9:(List G5)×(List (List Int))×Int)=>bnd (Y3 (Gs.mk s9.2.1 s9.2.2) order) fun r11=>bif decide ((r11.length:Int)=0) then (some (s9.1,(0:Int))) else (bnd (H53 (fun z0 z1=>R5 z0 z1 order) r11) fun r17=>
   each (fun(y72:Int) i72 (s72:(List G5)) nx72=>jp (fun kj75=>bnd (G14 (Gs.mk s9.2.1 s9.2.2) y72) fun r78=>Qu s9.2.1 r78.1 fun y81=>chk ((y81.length:Int) - 1) fun v83=>bif decide (r78.2.1 < v83) then (kj75 ()) else
    (bnd (Qc order y72) fun r85=>bnd (Rj (Gs.mk s9.2.1 s9.2.2) order r78.1 r85) fun r86=>bif decide (0≤r86) then (need (decide ((s72.length+[(G5.mk r78.1 r86)].length)*16≤140737488355328∧s72.length+[(G5.mk r78.1 r86)].length≤maxLen)) <|
     chk (((s72++[(G5.mk r78.1 r86)]).length:Int) - 1) fun v91=>Qu (s72++[(G5.mk r78.1 r86)]) v91 fun y92=>bnd (G2d (Gs.mk s9.2.1 s9.2.2) y92) fun r94=>nx9 ((s72++[(G5.mk r78.1 r86)]),r94.1.Stacks,r94.1.Height)) else (kj75 ()))) fun(j75:Unit)=>nx72 s72)
    (fun(s72:(List G5))=>some ([],(360:Int))) r17 0 s9.1)) f (out.map mv,ss,H)=some (r.1.map mv,r.2) ∧
  loop (fun nx38 (s38:(List G9)×(List (List Int))×Int)=>bnd (J2 F (Gz.mk s38.2.1 s38.2.2) order) fun r41=>bif decide (0 < (r41.length:Int)) then (bnd (Rz F (Gz.mk s38.2.1 s38.2.2) order) fun r43=>bif (!r43.2) then (some ([],(360:Int))) else
   (need (decide ((s38.1.length+[r43.1].length)*16≤140737488355328∧s38.1.length+[r43.1].length≤maxLen)) <| bnd (Q5 F (Gz.mk s38.2.1 s38.2.2) r43.1) fun r49=>nx38 ((s38.1++[r43.1]),r49.1.Stacks,r49.1.Height))) else (some (s38.1,(0:Int)))) f (out,ss,H)=some r
 | 0,ss,out,hr,hf,hl=>by omega
 | f+1,ss,out,hr,hf,hl=>by
  rw [loop,loop]
  dsimp only
  rw [Jd4 hr.all,G09,H5c F hr.all,G09,G9c]
  by_cases h0:(Q0 order ss).length=0
  ·refine⟨(out,0),⟨by dsimp only; omega,.inr ⟨rfl,[],ss,by simp,rfl,En h0,by rw [h0]; rfl⟩⟩,?_,?_⟩
   ·rw [Ew (by omega)]; rfl
   ·rw [Ex (by omega)]; rfl
  ·have h5:H53 (fun z0 z1=>R5 z0 z1 order) (G1d (Q0 order ss))=some (G82 (H03 order) (G1d (Q0 order ss))):=Qe1 (H03 order) (fun x y=>Q37 order x y) (Jd6 order) (J5c order) (by rw [G9c]; omega)
   rw [Ex (by omega),cond_false,Ew (by omega),cond_true,h5,G09,R87 hF hr ho,G09]
   rw [look_eq hr ho (by rw [Ko]; omega) _ _ (fun b hb=>((Ha9 _ _).trans (G9b _)).mem_iff.1 hb)]
   have h6:(G82 (H03 order) (G1d (Q0 order ss))).find? (Gfa ss H order)=J22 ss H order:=rfl
   rw [h6]
   have h3:=Jbb ss H order
   cases hb:J22 ss H order with
   | none=>exact⟨([],360),⟨by simp,.inl ⟨rfl,rfl,fun e=>h0 (by rw [e]; rfl)⟩⟩,rfl,rfl⟩
   | some b=>
    rw [hb] at h3
    obtain⟨h1,h2⟩:=Q23 hF hr ho h3.1 h3.2.1
    have h7:=G53 hr h1
    obtain⟨r,g1,g2,g3⟩:=Jbc hF ho f (out++[mvB ss H order b]) h7 (by omega) (by rw [Kj,Kk]; omega)
    refine⟨r,⟨g1.1,?_⟩,?_,?_⟩
    ·rcases g1.2 with ⟨k1,k2,k3⟩ | ⟨k1,p,t,k2,k3,k4,k5⟩
     ·exact .inl ⟨k1,k2,fun e=>h0 (by rw [e]; rfl)⟩
     ·refine .inr ⟨k1,mvB ss H order b::p,t,by rw [k2,List.append_assoc]; rfl,?_,k4,by rw [Kf,k5]; omega⟩
      rw [List.map_cons,run,if_pos h1]; exact k3
    ·rw [List.map_append] at g2
     exact g2
    ·dsimp only
     have h4:decide ((out.length+[mvB ss H order b].length)*16≤140737488355328∧out.length+[mvB ss H order b].length≤maxLen)=true:=Zi (by rw [Kk]; omega) (by decide)
     rw [Bool.not_true,cond_false,h4,J02 F hr]
     unfold G29
     rw [if_pos h1]
     exact g3
theorem H3e {F:Nat} (hF:400 < F) (ss:List (List Int)) (H:Int) {order:List Int} (ho:order.length≤1000000):∃ l e,Jx F ⟨ss,H⟩ order=some (l.map mv,e)∧Hx F ⟨ss,H⟩ order=some (l,e)∧l.length≤8000000∧(Re ss H order→(e=360∧l=[]∧Q0 order ss≠[])∨(e=0∧∃ t,run H.toNat ss (l.map mv)=some t∧Q0 order t=[]∧l.length=(Q0 order ss).length)):=by
 by_cases h:Re ss H order
 ·have hl:(Q0 order ss).length≤180:=Nat.le_trans (G7f order ss).length_le h.y.all
  obtain⟨r,h1,h2,h3⟩:=Jbc hF ho F (ss:=ss) [] h.y (by omega) (by rw [List.length_nil]; omega)
  refine⟨r.1,r.2,?_,?_,by omega,fun _=>h1.2.imp id fun⟨k1,p,t,k2,k3,k4,k5⟩=>⟨k1,t,by rw [k2]; exact k3,k4,by rw [k2]; exact k5⟩⟩
  ·unfold Jx
   rw [G50,if_pos h,G09,Ex (by simp),cond_false]
   exact h2
  ·unfold Hx
   rw [G6a,Ew h,G09,Bool.not_true,cond_false]
   exact h3
 ·refine⟨[],2,?_,?_,by simp,fun g=>(h g).elim⟩
  ·unfold Jx
   rw [G50,if_neg h]; rfl
  ·unfold Hx
   rw [G6a,Ex h]; rfl
end Go.Proofs.Ytokjlondbjdlfaa
