/- The rule: -/
import Derived.Test.YtokjlondbjdlfaaGreatMarP
import Derived.Test.YtokjlondbjdlfaaGreatMarP
set_option maxRecDepth 100000
set_option linter.unusedVariables false
namespace Go.Proofs.YtokjlondbjdlfaaGreat
open Go.RowKit Go.Sort Go.Shelf

/-! ### The order in which boxes are looked at -/
def Hee (x y:Int):Int:=if x < y then -1 else if y < x then 1 else 0
def Ge6 (order:List Int) (a b:Int):Int:=if Hee (rnk order b) (rnk order a)≠0 then Hee (rnk order b) (rnk order a) else Hee a b
theorem J45 (x y:Int):Z1 x y=some (Hee x y):=by
 unfold Z1 G2a Hee
 have h1:decide (x≠x)=false:=by simp
 have h2:decide (y≠y)=false:=by simp
 rw [h1,h2,G04,G04,cond_false,cond_false]
 by_cases h:x < y
 ·rw [if_pos h,Ev h]; rfl
 ·rw [if_neg h,Ew h,cond_false]
  by_cases g:y < x
  ·rw [if_pos g,Ev g]; rfl
  ·rw [if_neg g,Ew g]; rfl
theorem Jed (order:List Int) (a b:Int):Qv a b order=some (Ge6 order a b):=by
 unfold Qv Ge6 Gb1
 rw [H61,G04,H61,G04,J45,G04,J45,G04]
 generalize Hee (rnk order b) (rnk order a)=p
 generalize Hee a b=q
 simp only [each]
 by_cases h:p≠0
 ·rw [if_pos h,Ev h]; rfl
 ·rw [if_neg h,Ew h,cond_false]
  by_cases g:q≠0
  ·rw [Ev g]; rfl
  ·have g:q=0:=Classical.byContradiction g
   subst g; rfl
theorem Q35 (order:List Int) (a b:Int):ltOf (Ge6 order) a b=true ↔ rnk order b < rnk order a∨(rnk order b=rnk order a∧a < b):=by
 unfold ltOf Ge6 Hee
 rw [Km]
 by_cases h1:(rnk order b:Int) < rnk order a
 ·rw [if_pos h1,if_pos (by omega)]; omega
 ·rw [if_neg h1]
  by_cases h2:(rnk order a:Int) < rnk order b
  ·rw [if_pos h2,if_pos (by omega)]; omega
  ·rw [if_neg h2,if_neg (by omega)]
   by_cases h3:a < b
   ·rw [if_pos h3]; omega
   ·rw [if_neg h3]
    by_cases h4:b < a
    ·rw [if_pos h4]; omega
    ·rw [if_neg h4]; omega
theorem Q6a (order:List Int) (a b:Int):ltOf (Ge6 order) a b=false ↔ ¬ (rnk order b < rnk order a∨(rnk order b=rnk order a∧a < b)):=by
 rw [← Q35]; simp
theorem J98 (order:List Int):SWO (ltOf (Ge6 order)):=by
 refine⟨fun x=>?_,fun x y z h1 h2=>?_,fun x y z h1 h2=>?_⟩
 ·rw [Q6a]; omega
 ·rw [Q35] at *; omega
 ·rw [Q6a] at *; omega
theorem J24 (order:List Int):Parts (Ge6 order):=fun x y h1 h2=>by
 rw [Q6a] at *; omega
theorem Qef (order:List Int) (a b:Int):Y7 order a b=some (ltOf (Ge6 order) a b):=by
 unfold Y7
 rw [G9d,G04,G9d,G04]
 congr 1
 cases h:ltOf (Ge6 order) a b with
 | true=>rw [Q35] at h; simp only [Kt,Kk,Km]; omega
 | false=>rw [Q6a] at h; simp only [Ku,Bool.and_eq_false_iff,decide_eq_false_iff_not]; omega

/-! ### The first of those that are wanted -/
def Hda (lt:Int→Int→Bool) (p:Int→Bool) (l:List Int):Option Int→Prop
 | none=>∀ y∈l,p y=false
 | some x=>x∈l∧p x=true∧∀ y∈l,p y=true→y=x∨lt x y=true
theorem Hda.uniq {lt:Int→Int→Bool} (hO:SWO lt) {p:Int→Bool} {l:List Int}:∀ {o o':Option Int},Hda lt p l o→Hda lt p l o'→o=o'
 | none,none,_,_=>rfl
 | none,some x,h,h'=>by have:=h x h'.1; rw [h'.2.1] at this; cases this
 | some x,none,h,h'=>by have:=h' x h.1; rw [h.2.1] at this; cases this
 | some x,some y,h,h'=>by
  rcases h.2.2 y h'.1 h'.2.1 with e | e
  ·rw [e]
  ·rcases h'.2.2 x h.1 h.2.1 with g | g
   ·rw [g]
   ·have:=hO.trans x y x e g
    rw [hO.irrefl] at this; cases this
theorem Hda.perm {lt:Int→Int→Bool} {p:Int→Bool} {l l':List Int} (hp:l.Perm l'):∀ {o:Option Int},Hda lt p l o→Hda lt p l' o
 | none,h=>fun y hy=>h y (hp.mem_iff.2 hy)
 | some x,h=>⟨hp.mem_iff.1 h.1,h.2.1,fun y hy=>h.2.2 y (hp.mem_iff.2 hy)⟩
theorem J77 {lt:Int→Int→Bool} (hP:∀ x y,lt x y=false→lt y x=false→x=y) (p:Int→Bool):∀ {l:List Int},l.Pairwise (fun x y=>lt y x=false)→Hda lt p l (l.find? p)
 | [],_=>fun y hy=>by simp at hy
 | x::l,h=>by
  rw [List.pairwise_cons] at h
  have ih:=J77 hP p h.2
  rw [List.find?_cons]
  cases hx:p x with
  | true=>
   refine⟨List.mem_cons_self ..,hx,fun y hy h0=>?_⟩
   rcases Kr.1 hy with e | hy
   ·exact .inl e
   ·cases hl:lt x y with
    | true=>exact .inr rfl
    | false=>exact .inl (hP y x (h.1 y hy) hl)
  | false=>
   dsimp only
   cases hf:l.find? p with
   | none=>
    rw [hf] at ih
    intro y hy
    rcases Kr.1 hy with e | hy
    ·rw [e]; exact hx
    ·exact ih y hy
   | some z=>
    rw [hf] at ih
    refine⟨List.mem_cons_of_mem _ ih.1,ih.2.1,fun y hy h0=>?_⟩
    rcases Kr.1 hy with e | hy
    ·rw [e,hx] at h0; cases h0
    ·exact ih.2.2 y hy h0

/-! ### A box, where it stands and where it goes -/
def frB (ss:List (List Int)) (b:Int):Nat:=(G49 b ss 0).1.toNat
def plV (ss:List (List Int)) (H:Int) (order:List Int) (b:Int):Int:=(R7 ⟨ss,H⟩ order (frB ss b:Int) (rnk order b:Int)).getD 0
def Gd8 (ss:List (List Int)) (H:Int) (order:List Int) (b:Int):Bool:=decide ((G49 b ss 0).2.1=((ss.getD (frB ss b) []).length:Int) - 1)&&decide (0≤plV ss H order b)
def mvB (ss:List (List Int)) (H:Int) (order:List Int) (b:Int):G7:=⟨(frB ss b:Int),plV ss H order b⟩
section
variable {F:Nat} {ss:List (List Int)} {H:Int} {order:List Int}
theorem Q2f (hF:400 < F) (hr:Q5 ss H) (ho:order.length≤1000000) (b:Int):R7 ⟨ss,H⟩ order (frB ss b:Int) (rnk order b:Int)=some (plV ss H order b)∧Q8 F ⟨ss,H⟩ order (frB ss b:Int) b=some (plV ss H order b)∧Hbd ss H order (frB ss b) (rnk order b) (fun _=>True) (plV ss H order b):=by
 obtain⟨v,h1,h2,h3⟩:=places hF hr ho (frB ss b) b
 have:plV ss H order b=v:=by unfold plV; rw [h1]; rfl
 rw [this]
 exact⟨h1,h2,h3⟩
theorem Qbf (hr:Q5 ss H) {b:Int} (hb:b∈ss.flatten):∃ (k:Nat) (s:List Int),G49 b ss 0=((frB ss b:Int),(k:Int),true)∧ss[frB ss b]? = some s∧s[k]? = some b:=by
 obtain⟨i,k,hc⟩:=J20 hb
 unfold cellAt at hc
 obtain⟨s,hs,hk⟩:=Option.bind_eq_some_iff.1 hc
 have hf:=H18 (o:=0) hr.nodup hs hk
 have e:frB ss b=i:=by unfold frB; rw [hf]; dsimp only; omega
 refine⟨k,s,?_,by rw [e]; exact hs,hk⟩
 rw [hf,e,Nat.zero_add]
theorem J35 {b:Int} {k:Nat} {s:List Int} (hf:G49 b ss 0=((frB ss b:Int),(k:Int),true)) (hs:ss[frB ss b]? = some s):Gd8 ss H order b=(decide ((k:Int)=(s.length:Int) - 1)&&decide (0≤plV ss H order b)):=by
 unfold Gd8
 rw [List.getD_eq_getElem?_getD,hs,hf]; rfl
theorem Qd8 (order:List Int):∀ (s:List Int) (m:Nat),mnF order m s≤m
 | [],m=>Kb
 | x::s,m=>by
  have:=Qd8 order s (min m (rnk order x))
  show mnF order (min m (rnk order x)) s≤m
  omega
theorem Q68 (order:List Int):∀ (s:List Int) (m m':Nat),m≤m'→mnF order m s=min m (mnF order m' s)
 | [],m,m',h=>by show m=min m m'; omega
 | x::s,m,m',h=>by
  have e:=Q68 order s (min m (rnk order x)) (min m' (rnk order x)) (by omega)
  have h1:=Qd8 order s (min m' (rnk order x))
  show mnF order (min m (rnk order x)) s=min m (mnF order (min m' (rnk order x)) s)
  omega
theorem J8b {v s:List Int}:∀ {ss:List (List Int)} {i:Nat},ss[i]? = some s→(Qj order (ss.set i v)).length+(G44 order order.length s).length=(Qj order ss).length+(G44 order order.length v).length
 | x::ss,0,h=>by
  simp at h; subst h
  rw [List.set_cons_zero]
  show (G44 order order.length v++Qj order ss).length+_=(G44 order order.length x++Qj order ss).length+_
  rw [Ki,Ki]; omega
 | x::ss,i+1,h=>by
  have ih:=J8b (v:=v) (ss:=ss) (i:=i) (by simpa using h)
  rw [List.set_cons_succ]
  show (G44 order order.length x++Qj order (ss.set i v)).length+_=(G44 order order.length x++Qj order ss).length+_
  rw [Ki,Ki]; omega
 | [],i,h=>by simp at h
theorem Jdd (hF:400 < F) (hr:Q5 ss H) (ho:order.length≤1000000) {b:Int} (hw:b∈Qj order ss) (hc:Gd8 ss H order b=true):(Hn ss H.toNat (mv (mvB ss H order b))).2=0∧(Qj order (Hn ss H.toNat (mv (mvB ss H order b))).1).length+1=(Qj order ss).length:=by
 -- the stack in which it is in the way
 unfold Qj at hw
 obtain⟨s,hs,h2⟩:=List.mem_flatMap.1 hw
 have h5:b∈s:=(Gf1 order s _).subset h2
 obtain⟨i,hi⟩:=List.mem_iff_getElem?.1 hs
 obtain⟨k,hk⟩:=List.mem_iff_getElem?.1 h5
 have hf:=H18 (o:=0) hr.nodup hi hk
 have ei:frB ss b=i:=by unfold frB; rw [hf]; dsimp only; omega
 rw [Nat.zero_add] at hf
 have h9:ss[frB ss b]? = some s:=by rw [ei]; exact hi
 rw [J35 (k:=k) (by rw [hf,ei]) h9,Kk,Km,Km] at hc
 obtain⟨a5,a6⟩:=hc
 obtain⟨_,_,hB⟩:=Q2f hF hr ho b
 rcases hB with ⟨h1,_⟩ | ⟨t,T,ht,_,hT,⟨a0,a2,a3⟩,_⟩
 ·omega
 -- it is the last one
 have a7:=(Ex hk).1
 have h3:s≠[]:=List.ne_nil_of_mem h5
 have h4:s.getLast h3=b:=by
  have:s[s.length - 1]? = some b:=by rw [show s.length - 1=k by omega]; exact hk
  rw [← List.getLast?_eq_getElem?] at this
  rw [List.getLast?_eq_some_getLast h3] at this
  exact Ez this
 have h0:s=s.dropLast++[b]:=by rw [← h4,List.dropLast_concat_getLast]
 generalize ha:s.dropLast=a at h0
 have a4:=hr.low
 have c:Can ss H.toNat (mv (mvB ss H order b)) i t a T b:=⟨by show ((frB ss b:Nat):Int)=i; rw [ei],ht,by rw [← ei]; exact Ne.symm a0,by rw [← h0]; exact hi,hT,by omega⟩
 rw [c.eq]
 refine⟨rfl,?_⟩
 have h6:s.Nodup:=by
  have:=hr.nodup
  obtain⟨p,q,e⟩:=List.append_of_mem hs
  rw [e,List.flatten_append,List.flatten_cons] at this
  exact(List.nodup_append.1 (List.nodup_append.1 this).2.1).1
 have a1:b ∉ a:=fun h=>by
  rw [h0] at h6
  exact(List.nodup_append.1 h6).2.2 b h b (by simp) rfl
 have w1:G44 order order.length s=G44 order order.length a++[b]:=by
  rw [h0,G0f]
  rw [h0,G0f] at h2
  by_cases h7:mnF order order.length a < rnk order b
  ·rw [if_pos h7]
  ·rw [if_neg h7,List.append_nil] at h2
   exact absurd ((Gf1 order a _).subset h2) a1
 have w2:G44 order order.length (T++[b])=G44 order order.length T:=by
  rw [G0f,if_neg,List.append_nil]
  have e1:=Q68 order T order.length (order.length+1) (by omega)
  have e2:mnF order (order.length+1) T=mnL order T:=rfl
  have:=Q29 order b
  omega
 have h8:(ss.set t (T++[b]))[i]? = some s:=by rw [List.getElem?_set_ne (Ne.symm c.ne)]; exact hi
 have l1:=J8b (order:=order) (v:=a) h8
 have l2:=J8b (order:=order) (v:=T++[b]) hT
 rw [w2] at l2
 rw [w1,Ki,Kj] at l1
 show (Qj order ((ss.set t (T++[b])).set i a)).length+1=_
 omega
end

/-! ### The next move -/
def Hf1 (ss:List (List Int)) (H:Int) (order:List Int):Option Int:=(G71 (Ge6 order) (G11 (Qj order ss))).find? (Gd8 ss H order)
theorem J7f (ss:List (List Int)) (H:Int) (order:List Int):Hda (ltOf (Ge6 order)) (Gd8 ss H order) (Qj order ss) (Hf1 ss H order):=
 Hda.perm ((H81 _ _).trans (G87 _)) (J77 (J24 order) _ (J8f _ (J98 order) _))
section
variable {F:Nat} {ss:List (List Int)} {H:Int} {order:List Int}
theorem R38 (hF:400 < F) (hr:Q5 ss H) (ho:order.length≤1000000):Rq F ⟨ss,H⟩ order=some (match Hf1 ss H order with | none=>(⟨0,0⟩,false) | some b=>(mvB ss H order b,true)):=by
 refine Y1 ?_
 unfold Rq
 refine Gg (H3a F hr.all) ?_
 have h3:∀ b∈Qj order ss,b∈ss.flatten:=fun b hb=>(G95 order ss).subset hb
 refine Qd (fun pre s=>∃ o,Hda (ltOf (Ge6 order)) (Gd8 ss H order) pre o∧s=(match o with | none=>((0:Int),(0:Int),(0:Int)) | some b=>(b,(mvB ss H order b).From,(mvB ss H order b).To))∧∀ b,o=some b→b∈Qj order ss) ⟨none,fun y hy=>by simp at hy,rfl,fun b h=>by cases h⟩ (fun pre b post s nx e hI a3=>?_) (fun s hI=>Hy ?_)
 ·obtain⟨o,hP,hs,h1⟩:=hI
  have h8:b∈Qj order ss:=by rw [e]; simp
  have h9:=h3 b h8
  obtain⟨k,st,hf,h5,hk⟩:=Qbf hr h9
  have a0:=J35 (H:=H) (order:=order) hf h5
  have a4:=(hr.ids b h9).1
  have a6:=hr.len st (K0 h5)
  obtain⟨p1,p2,p3⟩:=Q2f (F:=F) hF hr ho b
  -- nothing changes
  have stay:(Gd8 ss H order b=true→∃ x,o=some x∧ltOf (Ge6 order) b x=false)→∀ K:Int×Int×Int→Option (G7×Bool),(∀ a,(∃ o,Hda (ltOf (Ge6 order)) (Gd8 ss H order) (pre++[b]) o∧a=(match o with | none=>((0:Int),(0:Int),(0:Int)) | some b=>(b,(mvB ss H order b).From,(mvB ss H order b).To))∧∀ b,o=some b→b∈Qj order ss)→Wp (K a) (·=(match Hf1 ss H order with | none=>((⟨0,0⟩:G7),false) | some b=>(mvB ss H order b,true))))→Wp (K (s.1,s.2.1,s.2.2)) (·=(match Hf1 ss H order with | none=>((⟨0,0⟩:G7),false) | some b=>(mvB ss H order b,true))):=fun a1 K hK=>hK _ ⟨o,by
   cases o with
   | none=>
    intro y hy
    rcases Ko.1 hy with hy | hy
    ·exact hP y hy
    ·rw [Kq] at hy; subst hy
     cases hq:Gd8 ss H order y with
     | false=>rfl
     | true=>obtain⟨x,h,_⟩:=a1 hq; cases h
   | some x=>
    refine⟨Ko.2 (.inl hP.1),hP.2.1,fun y hy h2=>?_⟩
    rcases Ko.1 hy with hy | hy
    ·exact hP.2.2 y hy h2
    ·rw [Kq] at hy; subst hy
     obtain⟨x',h,hl⟩:=a1 h2
     cases h
     cases hq:ltOf (Ge6 order) x y with
     | true=>exact .inr rfl
     | false=>exact .inl (J24 order y x hl hq),by rw [hs],h1⟩
  refine H69 (fun a=>∃ o,Hda (ltOf (Ge6 order)) (Gd8 ss H order) (pre++[b]) o∧a=(match o with | none=>((0:Int),(0:Int),(0:Int)) | some b=>(b,(mvB ss H order b).From,(mvB ss H order b).To))∧∀ b,o=some b→b∈Qj order ss) (fun K hK=>?_) (fun a ha=>a3 _ ha)
  refine Gg (Je4 F ss H b) ?_
  rw [hf]
  refine Qf rfl h5 (Qh (by omega) ?_)
  by_cases h0:(k:Int)≠(st.length:Int) - 1
  ·have hd:decide ((k:Int)≠(st.length:Int) - 1)=true:=Ev h0
   dsimp only
   rw [hd]
   refine R55 rfl (J0 (fun _=>stay (fun hq=>?_) K hK) (fun h=>by simp at h))
   rw [a0,Kk,Km] at hq
   exact absurd hq.1 h0
  ·have hd:decide ((k:Int)≠(st.length:Int) - 1)=false:=Ew h0
   have h7:(k:Int)=(st.length:Int) - 1:=Classical.byContradiction h0
   dsimp only
   rw [hd]
   have h6:Gd8 ss H order b=decide (0≤plV ss H order b):=by rw [a0,Ev h7,Bool.true_and]
   -- the place, and what then
   have go:(∀ x,o=some x→ltOf (Ge6 order) b x=true)→Wp (bnd (Q8 F ⟨ss,H⟩ order (frB ss b:Int) b) fun r131=>bif decide (0≤r131) then (K (b,(frB ss b:Int),r131)) else (K (s.1,s.2.1,s.2.2))) (·=(match Hf1 ss H order with | none=>((⟨0,0⟩:G7),false) | some b=>(mvB ss H order b,true))):=fun a5=>by
    refine Gg p2 (J0 (fun hp=>hK _ ⟨some b,⟨Ko.2 (.inr (Kq.2 rfl)),by rw [h6]; exact hp,fun y hy h2=>?_⟩,rfl,fun z hz=>by cases hz; exact h8⟩) (fun hp=>stay (fun hq=>?_) K hK))
    ·rcases Ko.1 hy with hy | hy
     ·cases o with
      | none=>have:=hP y hy; rw [h2] at this; cases this
      | some x=>
       have a2:=a5 x rfl
       rcases hP.2.2 y hy h2 with h | h
       ·rw [h]; exact .inr a2
       ·exact .inr ((J98 order).trans b x y a2 h)
     ·rw [Kq] at hy; exact .inl hy
    ·rw [h6,hp] at hq; cases hq
   cases o with
   | none=>
    have h4:s.1=0:=by rw [hs]
    have hz:decide (0 < s.1)=false:=Ew (by omega)
    rw [hz]
    exact R55 rfl (J0 (fun h=>by simp at h) (fun _=>go fun x h=>by cases h))
   | some x=>
    have h4:s.1=x:=by rw [hs]
    have a7:=(hr.ids x (h3 x (h1 x rfl))).1
    have hz:decide (0 < s.1)=true:=Ev (by omega)
    rw [hz,h4]
    refine Zm rfl (Qef order b x) ?_
    cases hl:ltOf (Ge6 order) b x with
    | true=>exact J0 (fun h=>by simp at h) (fun _=>by rw [← h4]; exact go fun x' h=>by cases h; exact hl)
    | false=>exact J0 (fun _=>by rw [← h4]; exact stay (fun _=>⟨x,rfl,hl⟩) K hK) (fun h=>by simp at h)
 ·obtain⟨o,hP,hs,h1⟩:=hI
  have:=Hda.uniq (J98 order) hP (J7f ss H order)
  subst this
  cases hb:Hf1 ss H order with
  | none=>rw [hb] at hs; rw [hs]; rfl
  | some b=>
   rw [hb] at hs h1
   have a4:=(hr.ids b (h3 b (h1 b rfl))).1
   rw [hs]
   dsimp only
   rw [Ev (by omega)]
theorem Qac (hr:Q5 ss H) (m:G2):G25 ⟨ss,H⟩ m=some (⟨(G22 ss H m).1,(G22 ss H m).2.1⟩,(G22 ss H m).2.2):=by
 unfold G25 G22
 rw [Gf7,G04,Ev hr,Bool.not_true,cond_false,Qf3 hr]
 by_cases h:(Hn ss H.toNat m).2=0
 ·simp only [if_pos h,need,cond_true]; rw [h]
 ·simp only [if_neg h,need,cond_true]
theorem look_eq {β:Type} (hr:Q5 ss H) (ho:order.length≤1000000) {NX:(List G2)×(List (List Int))×Int→Option β} {Z:Option β} {out:List G2} (h5:out.length≤200):∀ (l:List Int) (i:Nat),(∀ b∈l,b∈Qj order ss) →
  each (fun(y72:Int) i72 (s72:(List G2)) nx72=>jp (fun kj75=>bnd (G06 (Gh.mk ss H) y72) fun r78=>Qx ss r78.1 fun y81=>chk ((y81.length:Int) - 1) fun v83=>bif decide (r78.2.1 < v83) then (kj75 ()) else
   (bnd (Q6 order y72) fun r85=>bnd (R7 (Gh.mk ss H) order r78.1 r85) fun r86=>bif decide (0≤r86) then (need (decide ((s72.length+[(G2.mk r78.1 r86)].length)*16≤140737488355328∧s72.length+[(G2.mk r78.1 r86)].length≤maxLen)) <|
    chk (((s72++[(G2.mk r78.1 r86)]).length:Int) - 1) fun v91=>Qx (s72++[(G2.mk r78.1 r86)]) v91 fun y92=>bnd (G25 (Gh.mk ss H) y92) fun r94=>NX ((s72++[(G2.mk r78.1 r86)]),r94.1.Stacks,r94.1.Height)) else (kj75 ()))) fun(j75:Unit)=>nx72 s72)
   (fun(s72:(List G2))=>Z) l i out=(match l.find? (Gd8 ss H order) with | none=>Z | some b=>NX (out++[mv (mvB ss H order b)],(Hn ss H.toNat (mv (mvB ss H order b))).1,H))
 | [],i,_=>rfl
 | b::l,i,hl=>by
  have h4:=hl b (List.mem_cons_self ..)
  have h8:=(G95 order ss).subset h4
  obtain⟨k,st,hf,h2,hk⟩:=Qbf hr h8
  have h0:=J35 (H:=H) (order:=order) hf h2
  have a3:=(Ex hk).1
  have a2:=hr.len st (K0 h2)
  obtain⟨p1,p2,p3⟩:=Q2f (F:=401) (by decide) hr ho b
  have ih:=look_eq hr ho (NX:=NX) (Z:=Z) h5 l (i+1) (fun x hx=>hl x (List.mem_cons_of_mem _ hx))
  rw [each,jp,Hff,G04,hf]
  dsimp only
  rw [Gad h2]
  have h9:∀ (f:Int→Option β),chk ((st.length:Int) - 1) f=f ((st.length:Int) - 1):=fun f=>by unfold chk J75; rw [Ev (by omega),Ev (by omega)]; rfl
  rw [h9,List.find?_cons]
  by_cases h3:(k:Int)=(st.length:Int) - 1
  ·rw [Ew (by omega),cond_false,H61,G04,p1,G04]
   rw [Ev h3,Bool.true_and] at h0
   rw [h0]
   by_cases hp:0≤plV ss H order b
   ·rw [Ev hp,cond_true]
    have a0:Gd8 ss H order b=true:=by rw [h0]; exact Ev hp
    obtain⟨a1,_⟩:=Jdd (F:=401) (by decide) hr ho h4 a0
    have h6:(out++[mv (mvB ss H order b)]).length=out.length+1:=by rw [Ki,Kj]
    have e0:(⟨(frB ss b:Int),plV ss H order b⟩:G2)=mv (mvB ss H order b):=rfl
    rw [e0]
    have h1:decide ((out.length+[mv (mvB ss H order b)].length)*16≤140737488355328∧out.length+[mv (mvB ss H order b)].length≤maxLen)=true:=Zt (by rw [Kj]; omega) (by decide)
    rw [h1]
    unfold need
    rw [cond_true]
    have h7:∀ (f:Int→Option β),chk (((out++[mv (mvB ss H order b)]).length:Int) - 1) f=f (out.length:Int):=fun f=>by rw [h6]; unfold chk J75; rw [Ev (by omega),Ev (by omega)]; show f _=f _; congr 1; omega
    rw [h7,Gad (y:=mv (mvB ss H order b)) (by simp),Qac hr,G04]
    unfold G22
    rw [if_pos a1]
   ·rw [Ew hp,cond_false]
    exact ih
  ·rw [Ev (by omega),cond_true]
   rw [Ew h3,Bool.false_and] at h0
   rw [h0]
   exact ih
end

/-! ### The rule -/
theorem J80 {F:Nat} (hF:400 < F) {H:Int} {order:List Int} (ho:order.length≤1000000):∀ (f:Nat) {ss:List (List Int)} (out:List G7),Q5 ss H→(Qj order ss).length < f→out.length+(Qj order ss).length≤180→∃ r:List G7×Int,(r.1.length≤180∧((r.2=360∧r.1=[]∧Qj order ss≠[])∨(r.2=0∧∃ p t,r.1=out++p∧run H.toNat ss (p.map mv)=some t∧Qj order t=[]∧p.length=(Qj order ss).length))) ∧
  loop (fun nx9 (s9:(List G2)×(List (List Int))×Int)=>bnd (Ru (Gh.mk s9.2.1 s9.2.2) order) fun r11=>bif decide ((r11.length:Int)=0) then (some (s9.1,(0:Int))) else (bnd (H32 (fun z0 z1=>Qv z0 z1 order) r11) fun r17=>
   each (fun(y72:Int) i72 (s72:(List G2)) nx72=>jp (fun kj75=>bnd (G06 (Gh.mk s9.2.1 s9.2.2) y72) fun r78=>Qx s9.2.1 r78.1 fun y81=>chk ((y81.length:Int) - 1) fun v83=>bif decide (r78.2.1 < v83) then (kj75 ()) else
    (bnd (Q6 order y72) fun r85=>bnd (R7 (Gh.mk s9.2.1 s9.2.2) order r78.1 r85) fun r86=>bif decide (0≤r86) then (need (decide ((s72.length+[(G2.mk r78.1 r86)].length)*16≤140737488355328∧s72.length+[(G2.mk r78.1 r86)].length≤maxLen)) <|
     chk (((s72++[(G2.mk r78.1 r86)]).length:Int) - 1) fun v91=>Qx (s72++[(G2.mk r78.1 r86)]) v91 fun y92=>bnd (G25 (Gh.mk s9.2.1 s9.2.2) y92) fun r94=>nx9 ((s72++[(G2.mk r78.1 r86)]),r94.1.Stacks,r94.1.Height)) else (kj75 ()))) fun(j75:Unit)=>nx72 s72)
    (fun(s72:(List G2))=>some ([],(360:Int))) r17 0 s9.1)) f (out.map mv,ss,H)=some (r.1.map mv,r.2) ∧
  loop (fun nx38 (s38:(List G7)×(List (List Int))×Int)=>bnd (J1 F (Gs.mk s38.2.1 s38.2.2) order) fun r41=>bif decide (0 < (r41.length:Int)) then (bnd (Rq F (Gs.mk s38.2.1 s38.2.2) order) fun r43=>bif (!r43.2) then (some ([],(360:Int))) else
   (need (decide ((s38.1.length+[r43.1].length)*16≤140737488355328∧s38.1.length+[r43.1].length≤maxLen)) <| bnd (Jx F (Gs.mk s38.2.1 s38.2.2) r43.1) fun r49=>nx38 ((s38.1++[r43.1]),r49.1.Stacks,r49.1.Height))) else (some (s38.1,(0:Int)))) f (out,ss,H)=some r
 | 0,ss,out,hr,hf,hl=>by omega
 | f+1,ss,out,hr,hf,hl=>by
  rw [loop,loop]
  dsimp only
  rw [J96 hr.all,G04,H3a F hr.all,G04,Gb3]
  by_cases h0:(Qj order ss).length=0
  ·refine⟨(out,0),⟨by dsimp only; omega,.inr ⟨rfl,[],ss,by simp,rfl,Em h0,by rw [h0]; rfl⟩⟩,?_,?_⟩
   ·rw [Ev (by omega)]; rfl
   ·rw [Ew (by omega)]; rfl
  ·have h5:H32 (fun z0 z1=>Qv z0 z1 order) (G11 (Qj order ss))=some (G71 (Ge6 order) (G11 (Qj order ss))):=Q91 (Ge6 order) (fun x y=>Jed order x y) (J98 order) (J24 order) (by rw [Gb3]; omega)
   rw [Ew (by omega),cond_false,Ev (by omega),cond_true,h5,G04,R38 hF hr ho,G04]
   rw [look_eq hr ho (by rw [Kn]; omega) _ _ (fun b hb=>((H81 _ _).trans (G87 _)).mem_iff.1 hb)]
   have h6:(G71 (Ge6 order) (G11 (Qj order ss))).find? (Gd8 ss H order)=Hf1 ss H order:=rfl
   rw [h6]
   have h3:=J7f ss H order
   cases hb:Hf1 ss H order with
   | none=>exact⟨([],360),⟨by simp,.inl ⟨rfl,rfl,fun e=>h0 (by rw [e]; rfl)⟩⟩,rfl,rfl⟩
   | some b=>
    rw [hb] at h3
    obtain⟨h1,h2⟩:=Jdd hF hr ho h3.1 h3.2.1
    have h7:=G72 hr h1
    obtain⟨r,g1,g2,g3⟩:=J80 hF ho f (out++[mvB ss H order b]) h7 (by omega) (by rw [Ki,Kj]; omega)
    refine⟨r,⟨g1.1,?_⟩,?_,?_⟩
    ·rcases g1.2 with ⟨k1,k2,k3⟩ | ⟨k1,p,t,k2,k3,k4,k5⟩
     ·exact .inl ⟨k1,k2,fun e=>h0 (by rw [e]; rfl)⟩
     ·refine .inr ⟨k1,mvB ss H order b::p,t,by rw [k2,List.append_assoc]; rfl,?_,k4,by rw [Ke,k5]; omega⟩
      rw [List.map_cons,run,if_pos h1]; exact k3
    ·rw [List.map_append] at g2
     exact g2
    ·dsimp only
     have h4:decide ((out.length+[mvB ss H order b].length)*16≤140737488355328∧out.length+[mvB ss H order b].length≤maxLen)=true:=Zt (by rw [Kj]; omega) (by decide)
     rw [Bool.not_true,cond_false,h4,Hd8 F hr]
     unfold G22
     rw [if_pos h1]
     exact g3
theorem H1d {F:Nat} (hF:400 < F) (ss:List (List Int)) (H:Int) {order:List Int} (ho:order.length≤1000000):∃ l e,Q0 F ⟨ss,H⟩ order=some (l.map mv,e)∧He F ⟨ss,H⟩ order=some (l,e)∧l.length≤8000000∧(Z5 ss H order→(e=360∧l=[]∧Qj order ss≠[])∨(e=0∧∃ t,run H.toNat ss (l.map mv)=some t∧Qj order t=[]∧l.length=(Qj order ss).length)):=by
 by_cases h:Z5 ss H order
 ·have hl:(Qj order ss).length≤180:=Nat.le_trans (G95 order ss).length_le h.y.all
  obtain⟨r,h1,h2,h3⟩:=J80 hF ho F (ss:=ss) [] h.y (by omega) (by rw [List.length_nil]; omega)
  refine⟨r.1,r.2,?_,?_,by omega,fun _=>h1.2.imp id fun⟨k1,p,t,k2,k3,k4,k5⟩=>⟨k1,t,by rw [k2]; exact k3,k4,by rw [k2]; exact k5⟩⟩
  ·unfold Q0
   rw [Ga0,if_pos h,G04,Ew (by simp),cond_false]
   exact h2
  ·unfold He
   rw [G26,Ev h,G04,Bool.not_true,cond_false]
   exact h3
 ·refine⟨[],2,?_,?_,by simp,fun g=>(h g).elim⟩
  ·unfold Q0
   rw [Ga0,if_neg h]; rfl
  ·unfold He
   rw [G26,Ew h]; rfl
end Go.Proofs.YtokjlondbjdlfaaGreat
