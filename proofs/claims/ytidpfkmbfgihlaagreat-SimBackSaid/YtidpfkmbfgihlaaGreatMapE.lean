/-
 Maps from which entries are deleted: looked into,written,deleted from.
-/
import Derived.Test.YtidpfkmbfgihlaaGreatMapD
namespace Go.Proofs.YtidpfkmbfgihlaaGreat
open Go.RowKit

theorem Jd5:∀ {es:List (Value×AV)} {vals:List Value} {i j:Nat} {p0:Value×AV} (k:Value) (u:AV) (x:Value),es[j]? = some p0→isT p0.2=false→isT u=false →
  Qm i (es.set j (k,u)) (vals.set j x)=(Qm i es vals).map (fun e=>if e.born=i+j then { e with key:=k,val:=x } else e)
 | [],vals,i,j,p0,k,u,x,h,_,_=>by simp at h
 | p::es,[],i,j,p0,k,u,x,h,_,_=>by cases j <;> simp [Qm]
 | p::es,v::vs,i,0,p0,k,u,x,h,h0,hu=>by
  simp at h; subst h
  have key:(Qm (i+1) es vs).map (fun e=>if e.born=i+0 then { e with key:=k,val:=x } else e)=Qm (i+1) es vs:=by
   conv=>rhs; rw [← List.map_id (Qm (i+1) es vs)]
   refine List.map_congr_left fun e he=>?_
   have:=(J3e he).1
   rw [if_neg (by omega)]; rfl
  simp only [List.set_cons_zero,Qm,h0,hu,Bool.false_eq_true,if_false,List.map_cons,Nat.add_zero,if_true]
  rw [Nat.add_zero] at key
  rw [key]
 | p::es,v::vs,i,j+1,p0,k,u,x,h,h0,hu=>by
  have ih:=Jd5 (es:=es) (vals:=vs) (i:=i+1) (j:=j) k u x (by simpa using h) h0 hu
  have e1:i+1+j=i+(j+1):=by omega
  rw [e1] at ih
  cases hp:isT p.2 with
  | true=>simp only [List.set_cons_succ,Qm,hp,if_true]; exact ih
  | false=>
   simp only [List.set_cons_succ,Qm,hp,Bool.false_eq_true,if_false,List.map_cons]
   rw [ih,if_neg (show ¬ i=i+(j+1) by omega)]

section typed
variable {P:Program} {κ ν:Type} [DecidableEq κ] {kv:κ→Value} {av:ν→AV} {L:Loc}
omit [DecidableEq κ] in
theorem Z06 {l:List (Option (κ×ν))} {j:Nat} {k:Value} {u:AV} (h:(tOf kv av l)[j]? = some (k,u)) (hu:isT u=false):∃ p:κ×ν,l[j]? = some (some p)∧k=kv p.1∧u=av p.2:=by
 rw [tOf,List.getElem?_map] at h
 cases hl:l[j]? with
 | none=>rw [hl] at h; cases h
 | some o=>
  rw [hl] at h
  cases o with
  | none=>simp at h; obtain⟨_,rfl⟩:=h; cases hu
  | some p=>simp at h; exact⟨p,rfl,h.1.symm,h.2.symm⟩
omit [DecidableEq κ] in
theorem Hd9 {l:List (Option (κ×ν))} {j:Nat} {p:κ×ν} (h:l[j]? = some (some p)):(tOf kv av l)[j]? = some (kv p.1,av p.2):=by rw [tOf,List.getElem?_map,h]; rfl
omit [DecidableEq κ] in
theorem H19 (l:List (Option (κ×ν))):(tOf kv av l).length=l.length:=by simp [tOf]
theorem R40 {l:List (Option (κ×ν))} (hn:((l.filterMap id).map (·.1)).Nodup) {q:Nat} {a:κ} {v0:ν} (v:ν) (h:l[q]? = some (some (a,v0))):R14 l a v=l.set q (some (a,v)):=by
 obtain⟨h1,_,h3⟩:=H4b hn h
 unfold R14
 rw [if_pos h3]
 apply List.ext_getElem?
 intro j
 rw [List.getElem?_map,List.getElem?_set]
 by_cases e:q=j
 ·subst e
  have hlt:=(List.getElem?_eq_some_iff.1 h).1
  rw [if_pos rfl,if_pos hlt,h]; simp
 ·rw [if_neg e]
  cases hj:l[j]? with
  | none=>rfl
  | some o=>
   cases o with
   | none=>rfl
   | some p=>
    obtain⟨b,u⟩:=p
    by_cases e2:b=a
    ·subst e2
     have:=(H4b hn hj).1
     omega
    ·simp [e2]
theorem Y77 {l:List (Option (κ×ν))} (hn:((l.filterMap id).map (·.1)).Nodup) {q:Nat} {a:κ} {v0:ν} (h:l[q]? = some (some (a,v0))):Rd9 l a=l.set q none:=by
 obtain⟨h1,_,h3⟩:=H4b hn h
 unfold Rd9
 apply List.ext_getElem?
 intro j
 rw [List.getElem?_map,List.getElem?_set]
 by_cases e:q=j
 ·subst e
  have hlt:=(List.getElem?_eq_some_iff.1 h).1
  rw [if_pos rfl,if_pos hlt,h]; simp
 ·rw [if_neg e]
  cases hj:l[j]? with
  | none=>rfl
  | some o=>
   cases o with
   | none=>rfl
   | some p=>
    obtain⟨b,u⟩:=p
    by_cases e2:b=a
    ·subst e2
     have:=(H4b hn hj).1
     omega
    ·simp [e2]
theorem Ybe {l:List (Option (κ×ν))} {a:κ} (h:∀ p∈l.filterMap id,p.1≠a):Rd9 l a=l:=by
 unfold Rd9
 conv=>rhs; rw [← List.map_id l]
 refine List.map_congr_left fun o ho=>?_
 cases o with
 | none=>rfl
 | some p=>
  have:=h p (List.mem_filterMap.2 ⟨_,ho,rfl⟩)
  simp [this]
omit [DecidableEq κ] in
theorem Q87 {w:World} {S:Nat→Nat→Prop} {l:List (Option (κ×ν))} {vals:List Value} (hD:∀ (i:Nat) k u v,(tOf kv av l)[i]? = some (k,u)→vals[i]? = some v→isT u=false→D w S u v) {e:MapEntry} (hm:e∈Qm 0 (tOf kv av l) vals) :
  ∃ p:κ×ν,l[e.born]? = some (some p)∧e.key=kv p.1∧vals[e.born]? = some e.val∧D w S (av p.2) e.val:=by
 obtain⟨j,p,v,h1,h2,h3,rfl⟩:=H6f.1 hm
 obtain⟨k,u⟩:=p
 obtain⟨p,g1,rfl,rfl⟩:=Z06 h1 h3
 simp only [Nat.zero_add]
 exact⟨p,g1,rfl,h2,hD j _ _ v h1 h2 h3⟩
omit [DecidableEq κ] in
theorem J44 {w:World} {S:Nat→Nat→Prop} {K:Nat} {l:List (Option (κ×ν))} (hk:Gd3 P K kv) (hav:∀ x,isT (av x)=false) {vals:List Value} {He:Array MapEntry} (hlen:vals.length=(tOf kv av l).length) (he:He=(Qm 0 (tOf kv av l) vals).toArray)
  (hD:∀ (i:Nat) k u v,(tOf kv av l)[i]? = some (k,u)→vals[i]? = some v→isT u=false→D w S u v) (a:κ) :
  ((Instr.findKey K (kv a) He.toList).run P w=.ok none w∧(∀ p∈l.filterMap id,p.1≠a))∨∃ j q e v,(Instr.findKey K (kv a) He.toList).run P w=.ok (some (j,e.val)) w∧He[j]? = some e∧(Qm 0 (tOf kv av l) vals)[j]? = some e∧e.born=q∧e.key=kv a∧l[q]? = some (some (a,v))∧vals[q]? = some e.val∧D w S (av v) e.val:=by
 have hl:He.toList=Qm 0 (tOf kv av l) vals:=by rw [he]
 rcases hk.find w a (Qm 0 (tOf kv av l) vals) (fun e hm=>by obtain⟨p,_,h,_⟩:=Q87 hD hm; exact⟨p.1,h⟩) with ⟨h1,h2⟩ | ⟨j,e,h1,h2,h3⟩
 ·refine .inl ⟨by rw [hl]; exact h1,fun p hp e=>?_⟩
  obtain⟨o,ho,rfl⟩:∃ o,o∈l∧o=some p:=by
   obtain⟨o,ho,e⟩:=List.mem_filterMap.1 hp
   exact⟨o,ho,e⟩
  obtain⟨q,hq,e2⟩:=List.mem_iff_getElem.1 ho
  have hg:l[q]? = some (some p):=by rw [List.getElem?_eq_getElem hq,e2]
  have hvq:q < vals.length:=by rw [hlen,H19]; exact hq
  have hmem:(⟨kv p.1,vals[q],0+q⟩:MapEntry)∈Qm 0 (tOf kv av l) vals:=H6f.2 ⟨q,(kv p.1,av p.2),vals[q],Hd9 hg,by simp [hvq],hav p.2,rfl⟩
  exact h2 _ hmem (by rw [← e])
 ·have hm:=List.mem_of_getElem? h2
  obtain⟨p,g1,g2,g3,g4⟩:=Q87 hD hm
  have ha:p.1=a:=hk.inj _ _ (g2.symm.trans h3)
  obtain⟨pa,pv⟩:=p
  simp only at ha; subst ha
  exact .inr ⟨j,e.born,e,pv,by rw [hl]; exact h1,by rw [he]; simpa using h2,h2,rfl,h3,g1,g3,g4⟩
def TP (T:Nat) (kv:κ→Value) (av:ν→AV) (m:Gt κ ν):Jh:=.map (1000000+T) (tOf kv av m.l)
theorem Y99 (T:Nat):Nat.blt (1000000+T) 1000000=false:=by
 rw [Bool.eq_false_iff]; intro h
 rw [Nat.blt_eq] at h; omega
omit [DecidableEq κ] in
theorem Ja2 {w:World} {β:H4} {i b T:Nat} {m:Gt κ ν} (hsat:Sat w β L) (hi:lk L i=some (TP T kv av m)) (hb:β i=some b) :
  ∃ (vals:List Value) (He:Array MapEntry),vals.length=(tOf kv av m.l).length∧He=(Qm 0 (tOf kv av m.l) vals).toArray∧w.heap[b]? = some (.map He m.l.length) ∧
   ∀ (i:Nat) k u v,(tOf kv av m.l)[i]? = some (k,u)→vals[i]? = some v→isT u=false→D w (Jt w β L) u v:=by
 obtain⟨b',hb',h⟩:=hsat.obj i _ hi
 rw [hb] at hb'; cases hb'
 rcases h with ⟨h,_⟩ | ⟨_,vals,h1,h2,h3⟩
 ·rw [Y99] at h; cases h
 ·exact⟨vals,_,h1,rfl,by rw [← H19 (kv:=kv) (av:=av)]; exact h2,h3⟩
def DM (kv:κ→Value) (av:ν→AV) (m:Gt κ ν):AV:=.dmap (tOf kv av m.l)
inductive R33 (L:Loc) (kv:κ→Value) (av:ν→AV) (m:Gt κ ν):AV→Prop
 | own {i T:Nat} (h:lk L i=some (TP T kv av m)):R33 L kv av m (.mp i)
 | data:R33 L kv av m (DM kv av m)
omit [DecidableEq κ] in
theorem D.tmap {w:World} {S:Nat→Nat→Prop} {m:Gt κ ν} {v:Value} (h:D w S (DM kv av m) v):∃ (b:Nat) (vals:List Value) (He:Array MapEntry),v=.map (some b)∧vals.length=(tOf kv av m.l).length∧He=(Qm 0 (tOf kv av m.l) vals).toArray∧w.heap[b]? = some (.map He m.l.length) ∧
   ∀ (i:Nat) k u v,(tOf kv av m.l)[i]? = some (k,u)→vals[i]? = some v→isT u=false→D w S u v:=by
 unfold DM at h
 cases h with
 | dmap vals h1 h2 h3 h4=>exact⟨_,vals,_,rfl,h1,rfl,by rw [← H19 (kv:=kv) (av:=av)]; exact h2,h4⟩
omit [DecidableEq κ] in
theorem V.tsrc {w:World} {β:H4} {m:Gt κ ν} {u:AV} {v:Value} (hsat:Sat w β L) (hm:R33 L kv av m u) (hv:V w β L u v):∃ (b:Nat) (vals:List Value) (He:Array MapEntry),v=.map (some b)∧vals.length=(tOf kv av m.l).length∧He=(Qm 0 (tOf kv av m.l) vals).toArray∧w.heap[b]? = some (.map He m.l.length) ∧
   ∀ (i:Nat) k u v,(tOf kv av m.l)[i]? = some (k,u)→vals[i]? = some v→isT u=false→D w (Jt w β L) u v:=by
 cases hm with
 | own hi=>
  obtain⟨b,hb,hmv⟩:=hv.inv_mp
  obtain⟨vals,He,g1,g2,h1,g3⟩:=Ja2 hsat hi hb
  exact⟨b,vals,He,hmv,g1,g2,h1,g3⟩
 | data=>
  cases hv with
  | data h=>exact h.tmap
omit [DecidableEq κ] in
theorem G8c {w:World} {β:H4} {i b T:Nat} {m m':Gt κ ν} {vals':List Value} (hsat:Sat w β L) (hi:lk L i=some (TP T kv av m)) (hb:β i=some b)
  (hlen:vals'.length=(tOf kv av m'.l).length) (hD:∀ (i:Nat) k u v,(tOf kv av m'.l)[i]? = some (k,u)→vals'[i]? = some v→isT u=false→D w (Jt w β L) u v) {ents':Array MapEntry} {c:Nat} (he:ents'=(Qm 0 (tOf kv av m'.l) vals').toArray) (hc:c=m'.l.length) :
  let w':World:={ w with heap:=w.heap.setIfInBounds b (.map ents' c) }
  Sat w' β ((i,TP T kv av m')::L)∧Step w β L w' β ((i,TP T kv av m')::L):=by
 intro w'
 have hlt:b < w.heap.size:=hsat.bnd i b (by rw [hi]; rfl) hb
 have st:Step w β L w' β ((i,TP T kv av m')::L):=Step.change hsat hi hb rfl rfl rfl ⟨rfl,Nat.le_refl _⟩ (J94 w b _) (fun k hk=>J35 w b k _ hk)
 exact⟨Sat.change hsat hi hb st (J94 w b _) (fun k hk=>J35 w b k _ hk) ⟨b,rfl,.inr ⟨Y99 T,vals',hlen,by rw [H19,← hc,← he]; exact R6e w b _ hlt,fun j k u v h1 h2 h3=>(hD j k u v h1 h2 h3).mono st.stab⟩⟩,st⟩
end typed

section ops
variable {P:Program} {o:Oper} {l:Fr} {L:Loc} {u:AV} {κ ν:Type} {kv:κ→Value} {av:ν→AV}
theorem Y0b {vals:List Value} {l:List (Option (κ×ν))} {w:World} {S:Nat→Nat→Prop} {q:Nat} {a:κ} {v:ν} {x:Value}
  (hD:∀ (i:Nat) k u v,(tOf kv av l)[i]? = some (k,u)→vals[i]? = some v→isT u=false→D w S u v) (hx:D w S (av v) x) :
  ∀ (i:Nat) k u y,(tOf kv av (l.set q (some (a,v))))[i]? = some (k,u)→(vals.set q x)[i]? = some y→isT u=false→D w S u y:=fun i k u y h1 h2 h3=>by
 have e:tOf kv av (l.set q (some (a,v)))=(tOf kv av l).set q (kv a,av v):=by rw [tOf,List.map_set]; rfl
 rw [e,List.getElem?_set] at h1
 rw [List.getElem?_set] at h2
 by_cases hq:q=i
 ·rw [if_pos hq] at h1 h2
  split at h1
  ·split at h2
   ·cases h1; cases h2; exact hx
   ·cases h2
  ·cases h1
 ·rw [if_neg hq] at h1 h2
  exact hD i k u y h1 h2 h3
theorem R3e {vals:List Value} {l:List (Option (κ×ν))} {w:World} {S:Nat→Nat→Prop} {a:κ} {v:ν} {x:Value} (hlen:vals.length=(tOf kv av l).length)
  (hD:∀ (i:Nat) k u v,(tOf kv av l)[i]? = some (k,u)→vals[i]? = some v→isT u=false→D w S u v) (hx:D w S (av v) x) :
  ∀ (i:Nat) k u y,(tOf kv av (l++[some (a,v)]))[i]? = some (k,u)→(vals++[x])[i]? = some y→isT u=false→D w S u y:=fun i k u y h1 h2 h3=>by
 have e:tOf kv av (l++[some (a,v)])=tOf kv av l++[(kv a,av v)]:=by simp [tOf]
 rw [e] at h1
 rcases Nat.lt_or_ge i vals.length with hi | hi
 ·rw [List.getElem?_append_left (by omega)] at h1
  rw [List.getElem?_append_left hi] at h2
  exact hD i k u y h1 h2 h3
 ·rw [List.getElem?_append_right (by omega)] at h1
  rw [List.getElem?_append_right hi] at h2
  rw [← hlen] at h1
  cases hq:i - vals.length with
  | zero=>rw [hq] at h1 h2; simp at h1 h2; obtain⟨_,rfl⟩:=h1; subst h2; exact hx
  | succ n=>rw [hq] at h1; simp at h1
theorem H15 (i:Nat) {T:Nat} (kv:κ→Value) (av:ν→AV) (ho:o.op=.makeMap T none) (hi:lk L i=none):H0 P o l L (Is (.mp i) ((i,TP T kv av Gt.empty)::L)):=by
 intro a w β K Q hsat hf hK
 have hr:(execOp a.eval o).run P w=.ok (.value (.map (some w.heap.size))) (w.alloc (.map #[] 0)):=by
  simp [execOp,ho,Instr.makeMap]
 unfold Oper.wp
 rw [hr]
 exact hK _ _ _ _ (upP β i (some w.heap.size)) ⟨rfl,rfl⟩ (hsat.alloc hi _ (fun hs=>⟨_,rfl,.inr ⟨Y99 T,[],rfl,heap_alloc_new w _,fun i k u v he=>by simp [Gt.empty,tOf] at he⟩⟩)) (Step.alloc hi hsat.bnd _) (.mp (t:=1000000+T) (es:=[]) (by simp [Gh,TP,Gt.empty,tOf]) (by simp [upP]))
variable [DecidableEq κ]
theorem R10 {x y:Operand} {T K E:Nat} {ok:Bool} {m:Gt κ ν} {a:κ} (z0:ν) (zv:Value) (hav:∀ x,isT (av x)=false) (ho:o.op=.lookup T x y ok) (hm:R33 L kv av m (ev l x))
  (hx:ev l y=Rt (kv a)) (hk:Gd3 P K kv) (hT:Zj P T K E=true) (hz:(P.info? E).bind (·.zero)=some zv) (hzv:av z0=Rt zv) :
  H0 P o l L (Is (bif ok then .tup [av (m.get a z0),BL (m.has a)] else av (m.get a z0)) L):=
 Hi fun A w β hsat hf=>by
  obtain⟨b,vals,He,hmv,g1,g2,h1,g3⟩:=(hf.ev x).tsrc hsat hm
  have hxk:A.eval y=kv a:=J41 hf hx
  rcases J44 (P:=P) (w:=w) hk hav g1 g2 g3 a with ⟨f1,f2⟩ | ⟨j,q,e,v,f1,f2,f3,f4,f5,f6,f7,f8⟩
  ·refine⟨if ok then .tuple #[zv,.bool false] else zv,?_,?_⟩
   ·simp only [execOp,ho,Instr.lookup,underlying,hmv,hxk,Sem.run_bind,run_program,Result.andThen_ok,Zj.out hT,Sem.run_pure,Qq h1,hk.check,f1,J95 hz]
   ·unfold Gt.get Gt.has Gt.He
    rw [Qf2 f2,He3 f2]
    have hzz:V w β L (av z0) zv:=by rw [hzv]; exact .data (H22 zv)
    cases ok
    ·exact hzz
    ·refine .tup rfl fun j u v hu hv=>?_
     match j with
     | 0=>simp at hu hv; subst hu; subst hv; exact hzz
     | 1=>simp at hu hv; subst hu; subst hv; exact .sc
     | j+2=>simp at hu
  ·refine⟨if ok then .tuple #[e.val,.bool true] else e.val,?_,?_⟩
   ·simp only [execOp,ho,Instr.lookup,underlying,hmv,hxk,Sem.run_bind,run_program,Result.andThen_ok,Zj.out hT,Sem.run_pure,Qq h1,hk.check,f1]
   ·unfold Gt.get Gt.has Gt.He
    obtain⟨_,k2,k3⟩:=H4b m.nd f6
    rw [k2,k3]
    cases ok
    ·exact .data f8
    ·refine .tup rfl fun j u v' hu hv=>?_
     match j with
     | 0=>simp at hu hv; subst hu; subst hv; exact .data f8
     | 1=>simp at hu hv; subst hu; subst hv; exact .sc
     | j+2=>simp at hu
theorem J84 {x y:Operand} {T K E:Nat} {m:Gt κ ν} {a:κ} (z0:ν) (zv:Value) (hav:∀ x,isT (av x)=false) (ho:o.op=.lookup T x y false) (hm:R33 L kv av m (ev l x))
  (hx:ev l y=Rt (kv a)) (hk:Gd3 P K kv) (hT:Zj P T K E=true) (hz:(P.info? E).bind (·.zero)=some zv) (hzv:av z0=Rt zv) :
  H0 P o l L (Is (av (m.get a z0)) L):=R10 (ok:=false) z0 zv hav ho hm hx hk hT hz hzv
theorem Hfa {x y:Operand} {T K E:Nat} {m:Gt κ ν} {a:κ} (z0:ν) (zv:Value) (hav:∀ x,isT (av x)=false) (ho:o.op=.lookup T x y true) (hm:R33 L kv av m (ev l x))
  (hx:ev l y=Rt (kv a)) (hk:Gd3 P K kv) (hT:Zj P T K E=true) (hz:(P.info? E).bind (·.zero)=some zv) (hzv:av z0=Rt zv) :
  H0 P o l L (Is (.tup [av (m.get a z0),BL (m.has a)]) L):=R10 (ok:=true) z0 zv hav ho hm hx hk hT hz hzv
theorem Q9a (l:List MapEntry) (j:Nat) (f:MapEntry→MapEntry):l.toArray.modify j f=(l.modify j f).toArray:=by
 apply Array.ext'
 simp
theorem G69 {x y z:Operand} {T K E i:Nat} {m:Gt κ ν} {a:κ} {v:ν} (hav:∀ x,isT (av x)=false) (ho:o.op=.mapUpdate T x y z) (hm:ev l x=.mp i) (hi:lk L i=some (TP T kv av m))
  (hx:ev l y=Rt (kv a)) (hy:(ev l z).plain=av v) (hyd:(av v).isData=true) (hk:Gd3 P K kv) (hT:Zj P T K E=true) :
  H0 P o l L (Is .junk ((i,TP T kv av (m.put a v))::L)):=by
 intro A w β KK Q hsat hf hK
 have hv:=hf.ev x
 rw [hm] at hv
 obtain⟨b,hb,hmv⟩:=hv.inv_mp
 obtain⟨vals,He,g1,g2,h1,g3⟩:=Ja2 hsat hi hb
 have hxk:A.eval y=kv a:=J41 hf hx
 have hyv:=(hf.ev z).plain
 rw [hy] at hyv
 have hyD:=hyv.toD hyd
 rcases J44 (P:=P) (w:=w) hk hav g1 g2 g3 a with ⟨f1,f2⟩ | ⟨j,q,e,v0,f1,f2,f3,f4,f5,f6,f7,f8⟩
 ·have hr:(execOp A.eval o).run P w=.ok .skip { w with heap:=w.heap.setIfInBounds b (.map (He.push { key:=kv a,val:=A.eval z,born:=m.l.length }) (m.l.length+1)) }:=by
   simp only [execOp,ho,Instr.mapUpdate,underlying,hmv,hxk,Sem.run_bind,run_program,Result.andThen_ok,Zj.out hT,Sem.run_pure,Qq h1,hk.check,f1,G0c h1]
  unfold Oper.wp
  rw [hr]
  have hp:(m.put a v).l=m.l++[some (a,v)]:=by show R14 m.l a v=_; unfold R14; rw [He3 f2]; rfl
  have hl':tOf kv av (m.l++[some (a,v)])=tOf kv av m.l++[(kv a,av v)]:=by simp [tOf]
  obtain⟨s1,s2⟩:=G8c hsat hi hb (m':=m.put a v) (vals':=vals++[A.eval z]) (by rw [hp,hl']; simp [g1]) (by rw [hp]; exact R3e g1 g3 hyD) (ents':=He.push { key:=kv a,val:=A.eval z,born:=m.l.length }) (c:=m.l.length+1) (by
   rw [hp,hl',Jd6 _ _ g1 (hav v),g2,H19]; simp) (by rw [hp]; simp)
  exact hK _ _ _ _ β ⟨rfl,rfl⟩ s1 s2 .junk
 ·have hst:=hk.stays w a
  have hr:(execOp A.eval o).run P w=.ok .skip { w with heap:=w.heap.setIfInBounds b (.map (He.modify j fun e=>{ e with key:=kv a,val:=A.eval z }) m.l.length) }:=by
   have hkk:((He[j]?).map (·.key)).getD (kv a)=kv a:=by rw [f2]; exact f5
   simp only [execOp,ho,Instr.mapUpdate,underlying,hmv,hxk,Sem.run_bind,run_program,Result.andThen_ok,Zj.out hT,Sem.run_pure,Qq h1,hk.check,f1,hkk,hst,G0c h1]
  unfold Oper.wp
  rw [hr]
  have hp:(m.put a v).l=m.l.set q (some (a,v)):=R40 m.nd v f6
  have hl':tOf kv av (m.l.set q (some (a,v)))=(tOf kv av m.l).set q (kv a,av v):=by rw [tOf,List.map_set]; rfl
  obtain⟨s1,s2⟩:=G8c hsat hi hb (m':=m.put a v) (vals':=vals.set q (A.eval z)) (by rw [hp,hl']; simp [g1]) (by rw [hp]; exact Y0b g3 hyD) (ents':=He.modify j fun e=>{ e with key:=kv a,val:=A.eval z }) (c:=m.l.length) (by
   rw [hp,hl',Jd5 _ _ _ (Hd9 f6) (hav v0) (hav v),g2,Q9a,Q12 G8d f3,Nat.zero_add,f4]) (by rw [hp]; simp)
  exact hK _ _ _ _ β ⟨rfl,rfl⟩ s1 s2 .junk
theorem Hf9 {x y:Operand} {T T2 K E i:Nat} {m:Gt κ ν} {a:κ} (hav:∀ x,isT (av x)=false) (ho:o.op=.call { callee:=.builtin .delete,args:=#[x,y],argTypes:=#[T,T2] }) (hm:ev l x=.mp i) (hi:lk L i=some (TP T kv av m))
  (hx:ev l y=Rt (kv a)) (hk:Gd3 P K kv) (hT:Zj P T K E=true) :
  H0 P o l L (Is (.tup []) ((i,TP T kv av (m.del a))::L)):=by
 intro A w β KK Q hsat hf hK
 have hv:=hf.ev x
 rw [hm] at hv
 obtain⟨b,hb,hmv⟩:=hv.inv_mp
 obtain⟨vals,He,g1,g2,h1,g3⟩:=Ja2 hsat hi hb
 have hxk:A.eval y=kv a:=J41 hf hx
 have tup0:∀ {w':World} {L':Loc},V w' β L' (.tup []) (.tuple #[]):=.tup rfl fun j u v hu hv=>by simp at hu
 rcases J44 (P:=P) (w:=w) hk hav g1 g2 g3 a with ⟨f1,f2⟩ | ⟨j,q,e,v0,f1,f2,f3,f4,f5,f6,f7,f8⟩
 ·have hr:(execOp A.eval o).run P w=.ok (.value (.tuple #[])) { w with heap:=w.heap.setIfInBounds b (.map He m.l.length) }:=by
   simp only [execOp,ho,resolve,invoke,builtin,Builtin.delete_,underlying,hmv,hxk,Sem.run_bind,run_program,Result.andThen_ok,Zj.out hT,Sem.run_pure,Qq h1,hk.check,f1,G0c h1,List.map_toArray,List.map_cons,List.map_nil,List.getElem?_toArray,List.getElem?_cons_zero,List.getElem?_cons_succ]
  unfold Oper.wp
  rw [hr]
  have hp:(m.del a).l=m.l:=Ybe f2
  obtain⟨s1,s2⟩:=G8c hsat hi hb (m':=m.del a) (vals':=vals) (by rw [hp]; exact g1) (by rw [hp]; exact g3) (ents':=He) (c:=m.l.length) (by rw [hp]; exact g2) (by rw [hp])
  exact hK _ _ _ _ β ⟨rfl,rfl⟩ s1 s2 tup0
 ·have hr:(execOp A.eval o).run P w=.ok (.value (.tuple #[])) { w with heap:=w.heap.setIfInBounds b (.map (He.eraseIdxIfInBounds j) m.l.length) }:=by
   simp only [execOp,ho,resolve,invoke,builtin,Builtin.delete_,underlying,hmv,hxk,Sem.run_bind,run_program,Result.andThen_ok,Zj.out hT,Sem.run_pure,Qq h1,hk.check,f1,G0c h1,List.map_toArray,List.map_cons,List.map_nil,List.getElem?_toArray,List.getElem?_cons_zero,List.getElem?_cons_succ]
  unfold Oper.wp
  rw [hr]
  have hp:(m.del a).l=m.l.set q none:=Y77 m.nd f6
  have hl':tOf kv av (m.l.set q none)=(tOf kv av m.l).set q (.tuple #[],.tup []):=by rw [tOf,List.map_set]; rfl
  obtain⟨s1,s2⟩:=G8c hsat hi hb (m':=m.del a) (vals':=vals) (by rw [hp,hl']; simp [g1]) (by
   rw [hp,hl']
   intro i k u v h1 h2 h3
   rw [List.getElem?_set] at h1
   by_cases hq:q=i
   ·rw [if_pos hq] at h1
    split at h1
    ·cases h1; cases h3
    ·cases h1
   ·rw [if_neg hq] at h1; exact g3 i k u v h1 h2 h3) (ents':=He.eraseIdxIfInBounds j) (c:=m.l.length) (by
   rw [hp,hl',R7b,Nat.zero_add,← f4,← Q94 G8d f3,g2]
   apply Array.ext'
   simp [Array.eraseIdxIfInBounds]
   split
   ·rfl
   ·rename_i hh
    exact(hh (List.getElem?_eq_some_iff.1 f3).1).elim) (by rw [hp]; simp)
  exact hK _ _ _ _ β ⟨rfl,rfl⟩ s1 s2 tup0
end ops
end Go.Proofs.YtidpfkmbfgihlaaGreat
