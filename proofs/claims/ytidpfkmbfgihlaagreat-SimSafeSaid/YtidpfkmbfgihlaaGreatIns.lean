/-
 Maps from which entries are deleted: Maps from which entries are deleted: What slices.Insert and slices.Delete do to a slice of the ca
-/
import Derived.Test.YtidpfkmbfgihlaaGreatMapD
import Derived.Lib.Overlaps
import Derived.Lib.AppendZerosOnto
namespace Go.Proofs.YtidpfkmbfgihlaaGreat
open Go.RowKit

theorem Je0:∀ {es:List (Value×AV)} {vals:List Value} {i j:Nat} {p0:Value×AV} (k:Value) (u:AV) (x:Value),es[j]? = some p0→isT p0.2=false→isT u=false →
  Qm i (es.set j (k,u)) (vals.set j x)=(Qm i es vals).map (fun e=>if e.born=i+j then { e with key:=k,val:=x } else e)
 | [],vals,i,j,p0,k,u,x,h,_,_=>by simp at h
 | p::es,[],i,j,p0,k,u,x,h,_,_=>by cases j <;> simp [Qm]
 | p::es,v::vs,i,0,p0,k,u,x,h,h0,hu=>by
  simp at h; subst h
  have key:(Qm (i+1) es vs).map (fun e=>if e.born=i+0 then { e with key:=k,val:=x } else e)=Qm (i+1) es vs:=by
   conv=>rhs; rw [← List.map_id (Qm (i+1) es vs)]
   refine List.map_congr_left fun e he=>?_
   have:=(J42 he).1
   rw [if_neg (by omega)]; rfl
  simp only [List.set_cons_zero,Qm,h0,hu,Bool.false_eq_true,if_false,List.map_cons,Nat.add_zero,if_true]
  rw [Nat.add_zero] at key
  rw [key]
 | p::es,v::vs,i,j+1,p0,k,u,x,h,h0,hu=>by
  have ih:=Je0 (es:=es) (vals:=vs) (i:=i+1) (j:=j) k u x (by simpa using h) h0 hu
  have e1:i+1+j=i+(j+1):=by omega
  rw [e1] at ih
  cases hp:isT p.2 with
  | true=>simp only [List.set_cons_succ,Qm,hp,if_true]; exact ih
  | false=>
   simp only [List.set_cons_succ,Qm,hp,Bool.false_eq_true,if_false,List.map_cons]
   rw [ih,if_neg (show ¬ i=i+(j+1) by omega)]

section typed
variable {P:Program} {κ ν:Type} [DecidableEq κ] {kv:κ→Value} {av:ν→AV} {L:Loc}
omit [DecidableEq κ] in
theorem Z17 {l:List (Option (κ×ν))} {j:Nat} {k:Value} {u:AV} (h:(tOf kv av l)[j]? = some (k,u)) (hu:isT u=false):∃ p:κ×ν,l[j]? = some (some p)∧k=kv p.1∧u=av p.2:=by
 rw [tOf,Mc] at h
 cases hl:l[j]? with
 | none=>rw [hl] at h; cases h
 | some o=>
  rw [hl] at h
  cases o with
  | none=>simp at h; obtain⟨_,rfl⟩:=h; cases hu
  | some p=>simp at h; exact⟨p,rfl,h.1.symm,h.2.symm⟩
omit [DecidableEq κ] in
theorem He2 {l:List (Option (κ×ν))} {j:Nat} {p:κ×ν} (h:l[j]? = some (some p)):(tOf kv av l)[j]? = some (kv p.1,av p.2):=by rw [tOf,Mc,h]; rfl
omit [DecidableEq κ] in
theorem H1f (l:List (Option (κ×ν))):(tOf kv av l).length=l.length:=by simp [tOf]
theorem R4e {l:List (Option (κ×ν))} (hn:((l.filterMap id).map (·.1)).Nodup) {q:Nat} {a:κ} {v0:ν} (v:ν) (h:l[q]? = some (some (a,v0))):R22 l a v=l.set q (some (a,v)):=by
 obtain⟨h1,_,h3⟩:=H4f hn h
 unfold R22
 rw [if_pos h3]
 apply List.ext_getElem?
 intro j
 rw [Mc,List.getElem?_set]
 by_cases e:q=j
 ·subst e
  have h0:=(M3 h).1
  rw [if_pos rfl,if_pos h0,h]; simp
 ·rw [if_neg e]
  cases hj:l[j]? with
  | none=>rfl
  | some o=>
   cases o with
   | none=>rfl
   | some p=>
    obtain⟨b,u⟩:=p
    by_cases e2:b=a
    ·subst e2
     have:=(H4f hn hj).1
     omega
    ·simp [e2]
theorem Y88 {l:List (Option (κ×ν))} (hn:((l.filterMap id).map (·.1)).Nodup) {q:Nat} {a:κ} {v0:ν} (h:l[q]? = some (some (a,v0))):Re7 l a=l.set q none:=by
 obtain⟨h1,_,h3⟩:=H4f hn h
 unfold Re7
 apply List.ext_getElem?
 intro j
 rw [Mc,List.getElem?_set]
 by_cases e:q=j
 ·subst e
  have h0:=(M3 h).1
  rw [if_pos rfl,if_pos h0,h]; simp
 ·rw [if_neg e]
  cases hj:l[j]? with
  | none=>rfl
  | some o=>
   cases o with
   | none=>rfl
   | some p=>
    obtain⟨b,u⟩:=p
    by_cases e2:b=a
    ·subst e2
     have:=(H4f hn hj).1
     omega
    ·simp [e2]
theorem Yd4 {l:List (Option (κ×ν))} {a:κ} (h:∀ p∈l.filterMap id,p.1≠a):Re7 l a=l:=by
 unfold Re7
 conv=>rhs; rw [← List.map_id l]
 refine List.map_congr_left fun o ho=>?_
 cases o with
 | none=>rfl
 | some p=>
  have:=h p (List.mem_filterMap.2 ⟨_,ho,rfl⟩)
  simp [this]
omit [DecidableEq κ] in
theorem Q93 {w:World} {S:Nat→Nat→Prop} {l:List (Option (κ×ν))} {vals:List Value} (hD:∀ (i:Nat) k u v,(tOf kv av l)[i]? = some (k,u)→vals[i]? = some v→isT u=false→D w S u v) {e:MapEntry} (hm:e∈Qm 0 (tOf kv av l) vals) :
  ∃ p:κ×ν,l[e.born]? = some (some p)∧e.key=kv p.1∧vals[e.born]? = some e.val∧D w S (av p.2) e.val:=by
 obtain⟨j,p,v,h1,h2,h3,rfl⟩:=H77.1 hm
 obtain⟨k,u⟩:=p
 obtain⟨p,g1,rfl,rfl⟩:=Z17 h1 h3
 simp only [Nat.zero_add]
 exact⟨p,g1,rfl,h2,hD j _ _ v h1 h2 h3⟩
omit [DecidableEq κ] in
theorem J48 {w:World} {S:Nat→Nat→Prop} {K:Nat} {l:List (Option (κ×ν))} (hk:Gd7 P K kv) (h5:∀ x,isT (av x)=false) {vals:List Value} {Hf:Array MapEntry} (h0:vals.length=(tOf kv av l).length) (he:Hf=(Qm 0 (tOf kv av l) vals).toArray)
  (hD:∀ (i:Nat) k u v,(tOf kv av l)[i]? = some (k,u)→vals[i]? = some v→isT u=false→D w S u v) (a:κ) :
  ((Instr.findKey K (kv a) Hf.toList).run P w=.ok none w∧(∀ p∈l.filterMap id,p.1≠a))∨∃ j q e v,(Instr.findKey K (kv a) Hf.toList).run P w=.ok (some (j,e.val)) w∧Hf[j]? = some e∧(Qm 0 (tOf kv av l) vals)[j]? = some e∧e.born=q∧e.key=kv a∧l[q]? = some (some (a,v))∧vals[q]? = some e.val∧D w S (av v) e.val:=by
 have hl:Hf.toList=Qm 0 (tOf kv av l) vals:=by rw [he]
 rcases hk.find w a (Qm 0 (tOf kv av l) vals) (fun e hm=>by obtain⟨p,_,h,_⟩:=Q93 hD hm; exact⟨p.1,h⟩) with ⟨h1,h2⟩ | ⟨j,e,h1,h2,h3⟩
 ·refine .inl ⟨by rw [hl]; exact h1,fun p hp e=>?_⟩
  obtain⟨o,ho,rfl⟩:∃ o,o∈l∧o=some p:=by
   obtain⟨o,ho,e⟩:=List.mem_filterMap.1 hp
   exact⟨o,ho,e⟩
  obtain⟨q,hq,e2⟩:=List.mem_iff_getElem.1 ho
  have hg:l[q]? = some (some p):=by rw [M4 hq,e2]
  have h6:q < vals.length:=by rw [h0,H1f]; exact hq
  have h4:(⟨kv p.1,vals[q],0+q⟩:MapEntry)∈Qm 0 (tOf kv av l) vals:=H77.2 ⟨q,(kv p.1,av p.2),vals[q],He2 hg,by simp [h6],h5 p.2,rfl⟩
  exact h2 _ h4 (by rw [← e])
 ·have hm:=M6 h2
  obtain⟨p,g1,g2,g3,g4⟩:=Q93 hD hm
  have ha:p.1=a:=hk.inj _ _ (g2.symm.trans h3)
  obtain⟨pa,pv⟩:=p
  simp only at ha; subst ha
  exact .inr ⟨j,e.born,e,pv,by rw [hl]; exact h1,by rw [he]; simpa using h2,h2,rfl,h3,g1,g3,g4⟩
def TP (T:Nat) (kv:κ→Value) (av:ν→AV) (m:Gu κ ν):Ji:=.map (1000000+T) (tOf kv av m.l)
theorem Yaf (T:Nat):Nat.blt (1000000+T) 1000000=false:=by
 rw [Bool.eq_false_iff]; intro h
 rw [Nat.blt_eq] at h; omega
omit [DecidableEq κ] in
theorem Jae {w:World} {β:H5} {i b T:Nat} {m:Gu κ ν} (h4:Sat w β L) (hi:lk L i=some (TP T kv av m)) (hb:β i=some b) :
  ∃ (vals:List Value) (Hf:Array MapEntry),vals.length=(tOf kv av m.l).length∧Hf=(Qm 0 (tOf kv av m.l) vals).toArray∧w.heap[b]? = some (.map Hf m.l.length) ∧
   ∀ (i:Nat) k u v,(tOf kv av m.l)[i]? = some (k,u)→vals[i]? = some v→isT u=false→D w (Ju w β L) u v:=by
 obtain⟨b',h0,h⟩:=h4.obj i _ hi
 rw [hb] at h0; cases h0
 rcases h with ⟨h,_⟩ | ⟨_,vals,h1,h2,h3⟩
 ·rw [Yaf] at h; cases h
 ·exact⟨vals,_,h1,rfl,by rw [← H1f (kv:=kv) (av:=av)]; exact h2,h3⟩
def DM (kv:κ→Value) (av:ν→AV) (m:Gu κ ν):AV:=.dmap (tOf kv av m.l)
inductive R42 (L:Loc) (kv:κ→Value) (av:ν→AV) (m:Gu κ ν):AV→Prop
 | own {i T:Nat} (h:lk L i=some (TP T kv av m)):R42 L kv av m (.mp i)
 | data:R42 L kv av m (DM kv av m)
omit [DecidableEq κ] in
theorem D.tmap {w:World} {S:Nat→Nat→Prop} {m:Gu κ ν} {v:Value} (h:D w S (DM kv av m) v):∃ (b:Nat) (vals:List Value) (Hf:Array MapEntry),v=.map (some b)∧vals.length=(tOf kv av m.l).length∧Hf=(Qm 0 (tOf kv av m.l) vals).toArray∧w.heap[b]? = some (.map Hf m.l.length) ∧
   ∀ (i:Nat) k u v,(tOf kv av m.l)[i]? = some (k,u)→vals[i]? = some v→isT u=false→D w S u v:=by
 unfold DM at h
 cases h with
 | dmap vals h1 h2 h3 h4=>exact⟨_,vals,_,rfl,h1,rfl,by rw [← H1f (kv:=kv) (av:=av)]; exact h2,h4⟩
omit [DecidableEq κ] in
theorem V.tsrc {w:World} {β:H5} {m:Gu κ ν} {u:AV} {v:Value} (h0:Sat w β L) (hm:R42 L kv av m u) (hv:V w β L u v):∃ (b:Nat) (vals:List Value) (Hf:Array MapEntry),v=.map (some b)∧vals.length=(tOf kv av m.l).length∧Hf=(Qm 0 (tOf kv av m.l) vals).toArray∧w.heap[b]? = some (.map Hf m.l.length) ∧
   ∀ (i:Nat) k u v,(tOf kv av m.l)[i]? = some (k,u)→vals[i]? = some v→isT u=false→D w (Ju w β L) u v:=by
 cases hm with
 | own hi=>
  obtain⟨b,hb,h2⟩:=hv.inv_mp
  obtain⟨vals,Hf,g1,g2,h1,g3⟩:=Jae h0 hi hb
  exact⟨b,vals,Hf,h2,g1,g2,h1,g3⟩
 | data=>
  cases hv with
  | data h=>exact h.tmap
omit [DecidableEq κ] in
theorem G90 {w:World} {β:H5} {i b T:Nat} {m m':Gu κ ν} {vals':List Value} (h0:Sat w β L) (hi:lk L i=some (TP T kv av m)) (hb:β i=some b)
  (h4:vals'.length=(tOf kv av m'.l).length) (hD:∀ (i:Nat) k u v,(tOf kv av m'.l)[i]? = some (k,u)→vals'[i]? = some v→isT u=false→D w (Ju w β L) u v) {ents':Array MapEntry} {c:Nat} (he:ents'=(Qm 0 (tOf kv av m'.l) vals').toArray) (hc:c=m'.l.length) :
  let w':World:={ w with heap:=w.heap.setIfInBounds b (.map ents' c) }
  Sat w' β ((i,TP T kv av m')::L)∧Step w β L w' β ((i,TP T kv av m')::L):=by
 intro w'
 have h5:b < w.heap.size:=h0.bnd i b (by rw [hi]; rfl) hb
 have st:Step w β L w' β ((i,TP T kv av m')::L):=Step.change h0 hi hb rfl rfl rfl ⟨rfl,M8⟩ (J9f w b _) (fun k hk=>J39 w b k _ hk)
 exact⟨Sat.change h0 hi hb st (J9f w b _) (fun k hk=>J39 w b k _ hk) ⟨b,rfl,.inr ⟨Yaf T,vals',h4,by rw [H1f,← hc,← he]; exact R7b w b _ h5,fun j k u v h1 h2 h3=>(hD j k u v h1 h2 h3).mono st.stab⟩⟩,st⟩
end typed

section ops
variable {P:Program} {o:Oper} {l:Fr} {L:Loc} {u:AV} {κ ν:Type} {kv:κ→Value} {av:ν→AV}
theorem Y1a {vals:List Value} {l:List (Option (κ×ν))} {w:World} {S:Nat→Nat→Prop} {q:Nat} {a:κ} {v:ν} {x:Value}
  (hD:∀ (i:Nat) k u v,(tOf kv av l)[i]? = some (k,u)→vals[i]? = some v→isT u=false→D w S u v) (hx:D w S (av v) x) :
  ∀ (i:Nat) k u y,(tOf kv av (l.set q (some (a,v))))[i]? = some (k,u)→(vals.set q x)[i]? = some y→isT u=false→D w S u y:=fun i k u y h1 h2 h3=>by
 have e:tOf kv av (l.set q (some (a,v)))=(tOf kv av l).set q (kv a,av v):=by rw [tOf,List.map_set]; rfl
 rw [e,List.getElem?_set] at h1
 rw [List.getElem?_set] at h2
 by_cases hq:q=i
 ·rw [if_pos hq] at h1 h2
  split at h1
  ·split at h2
   ·cases h1; cases h2; exact hx
   ·cases h2
  ·cases h1
 ·rw [if_neg hq] at h1 h2
  exact hD i k u y h1 h2 h3
theorem R4c {vals:List Value} {l:List (Option (κ×ν))} {w:World} {S:Nat→Nat→Prop} {a:κ} {v:ν} {x:Value} (h0:vals.length=(tOf kv av l).length)
  (hD:∀ (i:Nat) k u v,(tOf kv av l)[i]? = some (k,u)→vals[i]? = some v→isT u=false→D w S u v) (hx:D w S (av v) x) :
  ∀ (i:Nat) k u y,(tOf kv av (l++[some (a,v)]))[i]? = some (k,u)→(vals++[x])[i]? = some y→isT u=false→D w S u y:=fun i k u y h1 h2 h3=>by
 have e:tOf kv av (l++[some (a,v)])=tOf kv av l++[(kv a,av v)]:=by simp [tOf]
 rw [e] at h1
 rcases Kx i vals.length with hi | hi
 ·rw [Ma (by omega)] at h1
  rw [Ma hi] at h2
  exact hD i k u y h1 h2 h3
 ·rw [M9 (by omega)] at h1
  rw [M9 hi] at h2
  rw [← h0] at h1
  cases hq:i - vals.length with
  | zero=>rw [hq] at h1 h2; simp at h1 h2; obtain⟨_,rfl⟩:=h1; subst h2; exact hx
  | succ n=>rw [hq] at h1; simp at h1
theorem H1b (i:Nat) {T:Nat} (kv:κ→Value) (av:ν→AV) (ho:o.op=.makeMap T none) (hi:lk L i=none):H2 P o l L (Is (.mp i) ((i,TP T kv av Gu.empty)::L)):=by
 intro a w β K Q h0 hf hK
 have hr:(execOp a.eval o).run P w=.ok (.value (.map (some w.heap.size))) (w.alloc (.map #[] 0)):=by
  simp [execOp,ho,Instr.makeMap]
 unfold Oper.wp
 rw [hr]
 exact hK _ _ _ _ (upP β i (some w.heap.size)) ⟨rfl,rfl⟩ (h0.alloc hi _ (fun hs=>⟨_,rfl,.inr ⟨Yaf T,[],rfl,heap_alloc_new w _,fun i k u v he=>by simp [Gu.empty,tOf] at he⟩⟩)) (Step.alloc hi h0.bnd _) (.mp (t:=1000000+T) (es:=[]) (by simp [Gi,TP,Gu.empty,tOf]) (by simp [upP]))
variable [DecidableEq κ]
theorem R1e {x y:Operand} {T K E:Nat} {ok:Bool} {m:Gu κ ν} {a:κ} (z0:ν) (zv:Value) (h5:∀ x,isT (av x)=false) (ho:o.op=.lookup T x y ok) (hm:R42 L kv av m (ev l x))
  (hx:ev l y=Rv (kv a)) (hk:Gd7 P K kv) (hT:Zo P T K E=true) (hz:(P.info? E).bind (·.zero)=some zv) (h6:av z0=Rv zv) :
  H2 P o l L (Is (bif ok then .tup [av (m.get a z0),BL (m.has a)] else av (m.get a z0)) L):=
 Hj fun A w β h4 hf=>by
  obtain⟨b,vals,Hf,h0,g1,g2,h1,g3⟩:=(hf.ev x).tsrc h4 hm
  have h2:A.eval y=kv a:=J45 hf hx
  rcases J48 (P:=P) (w:=w) hk h5 g1 g2 g3 a with ⟨f1,f2⟩ | ⟨j,q,e,v,f1,f2,f3,f4,f5,f6,f7,f8⟩
  ·refine⟨if ok then .tuple #[zv,.bool false] else zv,?_,?_⟩
   ·simp only [execOp,ho,Instr.lookup,underlying,h0,h2,Sem.run_bind,run_program,Result.andThen_ok,Zo.out hT,Sem.run_pure,Qq h1,hk.check,f1,Ja0 hz]
   ·unfold Gu.get Gu.has Gu.Hf
    rw [Qfe f2,Heb f2]
    have h3:V w β L (av z0) zv:=by rw [h6]; exact .data (H28 zv)
    cases ok
    ·exact h3
    ·refine .tup rfl fun j u v hu hv=>?_
     match j with
     | 0=>simp at hu hv; subst hu; subst hv; exact h3
     | 1=>simp at hu hv; subst hu; subst hv; exact .sc
     | j+2=>simp at hu
  ·refine⟨if ok then .tuple #[e.val,.bool true] else e.val,?_,?_⟩
   ·simp only [execOp,ho,Instr.lookup,underlying,h0,h2,Sem.run_bind,run_program,Result.andThen_ok,Zo.out hT,Sem.run_pure,Qq h1,hk.check,f1]
   ·unfold Gu.get Gu.has Gu.Hf
    obtain⟨_,k2,k3⟩:=H4f m.nd f6
    rw [k2,k3]
    cases ok
    ·exact .data f8
    ·refine .tup rfl fun j u v' hu hv=>?_
     match j with
     | 0=>simp at hu hv; subst hu; subst hv; exact .data f8
     | 1=>simp at hu hv; subst hu; subst hv; exact .sc
     | j+2=>simp at hu
theorem J8f {x y:Operand} {T K E:Nat} {m:Gu κ ν} {a:κ} (z0:ν) (zv:Value) (h0:∀ x,isT (av x)=false) (ho:o.op=.lookup T x y false) (hm:R42 L kv av m (ev l x))
  (hx:ev l y=Rv (kv a)) (hk:Gd7 P K kv) (hT:Zo P T K E=true) (hz:(P.info? E).bind (·.zero)=some zv) (h1:av z0=Rv zv) :
  H2 P o l L (Is (av (m.get a z0)) L):=R1e (ok:=false) z0 zv h0 ho hm hx hk hT hz h1
theorem Hff {x y:Operand} {T K E:Nat} {m:Gu κ ν} {a:κ} (z0:ν) (zv:Value) (h0:∀ x,isT (av x)=false) (ho:o.op=.lookup T x y true) (hm:R42 L kv av m (ev l x))
  (hx:ev l y=Rv (kv a)) (hk:Gd7 P K kv) (hT:Zo P T K E=true) (hz:(P.info? E).bind (·.zero)=some zv) (h1:av z0=Rv zv) :
  H2 P o l L (Is (.tup [av (m.get a z0),BL (m.has a)]) L):=R1e (ok:=true) z0 zv h0 ho hm hx hk hT hz h1
theorem Qa6 (l:List MapEntry) (j:Nat) (f:MapEntry→MapEntry):l.toArray.modify j f=(l.modify j f).toArray:=by
 apply Array.ext'
 simp
theorem G6f {x y z:Operand} {T K E i:Nat} {m:Gu κ ν} {a:κ} {v:ν} (h3:∀ x,isT (av x)=false) (ho:o.op=.mapUpdate T x y z) (hm:ev l x=.mp i) (hi:lk L i=some (TP T kv av m))
  (hx:ev l y=Rv (kv a)) (hy:(ev l z).plain=av v) (h8:(av v).isData=true) (hk:Gd7 P K kv) (hT:Zo P T K E=true) :
  H2 P o l L (Is .junk ((i,TP T kv av (m.put a v))::L)):=by
 intro A w β KK Q h2 hf hK
 have hv:=hf.ev x
 rw [hm] at hv
 obtain⟨b,hb,h4⟩:=hv.inv_mp
 obtain⟨vals,Hf,g1,g2,h1,g3⟩:=Jae h2 hi hb
 have h5:A.eval y=kv a:=J45 hf hx
 have h6:=(hf.ev z).plain
 rw [hy] at h6
 have h7:=h6.toD h8
 rcases J48 (P:=P) (w:=w) hk h3 g1 g2 g3 a with ⟨f1,f2⟩ | ⟨j,q,e,v0,f1,f2,f3,f4,f5,f6,f7,f8⟩
 ·have hr:(execOp A.eval o).run P w=.ok .skip { w with heap:=w.heap.setIfInBounds b (.map (Hf.push { key:=kv a,val:=A.eval z,born:=m.l.length }) (m.l.length+1)) }:=by
   simp only [execOp,ho,Instr.mapUpdate,underlying,h4,h5,Sem.run_bind,run_program,Result.andThen_ok,Zo.out hT,Sem.run_pure,Qq h1,hk.check,f1,G12 h1]
  unfold Oper.wp
  rw [hr]
  have hp:(m.put a v).l=m.l++[some (a,v)]:=by show R22 m.l a v=_; unfold R22; rw [Heb f2]; rfl
  have h0:tOf kv av (m.l++[some (a,v)])=tOf kv av m.l++[(kv a,av v)]:=by simp [tOf]
  obtain⟨s1,s2⟩:=G90 h2 hi hb (m':=m.put a v) (vals':=vals++[A.eval z]) (by rw [hp,h0]; simp [g1]) (by rw [hp]; exact R4c g1 g3 h7) (ents':=Hf.push { key:=kv a,val:=A.eval z,born:=m.l.length }) (c:=m.l.length+1) (by
   rw [hp,h0,Je1 _ _ g1 (h3 v),g2,H1f]; simp) (by rw [hp]; simp)
  exact hK _ _ _ _ β ⟨rfl,rfl⟩ s1 s2 .junk
 ·have h9:=hk.stays w a
  have hr:(execOp A.eval o).run P w=.ok .skip { w with heap:=w.heap.setIfInBounds b (.map (Hf.modify j fun e=>{ e with key:=kv a,val:=A.eval z }) m.l.length) }:=by
   have a0:((Hf[j]?).map (·.key)).getD (kv a)=kv a:=by rw [f2]; exact f5
   simp only [execOp,ho,Instr.mapUpdate,underlying,h4,h5,Sem.run_bind,run_program,Result.andThen_ok,Zo.out hT,Sem.run_pure,Qq h1,hk.check,f1,a0,h9,G12 h1]
  unfold Oper.wp
  rw [hr]
  have hp:(m.put a v).l=m.l.set q (some (a,v)):=R4e m.nd v f6
  have h0:tOf kv av (m.l.set q (some (a,v)))=(tOf kv av m.l).set q (kv a,av v):=by rw [tOf,List.map_set]; rfl
  obtain⟨s1,s2⟩:=G90 h2 hi hb (m':=m.put a v) (vals':=vals.set q (A.eval z)) (by rw [hp,h0]; simp [g1]) (by rw [hp]; exact Y1a g3 h7) (ents':=Hf.modify j fun e=>{ e with key:=kv a,val:=A.eval z }) (c:=m.l.length) (by
   rw [hp,h0,Je0 _ _ _ (He2 f6) (h3 v0) (h3 v),g2,Qa6,Q1f G91 f3,Nat.zero_add,f4]) (by rw [hp]; simp)
  exact hK _ _ _ _ β ⟨rfl,rfl⟩ s1 s2 .junk
theorem Hfe {x y:Operand} {T T2 K E i:Nat} {m:Gu κ ν} {a:κ} (h7:∀ x,isT (av x)=false) (ho:o.op=.call { callee:=.builtin .delete,args:=#[x,y],argTypes:=#[T,T2] }) (hm:ev l x=.mp i) (hi:lk L i=some (TP T kv av m))
  (hx:ev l y=Rv (kv a)) (hk:Gd7 P K kv) (hT:Zo P T K E=true) :
  H2 P o l L (Is (.tup []) ((i,TP T kv av (m.del a))::L)):=by
 intro A w β KK Q h0 hf hK
 have hv:=hf.ev x
 rw [hm] at hv
 obtain⟨b,hb,h5⟩:=hv.inv_mp
 obtain⟨vals,Hf,g1,g2,h1,g3⟩:=Jae h0 hi hb
 have h6:A.eval y=kv a:=J45 hf hx
 have tup0:∀ {w':World} {L':Loc},V w' β L' (.tup []) (.tuple #[]):=.tup rfl fun j u v hu hv=>by simp at hu
 rcases J48 (P:=P) (w:=w) hk h7 g1 g2 g3 a with ⟨f1,f2⟩ | ⟨j,q,e,v0,f1,f2,f3,f4,f5,f6,f7,f8⟩
 ·have hr:(execOp A.eval o).run P w=.ok (.value (.tuple #[])) { w with heap:=w.heap.setIfInBounds b (.map Hf m.l.length) }:=by
   simp only [execOp,ho,resolve,invoke,builtin,Builtin.delete_,underlying,h5,h6,Sem.run_bind,run_program,Result.andThen_ok,Zo.out hT,Sem.run_pure,Qq h1,hk.check,f1,G12 h1,List.map_toArray,List.map_cons,List.map_nil,List.getElem?_toArray,List.getElem?_cons_zero,List.getElem?_cons_succ]
  unfold Oper.wp
  rw [hr]
  have hp:(m.del a).l=m.l:=Yd4 f2
  obtain⟨s1,s2⟩:=G90 h0 hi hb (m':=m.del a) (vals':=vals) (by rw [hp]; exact g1) (by rw [hp]; exact g3) (ents':=Hf) (c:=m.l.length) (by rw [hp]; exact g2) (by rw [hp])
  exact hK _ _ _ _ β ⟨rfl,rfl⟩ s1 s2 tup0
 ·have hr:(execOp A.eval o).run P w=.ok (.value (.tuple #[])) { w with heap:=w.heap.setIfInBounds b (.map (Hf.eraseIdxIfInBounds j) m.l.length) }:=by
   simp only [execOp,ho,resolve,invoke,builtin,Builtin.delete_,underlying,h5,h6,Sem.run_bind,run_program,Result.andThen_ok,Zo.out hT,Sem.run_pure,Qq h1,hk.check,f1,G12 h1,List.map_toArray,List.map_cons,List.map_nil,List.getElem?_toArray,List.getElem?_cons_zero,List.getElem?_cons_succ]
  unfold Oper.wp
  rw [hr]
  have hp:(m.del a).l=m.l.set q none:=Y88 m.nd f6
  have h4:tOf kv av (m.l.set q none)=(tOf kv av m.l).set q (.tuple #[],.tup []):=by rw [tOf,List.map_set]; rfl
  obtain⟨s1,s2⟩:=G90 h0 hi hb (m':=m.del a) (vals':=vals) (by rw [hp,h4]; simp [g1]) (by
   rw [hp,h4]
   intro i k u v h1 h2 h3
   rw [List.getElem?_set] at h1
   by_cases hq:q=i
   ·rw [if_pos hq] at h1
    split at h1
    ·cases h1; cases h3
    ·cases h1
   ·rw [if_neg hq] at h1; exact g3 i k u v h1 h2 h3) (ents':=Hf.eraseIdxIfInBounds j) (c:=m.l.length) (by
   rw [hp,h4,R88,Nat.zero_add,← f4,← Qa0 G91 f3,g2]
   apply Array.ext'
   simp [Array.eraseIdxIfInBounds]
   split
   ·rfl
   ·rename_i hh
    exact(hh (M3 f3).1).elim) (by rw [hp]; simp)
  exact hK _ _ _ _ β ⟨rfl,rfl⟩ s1 s2 tup0
end ops

section ops
variable {P:Program} {o:Oper} {l:Fr} {L:Loc} {u:AV} {κ ν:Type} [DecidableEq κ] {kv:κ→Value} {av:ν→AV}
omit [DecidableEq κ] in
theorem H8f (i:Nat) {x:Operand} {T K E:Nat} {src:AV} {m:Gu κ ν} (ho:o.op=.range T x) (hx:ev l x=src) (hm:R42 L kv av m src) (hi:lk L i=none) (hT:Zo P T K E=true) :
  H2 P o l L (Is (.it i) ((i,.iter src m.l.length [])::L)):=by
 intro a w β KK Q h0 hf hK
 have hv:=hf.ev x
 rw [hx] at hv
 obtain⟨b,vals,Hf,h2,g1,g2,h1,g3⟩:=hv.tsrc h0 hm
 have hr:(execOp a.eval o).run P w=.ok (.value (.pointer (some ⟨w.heap.size,0,none⟩))) (w.alloc (.mapIter (some b) m.l.length #[] m.l.length)):=by
  simp only [execOp,ho,Instr.range,underlying,Zo.out hT,Sem.run_bind,Sem.run_pure,run_program,Result.andThen_ok,h2,Qq h1,run_newObj]
  rfl
 unfold Oper.wp
 rw [hr]
 exact hK _ _ _ _ (upP β i (some w.heap.size)) ⟨rfl,rfl⟩ (h0.alloc hi _ (fun hs=>⟨_,rfl,b,by rw [← h2]; exact hv.step hs,heap_alloc_new w _⟩)) (Step.alloc hi h0.bnd _)
  (.it (m:=src) (n:=m.l.length) (seen:=[]) (by simp [Gi]) (by simp [upP]))
def Z50 (i:Nat) (src:AV) (L:Loc) (kv:κ→Value) (av:ν→AV) (m:Gu κ ν) (seen:List Nat):AV→Loc→Prop:=fun u L'=>
 (∃ q e,m.l[q]? = some (some e)∧q ∉ seen∧u=.tup [BL true,Rv (kv e.1),av e.2]∧L'=(i,.iter src m.l.length (seen++[q]))::L)∨((∀ q e,m.l[q]? = some (some e)→q∈seen)∧u=.tup [BL false]∧L'=L)
omit [DecidableEq κ] in
theorem Hfd {x:Operand} {i:Nat} {src:AV} {m:Gu κ ν} {seen:List Nat} (c0:∀ x,isT (av x)=false) (ho:o.op=.next x false) (hx:ev l x=.it i) (hi:lk L i=some (.iter src m.l.length seen)) (hm:R42 L kv av m src):H2 P o l L (Z50 i src L kv av m seen):=by
 intro a w β KK Q h6 hf hK
 have hv:=hf.ev x
 rw [hx] at hv
 have c1:∃ b,β i=some b∧a.eval x=.pointer (some ⟨b,0,none⟩):=by
  generalize a.eval x=v at hv
  cases hv with
  | data h=>cases h
  | it _ h=>exact⟨_,h,rfl⟩
 obtain⟨b,hb,b0⟩:=c1
 obtain⟨b',b1,bm,b2,b3⟩:=h6.obj i _ hi
 rw [hb] at b1; cases b1
 obtain⟨bm',vals,Hf,ebm,g1,g2,h1,g3⟩:=b2.tsrc h6 hm
 cases ebm
 have g1':vals.length=m.l.length:=by rw [g1,H1f]
 have h9:∀ e∈Hf,∃ p:κ×ν,m.l[e.born]? = some (some p)∧e.key=kv p.1∧D w (Ju w β L) (av p.2) e.val:=fun e he=>by
  rw [g2] at he
  obtain⟨p,a1,a2,_,a4⟩:=Q93 g3 (by simpa using he)
  exact⟨p,a1,a2,a4⟩
 have a7:∀ q (p:κ×ν),m.l[q]? = some (some p)→∃ e∈Hf,e.born=q:=fun q p hq=>by
  have d1:=(M3 hq).1
  have c2:q < vals.length:=by omega
  refine⟨⟨kv p.1,vals[q],0+q⟩,?_,by simp⟩
  rw [g2]
  have:(⟨kv p.1,vals[q],0+q⟩:MapEntry)∈Qm 0 (tOf kv av m.l) vals:=H77.2 ⟨q,(kv p.1,av p.2),vals[q],He2 (kv:=kv) (av:=av) hq,by simp [c2],c0 p.2,rfl⟩
  simpa using this
 have h8:∀ e∈Hf,e.born < m.l.length:=fun e he=>by
  obtain⟨p,h,_⟩:=h9 e he
  exact(M3 h).1
 let left:Array MapEntry:=Hf.filter fun e=>!seen.toArray.contains e.born
 have a3:∀ e∈left,e∈Hf∧e.born ∉ seen:=by
  intro e he
  simp only [left,Array.mem_filter] at he
  exact⟨he.1,by simpa using he.2⟩
 have hold:left.filter (fun e=>decide (e.born < m.l.length))=left:=by
  rw [Array.filter_eq_self]
  intro e he
  exact M1 (h8 e (a3 e he).1)
 have b6:left.filter (fun e=>decide (e.born ≥ m.l.length))=#[]:=by
  rw [Array.filter_eq_empty_iff]
  intro e he
  have:=h8 e (a3 e he).1
  simp; omega
 have h7:(!seen.toArray.isEmpty&&!Hf.isEmpty&&Hf.all (fun e=>decide (e.born ≥ m.l.length)))=false:=by
  by_cases h0:Hf.size=0
  ·have:Hf.isEmpty=true:=by simp [Array.isEmpty,h0]
   simp [this]
  ·have:Hf.all (fun e=>decide (e.born ≥ m.l.length))=false:=by
    rw [Bool.eq_false_iff]
    intro a5
    rw [Array.all_eq_true] at a5
    have h2:=Kz (a5 0 (by omega))
    have:=h8 Hf[0] (Array.getElem_mem (by omega))
    omega
   simp [this]
 have a0:(getObj b).run P w=.ok (.mapIter (some bm) m.l.length seen.toArray m.l.length) w:=by simp [getObj,Sem.run,b3]
 have c3:b < w.heap.size:=h6.bnd i b (by rw [hi]; rfl) hb
 by_cases h3:left=#[]
 ·have hr:(execOp a.eval o).run P w=.ok (.value (.tuple #[.bool false])) w:=by
   simp only [execOp,ho,Instr.next,b0,Sem.run_bind,Sem.run_pure,Result.andThen_ok,a0,Qq h1,h7,Bool.false_eq_true,if_false]
   have e1:(Hf.filter fun e=>!seen.toArray.contains e.born)=#[]:=h3
   simp only [e1,Array.filter_empty,Array.isEmpty_empty,if_true,Array.append_empty,Array.map_empty,run_choose]
   rfl
  unfold Oper.wp
  rw [hr]
  refine hK _ _ _ w β (.inr ⟨fun q p hq=>?_,rfl,rfl⟩) h6 (Step.refl _ _ _) (.tup rfl fun j u v hu hv=>?_)
  ·by_cases hs:q∈seen
   ·exact hs
   ·exfalso
    obtain⟨e,he,rfl⟩:=a7 q p hq
    have:e∈left:=by
     simp only [left,Array.mem_filter]
     exact⟨he,by simpa using hs⟩
    rw [h3] at this; simp at this
  ·match j with
   | 0=>simp at hu hv; subst hu; subst hv; exact .sc
   | j+1=>simp at hu
 ·have a6:0 < left.size:=Array.size_pos_iff.2 h3
  have a8:((if (left.filter fun e=>decide (e.born < m.l.length)).isEmpty then #[none] else #[])++((left.filter fun e=>decide (e.born < m.l.length))++(left.filter fun e=>decide (e.born ≥ m.l.length))).map some)=left.map some:=by
   rw [hold,b6]
   have:left.isEmpty=false:=by rw [Array.isEmpty_eq_false_iff]; exact h3
   rw [this]
   apply Array.ext'
   simp
  have c4:∃ (c:Nat) (w1:World),(choose (.mapNext (left.map some).size)).run P w=.ok c w1∧c < left.size∧w1.heap=w.heap∧w1.os=w.os∧w1.tape=w.tape∧(w1.output=w.output∧w.drawn≤w1.drawn):=by
   rw [run_choose]
   by_cases b4:(Question.mapNext (left.map some).size).forced=true
   ·exact⟨0,w,by rw [if_pos b4],a6,rfl,rfl,rfl,rfl,M8⟩
   ·refine⟨_,{ w with drawn:=w.drawn+1 },by rw [if_neg b4],?_,rfl,rfl,rfl,rfl,Nat.le_succ _⟩
    simp only [Question.cut,Array.size_map]
    exact Nat.mod_lt _ a6
  obtain⟨c,w1,c5,b5,hh,c6,c7,b7⟩:=c4
  obtain⟨c8,c9⟩:=a3 left[c] (Array.getElem_mem b5)
  obtain⟨p,k0,k1,k2⟩:=h9 left[c] c8
  have d0:(left.map some)[c]? = some (some left[c]):=by simp [b5]
  have b8:w1.heap[b]? = some (.mapIter (some bm) m.l.length seen.toArray m.l.length):=by rw [hh]; exact b3
  have b9:(setObj b (.mapIter (some bm) m.l.length (seen.toArray.push left[c].born) m.l.length)).run P w1=.ok () { w1 with heap:=w1.heap.setIfInBounds b (.mapIter (some bm) m.l.length (seen.toArray.push left[c].born) m.l.length) }:=by
   simp [setObj,Sem.run,b8]
  have hr:(execOp a.eval o).run P w=.ok (.value (.tuple #[.bool true,left[c].key,left[c].val])) { w1 with heap:=w1.heap.setIfInBounds b (.mapIter (some bm) m.l.length (seen.toArray.push left[c].born) m.l.length) }:=by
   simp only [execOp,ho,Instr.next,b0,Sem.run_bind,Sem.run_pure,Result.andThen_ok,a0,Qq h1,h7,Bool.false_eq_true,if_false]
   have e1:(Hf.filter fun e=>!seen.toArray.contains e.born)=left:=rfl
   rw [e1,a8,c5]
   simp only [Result.andThen_ok,d0,Sem.run_bind,b9,Sem.run_pure]
  unfold Oper.wp
  rw [hr]
  have a9:seen.toArray.push left[c].born=(seen++[left[c].born]).toArray:=by simp
  have h4:({ w1 with heap:=w1.heap.setIfInBounds b (.mapIter (some bm) m.l.length (seen.toArray.push left[c].born) m.l.length) }:World).heap.size=w.heap.size:=by simp [hh]
  have h5:∀ k,k≠b→({ w1 with heap:=w1.heap.setIfInBounds b (.mapIter (some bm) m.l.length (seen.toArray.push left[c].born) m.l.length) }:World).heap[k]? = w.heap[k]? := fun k hk=>by
   simp [Array.getElem?_setIfInBounds_ne (Ne.symm hk),hh]
  have st:Step w β L { w1 with heap:=w1.heap.setIfInBounds b (.mapIter (some bm) m.l.length (seen.toArray.push left[c].born) m.l.length) } β ((i,.iter src m.l.length (seen++[left[c].born]))::L):=
   Step.change h6 hi hb rfl c6 c7 b7 h4 h5
  refine hK _ _ _ _ β (.inl ⟨left[c].born,p,k0,c9,rfl,rfl⟩) (Sat.change h6 hi hb st h4 h5 ⟨b,rfl,bm,b2.step st,?_⟩) st (.tup rfl fun q u v hu hv=>?_)
  ·rw [a9]
   simp [hh,c3]
  ·match q with
   | 0=>simp at hu hv; subst hu; subst hv; exact .sc
   | 1=>simp at hu hv; subst hu; subst hv; rw [← k1]; exact .data (H28 _)
   | 2=>simp at hu hv; subst hu; subst hv; exact .data (k2.mono st.stab)
   | q+3=>simp at hu
omit [DecidableEq κ] in
theorem J90 {x:Operand} {i q:Nat} {src:AV} {m:Gu κ ν} {seen:List Nat} {e:κ×ν} (h5:∀ x,isT (av x)=false) (ho:o.op=.entry x) (hx:ev l x=.it i) (hi:lk L i=some (.iter src m.l.length (seen++[q]))) (hm:R42 L kv av m src) (he:m.l[q]? = some (some e)) :
  H2 P o l L (Is (.tup [Rv (kv e.1),av e.2]) L):=
 Hj fun a w β h0 hf=>by
  have hv:=hf.ev x
  rw [hx] at hv
  have a0:∃ b,β i=some b∧a.eval x=.pointer (some ⟨b,0,none⟩):=by
   generalize a.eval x=v at hv
   cases hv with
   | data h=>cases h
   | it _ h=>exact⟨_,h,rfl⟩
  obtain⟨b,hb,a1⟩:=a0
  obtain⟨b',h6,bm,a2,a3⟩:=h0.obj i _ hi
  rw [hb] at h6; cases h6
  obtain⟨bm',vals,Hf,ebm,g1,g2,h1,g3⟩:=a2.tsrc h0 hm
  cases ebm
  have g1':vals.length=m.l.length:=by rw [g1,H1f]
  have a5:=(M3 he).1
  have h7:q < vals.length:=by omega
  have h9:(⟨kv e.1,vals[q],0+q⟩:MapEntry)∈Qm 0 (tOf kv av m.l) vals:=H77.2 ⟨q,(kv e.1,av e.2),vals[q],He2 he,by simp [h7],h5 e.2,rfl⟩
  obtain⟨n,hn,h8⟩:=List.mem_iff_getElem.1 h9
  have h2:(getObj b).run P w=.ok (.mapIter (some bm) m.l.length (seen++[q]).toArray m.l.length) w:=by simp [getObj,Sem.run,a3]
  have h3:(seen++[q]).toArray.back? = some q:=by simp
  have h4:Hf.find? (fun e=>e.born==q)=some ⟨kv e.1,vals[q],0+q⟩:=by
   rw [Array.find?_eq_some_iff_getElem]
   refine⟨by simp,n,by rw [g2]; simpa using hn,by simp only [g2,List.getElem_toArray]; exact h8,fun r hr=>?_⟩
   simp only [g2,List.getElem_toArray]
   have hp:=List.pairwise_iff_getElem.1 (G91 (es:=tOf kv av m.l) (vals:=vals) (i:=0)) r n (by omega) hn hr
   rw [h8] at hp
   have hp:(Qm 0 (tOf kv av m.l) vals)[r].born < 0+q:=hp
   simp; omega
  have a4:(m.l.length != m.l.length)=false:=by simp
  have hD:D w (Ju w β L) (av e.2) vals[q]:=g3 q _ _ _ (He2 he) (by simp [h7]) (h5 e.2)
  refine⟨.tuple #[kv e.1,vals[q]],?_,.tup rfl fun r u v hu hv=>?_⟩
  ·simp only [execOp,ho,Instr.entry,a1,Sem.run_bind,Sem.run_pure,Result.andThen_ok,h2,h3,Qq h1,a4,Bool.false_eq_true,if_false,h4]
  ·match r with
   | 0=>simp at hu hv; subst hu; subst hv; exact .data (H28 _)
   | 1=>simp at hu hv; subst hu; subst hv; exact .data hD
   | r+2=>simp at hu
end ops

theorem H73 {P:Program} {T E k:Nat} (hT:sliceB P T E k=true) (a:Option Addr) (len cap m n:Nat) (lo hi:Option Value) (w:World) (h0:m≤n) (hn:n≤cap)
  (h4:(lo=none∧m=0)∨∃ kd,lo=some (.int kd m)) (h5:(hi=none∧n=len)∨∃ kd,hi=some (.int kd n)) :
  (Instr.sliceAt T (.slice a len cap) lo hi none).run P w=.ok (.slice (if cap=m then a else a.map (·.add (m*k))) (n - m) (cap - m)) w:=by
 obtain⟨h1,h2⟩:=sliceB.out hT
 have h3:=Qe h2 w
 have hb:∀ (kd:IntKind) (i:Nat) (y:Nat) (c:BoundsCode),i≤y→(Instr.sliceBound (.int kd (i:Int)) y c).run P w=.ok i w:=fun kd i y c hi=>by
  have:(0:Int)≤i∧(i:Int)≤y:=⟨by omega,by omega⟩
  simp [Instr.sliceBound,asIntOf,this]
 have hs:(Instr.sliceBounds true len cap lo hi none).run P w=.ok (m,n,cap) w:=by
  rcases h4 with ⟨rfl,rfl⟩ | ⟨kd,rfl⟩ <;> rcases h5 with ⟨rfl,rfl⟩ | ⟨kd',rfl⟩
  ·simp [Instr.sliceBounds]
  ·simp [Instr.sliceBounds,hb _ n cap _ (by omega)]
  ·simp [Instr.sliceBounds,hb _ m n _ h0]
  ·simp [Instr.sliceBounds,hb _ m n _ h0,hb _ n cap _ (by omega)]
 simp [Instr.sliceAt,Instr.slice,run_underlying h1,hs,h3]
theorem Rf2 {P:Program} {T E k:Nat} (hT:sliceB P T E k=true) (a:Option Addr) (len cap m n x:Nat) (k1 k2 k3:IntKind) (w:World) (h0:m≤n) (hn:n≤x) (hx:x≤cap) :
  ∃ v,(Instr.sliceAt T (.slice a len cap) (some (.int k1 m)) (some (.int k2 n)) (some (.int k3 x))).run P w=.ok v w:=by
 obtain⟨h1,h2⟩:=sliceB.out hT
 have h3:=Qe h2 w
 have hb:∀ (kd:IntKind) (i:Nat) (y:Nat) (c:BoundsCode),i≤y→(Instr.sliceBound (.int kd (i:Int)) y c).run P w=.ok i w:=fun kd i y c hi=>by
  have:(0:Int)≤i∧(i:Int)≤y:=⟨by omega,by omega⟩
  simp [Instr.sliceBound,asIntOf,this]
 have hs:(Instr.sliceBounds true len cap (some (.int k1 m)) (some (.int k2 n)) (some (.int k3 x))).run P w=.ok (m,n,x) w:=by
  simp [Instr.sliceBounds,hb _ m n _ h0,hb _ n x _ hn,hb _ x cap _ hx]
 exact⟨_,by simp [Instr.sliceAt,Instr.slice,run_underlying h1,hs,h3]; rfl⟩

theorem V.inv_vcap {w:World} {β:H5} {L:Loc} {i ver k k' n c t:Nat} {xs:List AV} {x:Value} (hi:lk L i=some (.vec t k' ver xs)) (h:V w β L (.vcap i ver k n c) x):Qc9 w (β.at_ i) t k n c x:=by
 cases h with
 | data h=>cases h
 | vcap hp _=>
  obtain⟨t',ver',xs',h1,_,h3⟩:=hp
  rw [hi] at h1; cases h1
  exact h3 rfl
theorem Qc9.one {w:World} {ob:Option Nat} {t k n c:Nat} {v:Value} (h:Qc9 w ob t k n c v):v.oneCell'=true:=by
 rcases h with ⟨rfl,_⟩ | ⟨b,rfl,_⟩ <;> rfl

section state
variable {N:Cfg} {l:Fr} {L:Loc} {w0 w:World} {β0 β:H5} {L0:Loc} {a:Act}
theorem Q8.over {s:Nat} {u:AV} (h:Q8 a w β L l) (hv:V w β L u (a.tmps.getD s undef)):Q8 a w β L ((s,u)::l):=⟨fun t=>by
 rw [look]
 cases hb:Nat.beq s t with
 | true=>have:=Kv hb; subst this; exact hv
 | false=>exact h.tmp t⟩
theorem Rk.vcap (hs:Rk N w0 β0 L0 a w β l L) {s i ver k n t:Nat} {xs:List AV} (h1:look l s=.vec i ver k n) (hi:lk L i=some (.vec t k ver xs)):∃ c,xs.length≤c∧c≤maxLen∧Rk N w0 β0 L0 a w β ((s,.vcap i ver k xs.length c)::l) L:=by
 have hv:=hs.frame.tmp s
 rw [h1] at hv
 obtain⟨rfl,_,h⟩:=G62 hs.sat hi hv
 suffices h0:∃ c,xs.length≤c∧c≤maxLen∧Qc9 w (β.at_ i) t k xs.length c (a.tmps.getD s undef) from by
  obtain⟨c,c1,c2,c3⟩:=h0
  exact⟨c,c1,c2,hs.sat,hs.step,hs.frame.over (.vcap ⟨t,ver,xs,hi,M8,fun _=>c3⟩ c3.one),hs.size,hs.base,hs.defers⟩
 rcases h with ⟨e1,rfl,e3⟩ | ⟨b,cap,vs,e1,e2,e3,e4,e5,e6,_⟩
 ·exact⟨0,M8,Nat.zero_le _,.inl ⟨e1,rfl,rfl,e3⟩⟩
 ·exact⟨cap,e3,e4,.inr ⟨b,e1,e2,e3,e4,by simp [World.shape?,e5,e6]⟩⟩

theorem Y04 {k:Nat} (xs:List AV) (q:Nat) {j:Nat} {u:AV} (hj:(flat xs).length≤j) (hu:(flat (xs++List.replicate q (.agg (List.replicate k .junk))))[j]? = some u):u=.junk:=by
 rw [G3b,M9 hj] at hu
 have key:∀ (q:Nat) (j:Nat),(flat (List.replicate q (AV.agg (List.replicate k .junk))))[j]? = some u→u=.junk:=by
  intro q
  induction q with
  | zero=>intro j h; simp [flat] at h
  | succ q ih=>
   intro j h
   rw [List.replicate_succ,flat] at h
   rcases Kx j (AV.cells (.agg (List.replicate k .junk))).length with hj | hj
   ·rw [Ma hj] at h
    exact List.eq_of_mem_replicate (M6 h)
   ·rw [M9 hj] at h
    exact ih _ h
 exact key q _ hu
theorem Rk.vcapExt (hs:Rk N w0 β0 L0 a w β l L) {s i ver k m c t:Nat} {xs:List AV} (h1:look l s=.vcap i ver k m c) (hi:lk L i=some (.vec t k ver xs)) (hm:xs.length≤m) (h2:m≤c) (h0:0 < xs.length) :
  ∃ β',Rk N w0 β0 L0 a w β' ((s,.vsl i (ver+1) k 0 m)::l) ((i,.vec t k (ver+1) (xs++List.replicate (m - xs.length) (.agg (List.replicate k .junk))))::L):=by
 have hv:=hs.frame.tmp s
 rw [h1] at hv
 have hc:=hv.inv_vcap hi
 obtain⟨o1,o2⟩:=hs.sat.obj i _ hi
 rcases hc with ⟨_,_,rfl,_⟩ | ⟨b,e1,e2,e3,e4,e5⟩
 ·omega
 ·rcases o2 with ⟨o2,_⟩ | ⟨b',o2,vs,o3,o4,o5⟩
  ·rw [show β i=β.at_ i from rfl,e2] at o2; cases o2
  ·rw [show β i=β.at_ i from rfl,e2] at o2; cases o2
   have h4:vs.size=c*k:=by simpa [World.shape?,o3] using e5
   have h3:(xs++List.replicate (m - xs.length) (AV.agg (List.replicate k .junk))).length=m:=by simp; omega
   obtain⟨st,sat⟩:=Rw (w':=w) (t:=t) (k:=k) (ver1:=ver+1) (xs':=xs++List.replicate (m - xs.length) (.agg (List.replicate k .junk))) (ob':=β.at_ i) hs.sat (.inr ⟨ver,xs,hi,by omega,fun e=>by omega⟩) rfl rfl ⟨rfl,M8⟩ (M8) (fun _ _ _=>rfl) (.inr (.inl ⟨by rw [inL,hi]; rfl,rfl⟩))
   have hk:∀ y∈xs++List.replicate (m - xs.length) (AV.agg (List.replicate k .junk)),y.cells.length=k:=fun y hy=>by
    rcases Mk.1 hy with h | h
    ·exact o1 y h
    ·rw [List.eq_of_mem_replicate h]; simp [AV.cells]
   have sat':=sat ⟨hk,.inr ⟨b,e2,vs,o3,by rw [h3,h4]; exact Nat.mul_le_mul_right _ h2,fun j u v hu hv=>?_⟩⟩
   ·refine⟨_,sat',hs.step.trans st,(hs.frame.step st).over (.vsl ⟨t,ver+1,_,by rw [Gi,if_pos rfl],M8,fun _=>⟨by rw [h3]; omega,⟨_,c,e1,h2,e4,.inr ⟨b,by simp [upP,e2],by simp⟩⟩,fun _=>.inr ⟨b,c,e1,by simp [upP,e2],h2,e4,e5⟩⟩⟩ (by rw [e1]; rfl)),hs.size,hs.base,hs.defers.step st⟩
   ·rcases Kx j (flat xs).length with hj | hj
    ·rw [G3b,Ma hj] at hu
     exact(o5 j u v hu hv).mono st.stab
    ·rw [Y04 xs _ hj hu]; exact .junk
theorem Rk.vcut (hs:Rk N w0 β0 L0 a w β l L) {s i ver k m t:Nat} {xs:List AV} (h1:look l s=.vsl i ver k 0 m) (hi:lk L i=some (.vec t k ver xs)) :
  ∃ β',Rk N w0 β0 L0 a w β' ((s,.vec i (ver+1) k m)::l) ((i,.vec t k (ver+1) (xs.take m))::L):=by
 have hv:=hs.frame.tmp s
 rw [h1] at hv
 have hc:=hv.inv_vsl0 hi
 obtain⟨_,hm,_⟩:=hv.inv_vsl hi
 rw [Nat.zero_add] at hm
 obtain⟨o1,o2⟩:=hs.sat.obj i _ hi
 have h0:(xs.take m).length=m:=by rw [List.length_take]; omega
 have hk:∀ y∈xs.take m,y.cells.length=k:=fun y hy=>o1 y (List.mem_of_mem_take hy)
 obtain⟨st,sat⟩:=Rw (w':=w) (t:=t) (k:=k) (ver1:=ver+1) (xs':=xs.take m) (ob':=β.at_ i) hs.sat (.inr ⟨ver,xs,hi,by omega,fun e=>by omega⟩) rfl rfl ⟨rfl,M8⟩ (M8) (fun _ _ _=>rfl) (.inr (.inl ⟨by rw [inL,hi]; rfl,rfl⟩))
 have h2:(a.tmps.getD s undef).oneCell'=true:=by
  rcases hc with ⟨e,_⟩ | ⟨b,cap,e,_⟩ <;> rw [e] <;> rfl
 have sat':=sat ⟨hk,?_⟩
 ·refine⟨_,sat',hs.step.trans st,(hs.frame.step st).over (.vec ⟨t,ver+1,_,by rw [Gi,if_pos rfl],M8,fun _=>⟨h0.symm,?_⟩⟩ h2),hs.size,hs.base,hs.defers.step st⟩
  rcases hc with ⟨e1,e2,e3⟩ | ⟨b,cap,e1,e2,e3,e4,e5⟩
  ·exact .inl ⟨e1,e2,by simpa [upP] using e3⟩
  ·exact .inr ⟨b,cap,e1,by simpa [upP] using e2,e3,e4,e5⟩
 ·rcases o2 with ⟨o2,rfl⟩ | ⟨b',o2,vs,o3,o4,o5⟩
  ·exact .inl ⟨o2,by simp⟩
  ·refine .inr ⟨b',o2,vs,o3,Nat.le_trans (Nat.mul_le_mul_right _ (by rw [h0]; exact hm)) o4,fun j u v hu hv=>?_⟩
   rw [G7d o1] at hu
   have hj:=(M3 hu).1
   rw [List.length_take] at hj
   rw [Md,if_pos (by omega)] at hu
   exact(o5 j u v hu hv).mono st.stab
end state

section ghosts
variable {P:Program} {N:Cfg} {Q:Post} {l:Fr} {L:Loc} {ops:Array Oper} {rest:List Oper} {c:Code}
theorem Y3f (s:Nat) {i ver k n t:Nat} {xs:List AV} (h1:look l s=.vec i ver k n) (hi:lk L i=some (.vec t k ver xs)) (hk:∀ q,xs.length≤q→q≤maxLen→JC P N c Q ((s,.vcap i ver k xs.length q)::l) L):JC P N c Q l L:=
 fun n w0 β0 L0 a w β hs=>by
  obtain⟨q,q1,q2,q3⟩:=hs.vcap h1 hi
  exact hk q q1 q2 n w0 β0 L0 a w β q3
theorem Y11 (s:Nat) {i ver k m q t:Nat} {xs:List AV} (h1:look l s=.vcap i ver k m q) (hi:lk L i=some (.vec t k ver xs)) (hm:xs.length≤m) (h2:m≤q) (h0:0 < xs.length)
  (hk:JL P N ops rest Q ((s,.vsl i (ver+1) k 0 m)::l) ((i,.vec t k (ver+1) (xs++List.replicate (m - xs.length) (.agg (List.replicate k .junk))))::L)):JL P N ops rest Q l L:=
 fun n w0 β0 L0 a w β hs=>by
  obtain⟨β',h⟩:=hs.vcapExt h1 hi hm h2 h0
  exact hk n w0 β0 L0 a w β' h
theorem Q2d (s:Nat) {i ver k m q t:Nat} {xs:List AV} (X:List AV) (hX:xs++List.replicate (m - xs.length) (.agg (List.replicate k .junk))=X) (h1:look l s=.vcap i ver k m q) (hi:lk L i=some (.vec t k ver xs)) (hm:xs.length≤m) (h2:m≤q) (h0:0 < xs.length)
  (hk:JL P N ops rest Q ((s,.vsl i (ver+1) k 0 m)::l) ((i,.vec t k (ver+1) X)::L)):JL P N ops rest Q l L:=by
 subst hX
 exact Y11 s h1 hi hm h2 h0 hk
theorem Q48 (s:Nat) {i ver k m t:Nat} {xs:List AV} (h1:look l s=.vsl i ver k 0 m) (hi:lk L i=some (.vec t k ver xs)) (hk:JC P N c Q ((s,.vec i (ver+1) k m)::l) ((i,.vec t k (ver+1) (xs.take m))::L)):JC P N c Q l L:=
 fun n w0 β0 L0 a w β hs=>by
  obtain⟨β',h⟩:=hs.vcut h1 hi
  exact hk n w0 β0 L0 a w β' h
end ghosts

section ops
variable {P:Program} {N:Cfg} {o:Oper} {l:Fr} {L:Loc} {u:AV}
theorem R1c {x p q r:Operand} {T E k i ver n lo hi mx:Nat} {k1 k2 k3:IntKind} {z1 z2 z3:Int} {xs:List AV} (ho:o.op=.slice T x (some p) (some q) (some r)) (hT:sliceB P T E k=true) (hx:ev l x=.vec i ver k n) (hL:lk L i=some (.vec E k ver xs))
  (hp:ev l p=.sc (.int k1 z1)) (hq:ev l q=.sc (.int k2 z2)) (hr:ev l r=.sc (.int k3 z3)) (e1:z1=(lo:Int)) (e2:z2=(hi:Int)) (e3:z3=(mx:Int)) (h1:lo≤hi) (h2:hi≤mx) (h3:mx≤xs.length):H2 P o l L (Is .junk L):=
 Hj fun a w β h0 hf=>by
  subst e1 e2 e3
  have hv:=hf.ev x
  rw [hx] at hv
  have v1:=hf.ev p; rw [hp] at v1
  have v2:=hf.ev q; rw [hq] at v2
  have v3:=hf.ev r; rw [hr] at v3
  obtain⟨rfl,a',cap,he,h5,h6,h7⟩:=J95 h0 hL hv
  obtain⟨v,h4⟩:=Rf2 (P:=P) hT a' xs.length cap lo hi mx k1 k2 k3 w h1 h2 (by omega)
  refine⟨v,?_,.junk⟩
  simp only [execOp,ho,he,Sem.run_bind,Option.map_some,v1.inv_sc,v2.inv_sc,v3.inv_sc]
  rw [h4]
  rfl
theorem R1b {x:Operand} {T E k i ver n c:Nat} {xs:List AV} (ho:o.op=.call { callee:=.builtin .cap,args:=#[x],argTypes:=#[T] }) (hT:sliceB P T E k=true) (hx:ev l x=.vcap i ver k n c) (hL:lk L i=some (.vec E k ver xs)):H2 P o l L (Is (I64 (c:Int)) L):=
 Hj fun a w β h0 hf=>by
  have hv:=hf.ev x
  rw [hx] at hv
  refine⟨.int .i64 c,?_,.sc⟩
  rcases hv.inv_vcap hL with ⟨e1,_,e2,_⟩ | ⟨b,e1,_⟩
  ·subst e2
   simp [execOp,ho,resolve,invoke,builtin,Builtin.cap_,underlying,(sliceB.out hT).1,e1,goInt]
  ·simp [execOp,ho,resolve,invoke,builtin,Builtin.cap_,underlying,(sliceB.out hT).1,e1,goInt]
theorem Jca {x p:Operand} {T E k i ver n c m:Nat} {kd:IntKind} {z:Int} {xs:List AV} (ho:o.op=.slice T x none (some p) none) (hT:sliceB P T E k=true) (hx:ev l x=.vcap i ver k n c) (hL:lk L i=some (.vec E k ver xs)) (hp:ev l p=.sc (.int kd z)) (hz:z=(m:Int)) (hm:m≤c) :
  H2 P o l L (Is (.vcap i ver k m c) L):=
 Hj fun a w β h0 hf=>by
  subst hz
  have hv:=hf.ev x
  rw [hx] at hv
  have v1:=hf.ev p; rw [hp] at v1
  rcases hv.inv_vcap hL with ⟨e1,e2,e3,e4⟩ | ⟨b,e1,e2,e3,e4,e5⟩
  ·have:m=0:=by omega
   subst this
   refine⟨.slice none 0 0,?_,.vcap ⟨E,ver,xs,hL,M8,fun _=>.inl ⟨rfl,rfl,e3,e4⟩⟩ rfl⟩
   simp only [execOp,ho,e1,Sem.run_bind,Option.map_none,Option.map_some,v1.inv_sc]
   rw [H73 hT none 0 0 0 0 _ _ w (M8) (M8) (.inl ⟨rfl,rfl⟩) (.inr ⟨kd,rfl⟩)]
   rfl
  ·refine⟨.slice (some ⟨b,0,none⟩) m c,?_,.vcap ⟨E,ver,xs,hL,M8,fun _=>.inr ⟨b,rfl,e2,hm,e4,e5⟩⟩ rfl⟩
   simp only [execOp,ho,e1,Sem.run_bind,Option.map_none,Option.map_some,v1.inv_sc]
   rw [H73 hT (some ⟨b,0,none⟩) n c 0 m _ _ w (Nat.zero_le _) hm (.inl ⟨rfl,rfl⟩) (.inr ⟨kd,rfl⟩)]
   simp [Addr.add_lit]
theorem Ra8 {x p:Operand} {T E k i ver n c m:Nat} {kd:IntKind} {z:Int} {xs:List AV} (ho:o.op=.slice T x (some p) none none) (hT:sliceB P T E k=true) (hx:ev l x=.vcap i ver k n c) (hL:lk L i=some (.vec E k ver xs)) (hp:ev l p=.sc (.int kd z)) (hz:z=(m:Int)) (hm:m≤n) (hn:n≤xs.length) (h0:0 < xs.length) :
  H2 P o l L (Is (.vsl i ver k m (n - m)) L):=
 Hj fun a w β h1 hf=>by
  subst hz
  have hv:=hf.ev x
  rw [hx] at hv
  have v1:=hf.ev p; rw [hp] at v1
  rcases hv.inv_vcap hL with ⟨e1,e2,e3,e4⟩ | ⟨b,e1,e2,e3,e4,e5⟩
  ·obtain⟨_,o2⟩:=h1.obj i _ hL
   rcases o2 with ⟨_,o2⟩ | ⟨b',o2,_⟩
   ·subst o2; simp at h0
   ·rw [show β i=β.at_ i from rfl,e4] at o2; cases o2
  ·refine⟨.slice (if c=m then some ⟨b,0,none⟩ else (some ⟨b,0,none⟩:Option Addr).map (·.add (m*k))) (n - m) (c - m),?_,.vsl ⟨E,ver,xs,hL,M8,fun _=>⟨by omega,⟨_,_,rfl,by omega,by omega,?_⟩,fun h=>?_⟩⟩ rfl⟩
   ·simp only [execOp,ho,e1,Sem.run_bind,Option.map_none,Option.map_some,v1.inv_sc]
    rw [H73 hT (some ⟨b,0,none⟩) n c m n _ _ w hm e3 (.inr ⟨kd,rfl⟩) (.inl ⟨rfl,rfl⟩)]
    rfl
   ·by_cases h:n - m=0
    ·exact .inl h
    ·refine .inr ⟨b,e2,?_⟩
     rw [if_neg (by omega)]
     simp [Addr.add_lit]
   ·subst h
    refine .inr ⟨b,c,?_,e2,by omega,e4,e5⟩
    split <;> simp [Addr.add_lit]
theorem Ga7 {x:Operand} {T E k i ver n lo hi:Nat} {lop h0:Option Operand} {xs:List AV} (ho:o.op=.slice T x lop h0 none) (hT:sliceB P T E k=true) (hx:ev l x=.vsl i ver k 0 n) (hL:lk L i=some (.vec E k ver xs))
  (h7:(lop=none∧lo=0)∨∃ kd p,lop=some p∧ev l p=.sc (.int kd lo)) (h8:(h0=none∧hi=n)∨∃ kd p,h0=some p∧ev l p=.sc (.int kd hi)) (h1:lo≤hi) (h2:hi≤xs.length) (h5:Nat.blt 0 k=true) :
  H2 P o l L (Is (.vsl i ver k lo (hi - lo)) L):=
 Hj fun a w β h6 hf=>by
  have h9:0 < k:=by simpa [Nat.blt_eq] using h5
  have hv:=hf.ev x
  rw [hx] at hv
  obtain⟨_,hn,_⟩:=hv.inv_vsl hL
  obtain⟨_,o2⟩:=h6.obj i _ hL
  have h3:(lop.map a.eval=none∧lo=0)∨∃ kd,lop.map a.eval=some (.int kd lo):=by
   rcases h7 with ⟨rfl,h⟩ | ⟨kd,p,rfl,hp⟩
   ·exact .inl ⟨rfl,h⟩
   ·have:=hf.ev p; rw [hp] at this
    exact .inr ⟨kd,by simp [this.inv_sc]⟩
  have h4:(h0.map a.eval=none∧hi=n)∨∃ kd,h0.map a.eval=some (.int kd hi):=by
   rcases h8 with ⟨rfl,h⟩ | ⟨kd,p,rfl,hp⟩
   ·exact .inl ⟨rfl,h⟩
   ·have:=hf.ev p; rw [hp] at this
    exact .inr ⟨kd,by simp [this.inv_sc]⟩
  rcases hv.inv_vsl0 hL with ⟨e1,e2,e3⟩ | ⟨b,cap,e1,e2,e3,e4,e5⟩
  ·have a0:xs=[]:=by
    rcases o2 with ⟨_,o2⟩ | ⟨b',o2,_⟩
    ·exact o2
    ·rw [show β i=β.at_ i from rfl,e3] at o2; cases o2
   subst a0
   have:hi=0:=by simpa using h2
   subst this
   have:lo=0:=by omega
   subst this
   refine⟨.slice none 0 0,?_,.vsl ⟨E,ver,[],hL,M8,fun _=>⟨by simp,⟨none,0,rfl,M8,Nat.zero_le _,.inl rfl⟩,fun _=>.inl ⟨rfl,rfl,e3⟩⟩⟩ rfl⟩
   simp only [execOp,ho,e1,Sem.run_bind,Option.map_none]
   rw [H73 hT none 0 0 0 0 _ _ w (M8) (M8) h3 (h4.imp (fun h=>⟨h.1,rfl⟩) id)]
   rfl
  ·have a1:xs.length≤cap:=by
    rcases o2 with ⟨_,o2⟩ | ⟨b',o2,vs,o3,o4,_⟩
    ·subst o2; simp
    ·rw [show β i=β.at_ i from rfl,e2] at o2; cases o2
     have hs:vs.size=cap*k:=by simpa [World.shape?,o3] using e5
     rw [hs] at o4
     exact Nat.le_of_mul_le_mul_right o4 h9
   refine⟨.slice (if cap=lo then some ⟨b,0,none⟩ else (some ⟨b,0,none⟩:Option Addr).map (·.add (lo*k))) (hi - lo) (cap - lo),?_,.vsl ⟨E,ver,xs,hL,M8,fun _=>⟨by omega,⟨_,_,rfl,by omega,by omega,?_⟩,fun h=>?_⟩⟩ rfl⟩
   ·simp only [execOp,ho,e1,Sem.run_bind,Option.map_none]
    rw [H73 hT (some ⟨b,0,none⟩) n cap lo hi _ _ w h1 (by omega) h3 h4]
    rfl
   ·by_cases h:hi - lo=0
    ·exact .inl h
    ·refine .inr ⟨b,e2,?_⟩
     rw [if_neg (by omega)]
     simp [Addr.add_lit]
   ·subst h
    refine .inr ⟨b,cap,?_,e2,by omega,e4,e5⟩
    split <;> simp [Addr.add_lit]
theorem Ra6 {x:Operand} {T E k k' i ver off n:Nat} {xs:List AV} (ho:o.op=.call { callee:=.builtin .len,args:=#[x],argTypes:=#[T] }) (hT:sliceB P T E k'=true) (hx:ev l x=.vsl i ver k off n) (hL:lk L i=some (.vec E k ver xs)):H2 P o l L (Is (I64 (n:Int)) L):=
 Hj fun a w β h0 hf=>by
  have hv:=hf.ev x
  rw [hx] at hv
  obtain⟨_,_,a',cap,e1,_⟩:=hv.inv_vsl hL
  refine⟨.int .i64 n,?_,.sc⟩
  simp [execOp,ho,resolve,invoke,builtin,Builtin.len_,underlying,(sliceB.out hT).1,e1,goInt]

theorem Ja2 (w:World) (tS tR e:TypeId) (ht:P.underlying tS=some (.slice e)) (size:Nat) (hz:∀ w,(Go.sizeOf e).run P w=.ok size w)
  (a b:Addr) (la ca lb cb:Nat) (h1:a.block≠b.block) (tA tB:TypeId) (kA kB:Nat)
  (h4:w.shape? a.block=some (tA,kA)) (h5:kA≠0) (h6:w.shape? b.block=some (tB,kB))
  (h7:w.frozen? b=false) (h8:w.frozen? { block:=b.block,off:=kB }=false) :
  (Extern.SlicesOverlaps.overlaps #[tS,tS] #[tR] #[.slice (some a) la ca,.slice (some b) lb cb]).run P w=.ok (.bool false) w:=by
 have h9:(a.block != b.block)=true:=by simpa using h1
 have h2:(a.block==b.block)=false:=by simpa using h1
 change Sem.run P (α:=Value) (do
  let some t := (#[tS, tS] : Array TypeId)[0]? | stuck "slices.overlaps: no parameter types"
  let .slice elem ← underlying t | stuck "slices.overlaps: slice type expected"
  let size ← sizeOf elem
  match (some a:Option Addr),(some b:Option Addr) with
  | some a,some b=>
   if la=0∨lb=0∨size=0 then pure (Value.bool false)
   else if a.block != b.block&&(← frozen a)&&(← frozen b) then unsupported .addressObserved
   else do
    if a.block != b.block then do
     noView a; noView b
     if ← mayBeOne a b then return Value.bool ((← choose (.extern "sameAddr.stringBytes" 2)) == 1)
    pure (Value.bool (a.block==b.block&&a.off < b.off+lb*size&&b.off < a.off+la*size))
  | _,_=>pure (Value.bool false)) w=_
 by_cases h0:la=0∨lb=0∨size=0
 ·simp [run_underlying ht,hz,h0]
 ·cases kA with
  | zero=>exact absurd rfl h5
  | succ kA=>
   cases a0:w.frozen? a <;> cases h3:w.frozen? { block:=a.block,off:=kA+1 } <;>
    simp [run_underlying ht,hz,h0,h9,h2,frozen,noView,viewAt,mayBeOne,stringish,shape,Sem.run,h4,h6,h7,h8,a0,h3]
theorem Qcb {f:FuncId} {fn:Func} {x y:Operand} {T S E k kx i ver n off:Nat} {ts:Array TypeId} {xs ys:List AV} (ho:o.op=.call { callee:=.value (.func f),args:=#[x,y],argTypes:=ts })
  (hf : P.funcs[f]? = some fn) (h3 : (fn.name == "runtime.NumGoroutine") = false) (hb : fn.body.isNone = true) (h8 : Extern.findNext fn = none) (he : Extern.find fn = some (Extern.SlicesOverlaps.overlaps #[T, T] #[S]))
  (hT:sliceB P T E k=true) (h6:Nat.blt 0 k=true) (hx:Qf (ev l x)=some (kx,ys)) (h9:kx=k) (hy:ev l y=.vsl i ver k off n) (h2:lk L i=some (.vec E k ver xs)) (h0:0 < ys.length) (h1:0 < n):H2 P o l L (Is (.sc (.bool false)) L):=
 Hj fun a w β h7 h4=>by
  subst h9
  have a0:0 < kx:=by simpa [Nat.blt_eq] using h6
  have hv:=(h4.ev x).Qf hx
  have h5:=h4.ev y
  rw [hy] at h5
  obtain⟨cap,b,off1,cur,tA,fz,e1,e2,e5,e6⟩:∃ cap b off1 cur tA fz,a.eval x=.slice (some ⟨b,off1,none⟩) ys.length cap∧β.at_ i≠some b∧w.heap[b]? = some (.cells cur tA fz)∧cur.size≠0:=by
   generalize a.eval x=vx at hv
   cases hv with
   | nil=>simp at h0
   | @list _ b off1 cap _ vals a7 hm hk hS h=>
    have a1:0 < (flat ys).length:=by rw [J1 hk]; exact Nat.mul_pos h0 a0
    obtain⟨s1,s2⟩:=hS 0 a1
    have a2:β.at_ i≠some b:=fun e=>s1.kept i _ h2 e
    unfold World.cell? at s2
    cases hh:w.heap[b]? with
    | none=>simp [hh] at s2
    | some ob=>
     cases ob with
     | cells cur tA fz=>
      simp [hh] at s2
      refine⟨cap,b,off1,cur,tA,fz,rfl,a2,hh,fun e=>?_⟩
      have:=(Ks s2).1
      omega
     | _=>simp [hh] at s2
  obtain⟨_,hn,a',cap',d1,d2,d3,d4⟩:=h5.inv_vsl h2
  rcases d4 with d4 | ⟨b',d4,rfl⟩
  ·omega
  ·obtain⟨_,vs',q2,q3,_⟩:=H1c h7 h2 d4
   have a3:b≠b':=fun e=>by subst e; exact e2 d4
   have a4:w.shape? b=some (tA,cur.size):=by simp [World.shape?,e5]
   have a5:w.shape? b'=some (E,vs'.size):=by simp [World.shape?,q2]
   have hr:=Ja2 (P:=P) w T S E (sliceB.out hT).1 kx (fun w=>Qe (sliceB.out hT).2 w) ⟨b,off1,none⟩ ⟨b',off*kx,none⟩ ys.length cap n cap' a3 tA E _ _ a4 e6 a5 (by simp [World.frozen?,q2]) (by simp [World.frozen?,q2])
   refine⟨.bool false,?_,.sc⟩
   have hc:=run_callFunc_extern (P:=P) hf h3 hb h8 he #[.slice (some ⟨b,off1,none⟩) ys.length cap,.slice (some ⟨b',off*kx,none⟩) n cap'] w
   rw [hr] at hc
   simp only [Result.andThen] at hc
   have a6:a.eval (.func f)=.func (.func f) #[] #[]:=rfl
   simp [execOp,ho,resolve,a6,Deferred.ofValue,invoke,e1,d1,hc]
theorem Y18 (j:Nat) {s q:Operand} {T Tn E k by_ i ver m c n:Nat} {kq kn:IntKind} {zi:Int} {xs:List AV} (y:AV) (zs:List Value) (ho:o.op=.call { callee:=.builtin .append,args:=#[s,q],argTypes:=#[T,Tn] }) (hs:ev l s=.vcap i ver k m c) (hi:lk L i=some (.vec E k ver xs)) (hq:ev l q=.sc (.int kq zi)) (c1:zi=(n:Int))
  (hT:sliceB P T E k=true) (c2:P.underlying Tn=some (.int kn)) (hE:Z8 P E k by_=true) (hz:(P.info? E).bind (fun i=>i.zero.map Value.cells)=some zs.toArray) (a7:zs.length=k) (b7:Nat.blt 0 k=true) (hy:y.cells.length=k) (hD:∀ (w:World) (S:Nat→Nat→Prop) (j:Nat) u v,y.cells[j]? = some u→zs[j]? = some v→D w S u v)
  (hb:(m+n)*by_≤140737488355328) (h6:m+n≤maxLen) (hm:m≤xs.length) (h0:0 < xs.length) (hg:c < m+n) (hn:0 < n) (hj:lk L j=none) :
  H2 P o l L (Is (.vec j 0 k (xs.take m++List.replicate n y).length) ((j,.vec E k 0 (xs.take m++List.replicate n y))::L)):=by
 subst c1
 intro a w β K Q h4 hf hK
 have a8:0 < k:=by simpa [Nat.blt_eq] using b7
 have hv:=hf.ev s
 rw [hs] at hv
 have h3:=hf.ev q
 rw [hq] at h3
 obtain⟨inf,z,e1,e2,e3,e4,e5,e6⟩:=Z8.out hE
 have a9:z.cells=zs.toArray:=by
  rw [e1] at hz
  simp only [Option.bind_some,e4,Option.map_some] at hz
  exact M5 hz
 rcases hv.inv_vcap hi with ⟨_,_,_,d4⟩ | ⟨b,d1,d2,d3,d4,d5⟩
 ·obtain⟨_,o2⟩:=h4.obj i _ hi
  rcases o2 with ⟨_,o2⟩ | ⟨b',o2,_⟩
  ·subst o2; simp at h0
  ·rw [show β i=β.at_ i from rfl,d4] at o2; cases o2
 ·obtain⟨q1,vs,q2,q3,q4⟩:=H1c h4 hi d2
  have c6:m*k≤xs.length*k:=Nat.mul_le_mul_right _ hm
  have h7:(vs.toList.take (m*k)).length=m*inf.size:=by rw [e2,List.length_take,Array.length_toList]; omega
  have h8:∀ j v,(vs.toList.take (m*k))[j]? = some v→w.drew.cell? ((⟨b,0,none⟩:Addr).add j)=some v:=fun j v hv=>by
   have hj:=(M3 hv).1
   rw [List.length_take] at hj
   rw [Md,if_pos (by omega)] at hv
   rw [Addr.add_lit,Nat.zero_add]
   show w.cell? _=_
   simp [World.cell?,q2]
   simpa using hv
  have b8:Builtin.nextslicecap (m+n) c*inf.bytes≤281474976710656:=by
   have:=Nat.mul_le_mul_right inf.bytes (nextslicecap_le hg)
   rw [e3] at this ⊢
   rw [Nat.mul_assoc] at this
   omega
  have c3:n*inf.bytes≤281474976710656:=by
   have:=Nat.mul_le_mul_right by_ (show n≤m+n by omega)
   rw [e3]; omega
  have hr:=Lib.run_append_grow_zeros (P:=P) w T Tn o.type E inf z kq kn (sliceB.out hT).1 c2 e1 e4 (some ⟨b,0,none⟩) m c (vs.toList.take (m*k)) (run_firstCells_some (P:=P) w.drew inf.size m ⟨b,0,none⟩ m c _ h7 h8) n hn (by omega) hg (by have:=h6; simp [maxLen] at this; omega) c3 b8
  have h9:=grownCap_ge w (m+n) c E
  have b0:=grownCap_le_maxLen w (m+n) c E h6
  generalize c7:grownCap w (m+n) c E=gc at hr h9 b0
  generalize a0:(vs.toList.take (m*k)).toArray++Builtin.zeroCells z.cells n++Builtin.zeroCells z.cells (gc - (m+n))=row at hr
  have a1:∀ q,(Builtin.zeroCells z.cells q).toList.length=q*k:=fun q=>by simp [Builtin.zeroCells,a9,a7]
  have b1:row.size=gc*k:=by
   rw [← a0]
   have h1:=a1 n
   have h2:=a1 (gc - (m+n))
   rw [Array.length_toList] at h1 h2
   rw [Array.size_append,Array.size_append,List.size_toArray,h7,e2,h1,h2,← Nat.add_mul,← Nat.add_mul]
   congr 1; omega
  have b9:(execOp a.eval o).run P w=.ok (.value (.slice (some ⟨w.heap.size,0,none⟩) (m+n) gc)) (w.drew.alloc (.cells row E)):=by
   simp [execOp,ho,resolve,invoke,builtin,d1,h3.inv_sc,hr]
  unfold Oper.wp
  rw [b9]
  have a2:(xs.take m++List.replicate n y).length=m+n:=by rw [Mf,List.length_take,List.length_replicate]; omega
  have a6:∀ b',b' < w.heap.size→(w.drew.alloc (.cells row E)).heap[b']? = w.heap[b']? := fun b' b2=>by
   show (w.heap.push (.cells row E))[b']? = _
   rw [Array.getElem?_push,if_neg (by omega)]
  have a3:(w.drew.alloc (.cells row E)).heap[w.heap.size]? = some (.cells row E (0,0)):=by
   show (w.heap.push (.cells row E))[w.heap.size]? = _
   simp
  have b3:(w.drew.alloc (.cells row E)).heap.size=w.heap.size+1:=by
   show (w.heap.push (.cells row E)).size=_
   simp
  obtain⟨st,sat⟩:=Rw (w':=w.drew.alloc (.cells row E)) (t:=E) (k:=k) (ver1:=0) (xs':=xs.take m++List.replicate n y) (ob':=some w.heap.size) h4 (.inl hj) rfl rfl ⟨rfl,Nat.le_succ _⟩ (by rw [b3]; omega) (fun b' b2 _=>a6 b' b2) (.inr (.inr ⟨_,rfl,M8,by rw [b3]; omega⟩))
  have a4:∀ x∈List.replicate n y,x.cells.length=k:=fun x hx=>by rw [List.eq_of_mem_replicate hx]; exact hy
  have c0:∀ y'∈xs.take m++List.replicate n y,y'.cells.length=k:=fun y' c4=>by
   rcases Mk.1 c4 with h | h
   ·exact q1 y' (List.mem_of_mem_take h)
   ·exact a4 y' h
  have b4:(flat (xs.take m)).length=m*k:=by rw [G7d q1,List.length_take,J1 q1]; omega
  refine hK _ _ _ _ _ ⟨rfl,rfl⟩ (sat ⟨c0,.inr ⟨_,rfl,row,a3,by rw [a2,b1]; exact Nat.mul_le_mul_right _ h9,fun j u v hu hv=>?_⟩⟩) st (.vec ⟨E,0,_,by rw [Gi,if_pos rfl],M8,fun _=>⟨rfl,.inr ⟨w.heap.size,gc,by rw [a2],by simp [upP],by rw [a2]; exact h9,b0,by unfold World.shape?; rw [a3]; simp only [b1]⟩⟩⟩ rfl)
  rw [G3b] at hu
  have h3:((vs.toList.take (m*k))++(Builtin.zeroCells z.cells n).toList++(Builtin.zeroCells z.cells (gc - (m+n))).toList)[j]? = some v:=by
   rw [← a0] at hv
   simpa [← Array.getElem?_toList] using hv
  have a5:(vs.toList.take (m*k)).length=m*k:=by rw [h7,e2]
  rcases Kx j (m*k) with h | h
  ·rw [Ma (by omega)] at hu
   rw [List.append_assoc,Ma (by omega),Md,if_pos h] at h3
   rw [G7d q1,Md,if_pos h] at hu
   exact(q4 j u v hu (by simpa using h3)).mono st.stab
  ·rw [M9 (by omega)] at hu
   have h5:=(M3 hu).1
   rw [J1 a4,b4,List.length_replicate] at h5
   rw [List.append_assoc,M9 (by omega),Ma (by rw [a5,a1]; exact h5)] at h3
   rw [b4] at hu
   rw [a5] at h3
   have b5:z.cells.size=k:=e5
   rw [Hcf _ _ _ (by rw [b5]; exact h5),b5] at h3
   have b6:(j - m*k) % k < k:=Nat.mod_lt _ a8
   have c5:(j - m*k) / k < n:=(Nat.div_lt_iff_lt_mul a8).2 h5
   have e:j - m*k=((j - m*k) / k)*k+(j - m*k) % k:=(Nat.div_add_mod (j - m*k) k).symm.trans (by rw [Nat.mul_comm k])
   rw [e,Gc4 a4 (y:=y) (by rw [List.getElem?_replicate,if_pos c5]) b6] at hu
   refine hD _ _ ((j - m*k) % k) u v hu ?_
   rw [← h3,a9]
   simp [a7,b6]
/-! ### Typed elements -/
theorem Q31 {α:Type} {d x:Operand} {T E k i ver m:Nat} {f:α→AV} {xs ys:List α} (ho:o.op=.call { callee:=.builtin .append,args:=#[d,x],argTypes:=#[T,T] }) (hT:sliceB P T E k=true) (hd:ev l d=.vsl i ver k 0 m) (hi:lk L i=some (.vec E k ver (xs.map f))) (hs:J2e L k (ev l x) (ys.map f)) (hc:∀ y,(f y).flatOk=true) (h0:m+ys.length≤xs.length) (h1:Nat.blt 0 k=true) :
  H2 P o l L (Is (.vsl i ver k 0 (m+ys.length)) ((i,.vec E k ver ((xs.take m++ys++xs.drop (m+ys.length)).map f))::L)):=by
 have h:=Y19 (P:=P) (m:=m) ho hT hd hi hs (fun y hy=>by
  obtain⟨z,_,rfl⟩:=Mm.1 hy
  exact hc z) (by simpa using h0) h1
 simp only [List.map_append,List.map_take,List.map_drop]
 simpa only [Mj] using h
theorem Rad {α:Type} (j:Nat) {s q:Operand} {T Tn E k by_ i ver m c n:Nat} {kq kn:IntKind} {zi:Int} {f:α→AV} {xs:List α} (y:α) (zs:List Value) (ho:o.op=.call { callee:=.builtin .append,args:=#[s,q],argTypes:=#[T,Tn] }) (hs:ev l s=.vcap i ver k m c) (hi:lk L i=some (.vec E k ver (xs.map f))) (hq:ev l q=.sc (.int kq zi)) (h5:zi=(n:Int))
  (hT:sliceB P T E k=true) (h6:P.underlying Tn=some (.int kn)) (hE:Z8 P E k by_=true) (hz:(P.info? E).bind (fun i=>i.zero.map Value.cells)=some zs.toArray) (h1:zs.length=k) (h3:Nat.blt 0 k=true) (h2:ZOk (f y).cells zs)
  (hb:(m+n)*by_≤140737488355328) (h4:m+n≤maxLen) (hm:m≤xs.length) (h0:0 < xs.length) (hg:c < m+n) (hn:0 < n) (hj:lk L j=none) :
  H2 P o l L (Is (.vec j 0 k (xs.take m++List.replicate n y).length) ((j,.vec E k 0 ((xs.take m++List.replicate n y).map f))::L)):=by
 have h:=Y18 (P:=P) j (f y) zs ho hs hi hq h5 hT h6 hE hz h1 h3 (by rw [h2.length,h1]) (fun w S j a b ha h7=>by
  have:=ZOk.get (w:=w) (β:=⟨fun _=>none,fun b i=>¬ S b i⟩) (L:=[]) h2 j a b ha h7
  refine(this.data_of_nil).mono fun b i hs=>⟨Classical.byContradiction fun hn=>hs.seen hn,rfl⟩) hb h4 (by simpa using hm) (by simpa using h0) hg hn hj
 simp only [List.map_append,List.map_take,List.map_replicate]
 simpa only [Mf,List.length_take,Mj,List.length_replicate] using h
theorem Qcf {α:Type} (j:Nat) {s q:Operand} {T Tn E k by_ i ver m c n:Nat} {kq kn:IntKind} {zi:Int} {f:α→AV} {xs:List α} (y:α) (zs:List Value) (X:List α) (hX:xs.take m++List.replicate n y=X) (ho:o.op=.call { callee:=.builtin .append,args:=#[s,q],argTypes:=#[T,Tn] }) (hs:ev l s=.vcap i ver k m c) (hi:lk L i=some (.vec E k ver (xs.map f))) (hq:ev l q=.sc (.int kq zi)) (h3:zi=(n:Int))
  (hT:sliceB P T E k=true) (h4:P.underlying Tn=some (.int kn)) (hE:Z8 P E k by_=true) (hz:(P.info? E).bind (fun i=>i.zero.map Value.cells)=some zs.toArray) (h5:zs.length=k) (h1:Nat.blt 0 k=true) (h6:ZOk (f y).cells zs)
  (hb:(m+n)*by_≤140737488355328) (h2:m+n≤maxLen) (hm:m≤xs.length) (h0:0 < xs.length) (hg:c < m+n) (hn:0 < n) (hj:lk L j=none) :
  H2 P o l L (Is (.vec j 0 k X.length) ((j,.vec E k 0 (X.map f))::L)):=by
 subst hX
 exact Rad j y zs ho hs hi hq h3 hT h4 hE hz h5 h1 h6 hb h2 hm h0 hg hn hj
theorem Q4b {α:Type} {d x:Operand} {T T2 E k i ver off n:Nat} {f:α→AV} {xs ys:List α} (X:List α) (hX:overlay xs off ys n=X) (ho:o.op=.call { callee:=.builtin .copy,args:=#[d,x],argTypes:=#[T,T2] }) (hT:sliceB P T E k=true) (hd:(ev l d=.vec i ver k n∧off=0)∨ev l d=.vsl i ver k off n) (hi:lk L i=some (.vec E k ver (xs.map f))) (hs:J2e L k (ev l x) (ys.map f)) (hc:∀ y,(f y).flatOk=true) :
  H2 P o l L (Is (I64 ((min ys.length n:Nat):Int)) ((i,.vec E k ver (X.map f))::L)):=by
 subst hX
 exact Z01 ho hT hd hi hs hc
theorem Y4a {d x:Operand} {T T2 E k i ver off n:Nat} {xs ys:List AV} (X:List AV) (hX:xs.take off++ys.take (min ys.length n)++xs.drop (off+min ys.length n)=X) (ho:o.op=.call { callee:=.builtin .copy,args:=#[d,x],argTypes:=#[T,T2] }) (hT:sliceB P T E k=true) (hd:Ra3 L k (ev l d) i ver off n E xs) (hs:J2e L k (ev l x) ys) (hc:∀ y∈ys.take (min ys.length n),y.flatOk=true) :
  H2 P o l L (Is (I64 ((min ys.length n:Nat):Int)) ((i,.vec E k ver X)::L)):=by
 subst hX
 exact R4a ho hT hd hs hc
end ops
end Go.Proofs.YtidpfkmbfgihlaaGreat
