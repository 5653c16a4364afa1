/-
 Maps from which entries are deleted: Maps from which entries are deleted: What slices.Insert and slices.Delete do to a slice of the ca Slices that are lent aQ local objects,with what lies behind An object that bears maps: Iterators: Fresh results that bear a slice which may be written in plac A slice of the call's own that was written in place becomes Iterators over a map's keys,whose order is not known:
-/
import Derived.Test.YtmfhaflabpnaoaaGreatMapD
import Derived.Lib.Overlaps
import Derived.Lib.AppendZerosOnto
import Derived.Test.YtmfhaflabpnaoaaGreatRangeF
namespace Go.Proofs.YtmfhaflabpnaoaaGreat
open Go.RowKit

theorem J75:∀ {es:List (Value×AV)} {vals:List Value} {i j:Nat} {p0:Value×AV} (k:Value) (u:AV) (x:Value),es[j]? = some p0→isT p0.2=false→isT u=false →
  Qj i (es.set j (k,u)) (vals.set j x)=(Qj i es vals).map (fun e=>if e.born=i+j then { e with key:=k,val:=x } else e)
 | [],vals,i,j,p0,k,u,x,h,_,_=>by simp at h
 | p::es,[],i,j,p0,k,u,x,h,_,_=>by cases j <;> simp [Qj]
 | p::es,v::vs,i,0,p0,k,u,x,h,h0,hu=>by
  simp at h; subst h
  have key:(Qj (i+1) es vs).map (fun e=>if e.born=i+0 then { e with key:=k,val:=x } else e)=Qj (i+1) es vs:=by
   conv=>rhs; rw [← List.map_id (Qj (i+1) es vs)]
   refine List.map_congr_left fun e he=>?_
   have:=(Hf6 he).1
   rw [if_neg (by omega)]; rfl
  simp only [List.set_cons_zero,Qj,h0,hu,Bool.false_eq_true,if_false,List.map_cons,Nat.add_zero,if_true]
  rw [Nat.add_zero] at key
  rw [key]
 | p::es,v::vs,i,j+1,p0,k,u,x,h,h0,hu=>by
  have ih:=J75 (es:=es) (vals:=vs) (i:=i+1) (j:=j) k u x (by simpa using h) h0 hu
  have e1:i+1+j=i+(j+1):=by omega
  rw [e1] at ih
  cases hp:isT p.2 with
  | true=>simp only [List.set_cons_succ,Qj,hp,if_true]; exact ih
  | false=>
   simp only [List.set_cons_succ,Qj,hp,Bool.false_eq_true,if_false,List.map_cons]
   rw [ih,if_neg (show ¬ i=i+(j+1) by omega)]

section typed
variable {P:Program} {κ ν:Type} [DecidableEq κ] {kv:κ→Value} {av:ν→AV} {L:Loc}
omit [DecidableEq κ] in
theorem Y97 {l:List (Option (κ×ν))} {j:Nat} {k:Value} {u:AV} (h:(tOf kv av l)[j]? = some (k,u)) (hu:isT u=false):∃ p:κ×ν,l[j]? = some (some p)∧k=kv p.1∧u=av p.2:=by
 rw [tOf,M9] at h
 cases hl:l[j]? with
 | none=>rw [hl] at h; cases h
 | some o=>
  rw [hl] at h
  cases o with
  | none=>simp at h; obtain⟨_,rfl⟩:=h; cases hu
  | some p=>simp at h; exact⟨p,rfl,h.1.symm,h.2.symm⟩
omit [DecidableEq κ] in
theorem H9f {l:List (Option (κ×ν))} {j:Nat} {p:κ×ν} (h:l[j]? = some (some p)):(tOf kv av l)[j]? = some (kv p.1,av p.2):=by rw [tOf,M9,h]; rfl
omit [DecidableEq κ] in
theorem Gf7 (l:List (Option (κ×ν))):(tOf kv av l).length=l.length:=by simp [tOf]
theorem Qd4 {l:List (Option (κ×ν))} (hn:((l.filterMap id).map (·.1)).Nodup) {q:Nat} {a:κ} {v0:ν} (v:ν) (h:l[q]? = some (some (a,v0))):Qa5 l a v=l.set q (some (a,v)):=by
 obtain⟨h1,_,h3⟩:=H1c hn h
 unfold Qa5
 rw [if_pos h3]
 apply List.ext_getElem?
 intro j
 rw [M9,List.getElem?_set]
 by_cases e:q=j
 ·subst e
  have h0:=(M0 h).1
  rw [if_pos rfl,if_pos h0,h]; simp
 ·rw [if_neg e]
  cases hj:l[j]? with
  | none=>rfl
  | some o=>
   cases o with
   | none=>rfl
   | some p=>
    obtain⟨b,u⟩:=p
    by_cases e2:b=a
    ·subst e2
     have:=(H1c hn hj).1
     omega
    ·simp [e2]
theorem Rfe {l:List (Option (κ×ν))} (hn:((l.filterMap id).map (·.1)).Nodup) {q:Nat} {a:κ} {v0:ν} (h:l[q]? = some (some (a,v0))):R5b l a=l.set q none:=by
 obtain⟨h1,_,h3⟩:=H1c hn h
 unfold R5b
 apply List.ext_getElem?
 intro j
 rw [M9,List.getElem?_set]
 by_cases e:q=j
 ·subst e
  have h0:=(M0 h).1
  rw [if_pos rfl,if_pos h0,h]; simp
 ·rw [if_neg e]
  cases hj:l[j]? with
  | none=>rfl
  | some o=>
   cases o with
   | none=>rfl
   | some p=>
    obtain⟨b,u⟩:=p
    by_cases e2:b=a
    ·subst e2
     have:=(H1c hn hj).1
     omega
    ·simp [e2]
theorem Y4c {l:List (Option (κ×ν))} {a:κ} (h:∀ p∈l.filterMap id,p.1≠a):R5b l a=l:=by
 unfold R5b
 conv=>rhs; rw [← List.map_id l]
 refine List.map_congr_left fun o ho=>?_
 cases o with
 | none=>rfl
 | some p=>
  have:=h p (List.mem_filterMap.2 ⟨_,ho,rfl⟩)
  simp [this]
omit [DecidableEq κ] in
theorem Q29 {w:World} {S:Nat→Nat→Prop} {l:List (Option (κ×ν))} {vals:List Value} (hD:∀ (i:Nat) k u v,(tOf kv av l)[i]? = some (k,u)→vals[i]? = some v→isT u=false→D w S u v) {e:MapEntry} (hm:e∈Qj 0 (tOf kv av l) vals) :
  ∃ p:κ×ν,l[e.born]? = some (some p)∧e.key=kv p.1∧vals[e.born]? = some e.val∧D w S (av p.2) e.val:=by
 obtain⟨j,p,v,h1,h2,h3,rfl⟩:=H3c.1 hm
 obtain⟨k,u⟩:=p
 obtain⟨p,g1,rfl,rfl⟩:=Y97 h1 h3
 simp only [Nat.zero_add]
 exact⟨p,g1,rfl,h2,hD j _ _ v h1 h2 h3⟩
omit [DecidableEq κ] in
theorem Hfa {w:World} {S:Nat→Nat→Prop} {K:Nat} {l:List (Option (κ×ν))} (hk:Gc2 P K kv) (h5:∀ x,isT (av x)=false) {vals:List Value} {Hc:Array MapEntry} (h0:vals.length=(tOf kv av l).length) (he:Hc=(Qj 0 (tOf kv av l) vals).toArray)
  (hD:∀ (i:Nat) k u v,(tOf kv av l)[i]? = some (k,u)→vals[i]? = some v→isT u=false→D w S u v) (a:κ) :
  ((Instr.findKey K (kv a) Hc.toList).run P w=.ok none w∧(∀ p∈l.filterMap id,p.1≠a))∨∃ j q e v,(Instr.findKey K (kv a) Hc.toList).run P w=.ok (some (j,e.val)) w∧Hc[j]? = some e∧(Qj 0 (tOf kv av l) vals)[j]? = some e∧e.born=q∧e.key=kv a∧l[q]? = some (some (a,v))∧vals[q]? = some e.val∧D w S (av v) e.val:=by
 have hl:Hc.toList=Qj 0 (tOf kv av l) vals:=by rw [he]
 rcases hk.find w a (Qj 0 (tOf kv av l) vals) (fun e hm=>by obtain⟨p,_,h,_⟩:=Q29 hD hm; exact⟨p.1,h⟩) with ⟨h1,h2⟩ | ⟨j,e,h1,h2,h3⟩
 ·refine .inl ⟨by rw [hl]; exact h1,fun p hp e=>?_⟩
  obtain⟨o,ho,rfl⟩:∃ o,o∈l∧o=some p:=by
   obtain⟨o,ho,e⟩:=List.mem_filterMap.1 hp
   exact⟨o,ho,e⟩
  obtain⟨q,hq,e2⟩:=List.mem_iff_getElem.1 ho
  have hg:l[q]? = some (some p):=by rw [M1 hq,e2]
  have h6:q < vals.length:=by rw [h0,Gf7]; exact hq
  have h4:(⟨kv p.1,vals[q],0+q⟩:MapEntry)∈Qj 0 (tOf kv av l) vals:=H3c.2 ⟨q,(kv p.1,av p.2),vals[q],H9f hg,by simp [h6],h5 p.2,rfl⟩
  exact h2 _ h4 (by rw [← e])
 ·have hm:=M3 h2
  obtain⟨p,g1,g2,g3,g4⟩:=Q29 hD hm
  have ha:p.1=a:=hk.inj _ _ (g2.symm.trans h3)
  obtain⟨pa,pv⟩:=p
  simp only at ha; subst ha
  exact .inr ⟨j,e.born,e,pv,by rw [hl]; exact h1,by rw [he]; simpa using h2,h2,rfl,h3,g1,g3,g4⟩
def TP (T:Nat) (kv:κ→Value) (av:ν→AV) (m:Gv κ ν):Jh:=.map (1000000+T) (tOf kv av m.l)
theorem Y2b (T:Nat):Nat.blt (1000000+T) 1000000=false:=by
 rw [Bool.eq_false_iff]; intro h
 rw [Nat.blt_eq] at h; omega
omit [DecidableEq κ] in
theorem J4d {w:World} {β:H5} {i b T:Nat} {m:Gv κ ν} (h4:Sat w β L) (hi:lk L i=some (TP T kv av m)) (hb:β i=some b) :
  ∃ (vals:List Value) (Hc:Array MapEntry),vals.length=(tOf kv av m.l).length∧Hc=(Qj 0 (tOf kv av m.l) vals).toArray∧w.heap[b]? = some (.map Hc m.l.length) ∧
   ∀ (i:Nat) k u v,(tOf kv av m.l)[i]? = some (k,u)→vals[i]? = some v→isT u=false→D w (Jj w β L) u v:=by
 obtain⟨b',h0,h⟩:=h4.obj i _ hi
 rw [hb] at h0; cases h0
 rcases h with ⟨h,_⟩ | ⟨_,vals,h1,h2,h3⟩
 ·rw [Y2b] at h; cases h
 ·exact⟨vals,_,h1,rfl,by rw [← Gf7 (kv:=kv) (av:=av)]; exact h2,h3⟩
def DM (kv:κ→Value) (av:ν→AV) (m:Gv κ ν):AV:=.dmap (tOf kv av m.l)
inductive Qc3 (L:Loc) (kv:κ→Value) (av:ν→AV) (m:Gv κ ν):AV→Prop
 | own {i T:Nat} (h:lk L i=some (TP T kv av m)):Qc3 L kv av m (.mp i)
 | data:Qc3 L kv av m (DM kv av m)
omit [DecidableEq κ] in
theorem D.tmap {w:World} {S:Nat→Nat→Prop} {m:Gv κ ν} {v:Value} (h:D w S (DM kv av m) v):∃ (b:Nat) (vals:List Value) (Hc:Array MapEntry),v=.map (some b)∧vals.length=(tOf kv av m.l).length∧Hc=(Qj 0 (tOf kv av m.l) vals).toArray∧w.heap[b]? = some (.map Hc m.l.length) ∧
   ∀ (i:Nat) k u v,(tOf kv av m.l)[i]? = some (k,u)→vals[i]? = some v→isT u=false→D w S u v:=by
 unfold DM at h
 cases h with
 | dmap vals h1 h2 h3 h4=>exact⟨_,vals,_,rfl,h1,rfl,by rw [← Gf7 (kv:=kv) (av:=av)]; exact h2,h4⟩
omit [DecidableEq κ] in
theorem V.tsrc {w:World} {β:H5} {m:Gv κ ν} {u:AV} {v:Value} (h0:Sat w β L) (hm:Qc3 L kv av m u) (hv:V w β L u v):∃ (b:Nat) (vals:List Value) (Hc:Array MapEntry),v=.map (some b)∧vals.length=(tOf kv av m.l).length∧Hc=(Qj 0 (tOf kv av m.l) vals).toArray∧w.heap[b]? = some (.map Hc m.l.length) ∧
   ∀ (i:Nat) k u v,(tOf kv av m.l)[i]? = some (k,u)→vals[i]? = some v→isT u=false→D w (Jj w β L) u v:=by
 cases hm with
 | own hi=>
  obtain⟨b,hb,h2⟩:=hv.inv_mp
  obtain⟨vals,Hc,g1,g2,h1,g3⟩:=J4d h0 hi hb
  exact⟨b,vals,Hc,h2,g1,g2,h1,g3⟩
 | data=>
  cases hv with
  | data h=>exact h.tmap
omit [DecidableEq κ] in
theorem G7e {w:World} {β:H5} {i b T:Nat} {m m':Gv κ ν} {vals':List Value} (h0:Sat w β L) (hi:lk L i=some (TP T kv av m)) (hb:β i=some b)
  (h4:vals'.length=(tOf kv av m'.l).length) (hD:∀ (i:Nat) k u v,(tOf kv av m'.l)[i]? = some (k,u)→vals'[i]? = some v→isT u=false→D w (Jj w β L) u v) {ents':Array MapEntry} {c:Nat} (he:ents'=(Qj 0 (tOf kv av m'.l) vals').toArray) (hc:c=m'.l.length) :
  let w':World:={ w with heap:=w.heap.setIfInBounds b (.map ents' c) }
  Sat w' β ((i,TP T kv av m')::L)∧Step w β L w' β ((i,TP T kv av m')::L):=by
 intro w'
 have h5:b < w.heap.size:=h0.bnd i b (by rw [hi]; rfl) hb
 have st:Step w β L w' β ((i,TP T kv av m')::L):=Step.change h0 hi hb rfl rfl rfl ⟨rfl,M5⟩ (J3e w b _) (fun k hk=>Hee w b k _ hk)
 exact⟨Sat.change h0 hi hb st (J3e w b _) (fun k hk=>Hee w b k _ hk) ⟨b,rfl,.inr ⟨Y2b T,vals',h4,by rw [Gf7,← hc,← he]; exact Qfc w b _ h5,fun j k u v h1 h2 h3=>(hD j k u v h1 h2 h3).mono st.stab⟩⟩,st⟩
end typed

section ops
variable {P:Program} {o:Oper} {l:Fr} {L:Loc} {u:AV} {κ ν:Type} {kv:κ→Value} {av:ν→AV}
theorem R94 {vals:List Value} {l:List (Option (κ×ν))} {w:World} {S:Nat→Nat→Prop} {q:Nat} {a:κ} {v:ν} {x:Value}
  (hD:∀ (i:Nat) k u v,(tOf kv av l)[i]? = some (k,u)→vals[i]? = some v→isT u=false→D w S u v) (hx:D w S (av v) x) :
  ∀ (i:Nat) k u y,(tOf kv av (l.set q (some (a,v))))[i]? = some (k,u)→(vals.set q x)[i]? = some y→isT u=false→D w S u y:=fun i k u y h1 h2 h3=>by
 have e:tOf kv av (l.set q (some (a,v)))=(tOf kv av l).set q (kv a,av v):=by rw [tOf,List.map_set]; rfl
 rw [e,List.getElem?_set] at h1
 rw [List.getElem?_set] at h2
 by_cases hq:q=i
 ·rw [if_pos hq] at h1 h2
  split at h1
  ·split at h2
   ·cases h1; cases h2; exact hx
   ·cases h2
  ·cases h1
 ·rw [if_neg hq] at h1 h2
  exact hD i k u y h1 h2 h3
theorem Qd2 {vals:List Value} {l:List (Option (κ×ν))} {w:World} {S:Nat→Nat→Prop} {a:κ} {v:ν} {x:Value} (h0:vals.length=(tOf kv av l).length)
  (hD:∀ (i:Nat) k u v,(tOf kv av l)[i]? = some (k,u)→vals[i]? = some v→isT u=false→D w S u v) (hx:D w S (av v) x) :
  ∀ (i:Nat) k u y,(tOf kv av (l++[some (a,v)]))[i]? = some (k,u)→(vals++[x])[i]? = some y→isT u=false→D w S u y:=fun i k u y h1 h2 h3=>by
 have e:tOf kv av (l++[some (a,v)])=tOf kv av l++[(kv a,av v)]:=by simp [tOf]
 rw [e] at h1
 rcases Ku i vals.length with hi | hi
 ·rw [M7 (by omega)] at h1
  rw [M7 hi] at h2
  exact hD i k u y h1 h2 h3
 ·rw [M6 (by omega)] at h1
  rw [M6 hi] at h2
  rw [← h0] at h1
  cases hq:i - vals.length with
  | zero=>rw [hq] at h1 h2; simp at h1 h2; obtain⟨_,rfl⟩:=h1; subst h2; exact hx
  | succ n=>rw [hq] at h1; simp at h1
theorem Gf4 (i:Nat) {T:Nat} (kv:κ→Value) (av:ν→AV) (ho:o.op=.makeMap T none) (hi:lk L i=none):H2 P o l L (Is (.mp i) ((i,TP T kv av Gv.empty)::L)):=by
 intro a w β K Q h0 hf hK
 have hr:(execOp a.eval o).run P w=.ok (.value (.map (some w.heap.size))) (w.alloc (.map #[] 0)):=by
  simp [execOp,ho,Instr.makeMap]
 unfold Oper.wp
 rw [hr]
 exact hK _ _ _ _ (upP β i (some w.heap.size)) ⟨rfl,rfl⟩ (h0.alloc hi _ (fun hs=>⟨_,rfl,.inr ⟨Y2b T,[],rfl,heap_alloc_new w _,fun i k u v he=>by simp [Gv.empty,tOf] at he⟩⟩)) (Step.alloc hi h0.bnd _) (.mp (t:=1000000+T) (es:=[]) (by simp [Gm,TP,Gv.empty,tOf]) (by simp [upP]))
variable [DecidableEq κ]
theorem Qa2 {x y:Operand} {T K E:Nat} {ok:Bool} {m:Gv κ ν} {a:κ} (z0:ν) (zv:Value) (h5:∀ x,isT (av x)=false) (ho:o.op=.lookup T x y ok) (hm:Qc3 L kv av m (ev l x))
  (hx:ev l y=Ro (kv a)) (hk:Gc2 P K kv) (hT:Zc P T K E=true) (hz:(P.info? E).bind (·.zero)=some zv) (h6:av z0=Ro zv) :
  H2 P o l L (Is (bif ok then .tup [av (m.get a z0),BL (m.has a)] else av (m.get a z0)) L):=
 Hf fun A w β h4 hf=>by
  obtain⟨b,vals,Hc,h0,g1,g2,h1,g3⟩:=(hf.ev x).tsrc h4 hm
  have h2:A.eval y=kv a:=Hf8 hf hx
  rcases Hfa (P:=P) (w:=w) hk h5 g1 g2 g3 a with ⟨f1,f2⟩ | ⟨j,q,e,v,f1,f2,f3,f4,f5,f6,f7,f8⟩
  ·refine⟨if ok then .tuple #[zv,.bool false] else zv,?_,?_⟩
   ·simp only [execOp,ho,Instr.lookup,underlying,h0,h2,Sem.run_bind,run_program,Result.andThen_ok,Zc.out hT,Sem.run_pure,Qq h1,hk.check,f1,J3f hz]
   ·unfold Gv.get Gv.has Gv.Hc
    rw [Q86 f2,Ha9 f2]
    have h3:V w β L (av z0) zv:=by rw [h6]; exact .data (Gfd zv)
    cases ok
    ·exact h3
    ·refine .tup rfl fun j u v hu hv=>?_
     match j with
     | 0=>simp at hu hv; subst hu; subst hv; exact h3
     | 1=>simp at hu hv; subst hu; subst hv; exact .sc
     | j+2=>simp at hu
  ·refine⟨if ok then .tuple #[e.val,.bool true] else e.val,?_,?_⟩
   ·simp only [execOp,ho,Instr.lookup,underlying,h0,h2,Sem.run_bind,run_program,Result.andThen_ok,Zc.out hT,Sem.run_pure,Qq h1,hk.check,f1]
   ·unfold Gv.get Gv.has Gv.Hc
    obtain⟨_,k2,k3⟩:=H1c m.nd f6
    rw [k2,k3]
    cases ok
    ·exact .data f8
    ·refine .tup rfl fun j u v' hu hv=>?_
     match j with
     | 0=>simp at hu hv; subst hu; subst hv; exact .data f8
     | 1=>simp at hu hv; subst hu; subst hv; exact .sc
     | j+2=>simp at hu
theorem J33 {x y:Operand} {T K E:Nat} {m:Gv κ ν} {a:κ} (z0:ν) (zv:Value) (h0:∀ x,isT (av x)=false) (ho:o.op=.lookup T x y false) (hm:Qc3 L kv av m (ev l x))
  (hx:ev l y=Ro (kv a)) (hk:Gc2 P K kv) (hT:Zc P T K E=true) (hz:(P.info? E).bind (·.zero)=some zv) (h1:av z0=Ro zv) :
  H2 P o l L (Is (av (m.get a z0)) L):=Qa2 (ok:=false) z0 zv h0 ho hm hx hk hT hz h1
theorem Hba {x y:Operand} {T K E:Nat} {m:Gv κ ν} {a:κ} (z0:ν) (zv:Value) (h0:∀ x,isT (av x)=false) (ho:o.op=.lookup T x y true) (hm:Qc3 L kv av m (ev l x))
  (hx:ev l y=Ro (kv a)) (hk:Gc2 P K kv) (hT:Zc P T K E=true) (hz:(P.info? E).bind (·.zero)=some zv) (h1:av z0=Ro zv) :
  H2 P o l L (Is (.tup [av (m.get a z0),BL (m.has a)]) L):=Qa2 (ok:=true) z0 zv h0 ho hm hx hk hT hz h1
theorem Q3a (l:List MapEntry) (j:Nat) (f:MapEntry→MapEntry):l.toArray.modify j f=(l.modify j f).toArray:=by
 apply Array.ext'
 simp
theorem G62 {x y z:Operand} {T K E i:Nat} {m:Gv κ ν} {a:κ} {v:ν} (h3:∀ x,isT (av x)=false) (ho:o.op=.mapUpdate T x y z) (hm:ev l x=.mp i) (hi:lk L i=some (TP T kv av m))
  (hx:ev l y=Ro (kv a)) (hy:(ev l z).plain=av v) (h8:(av v).isData=true) (hk:Gc2 P K kv) (hT:Zc P T K E=true) :
  H2 P o l L (Is .junk ((i,TP T kv av (m.put a v))::L)):=by
 intro A w β KK Q h2 hf hK
 have hv:=hf.ev x
 rw [hm] at hv
 obtain⟨b,hb,h4⟩:=hv.inv_mp
 obtain⟨vals,Hc,g1,g2,h1,g3⟩:=J4d h2 hi hb
 have h5:A.eval y=kv a:=Hf8 hf hx
 have h6:=(hf.ev z).plain
 rw [hy] at h6
 have h7:=h6.toD h8
 rcases Hfa (P:=P) (w:=w) hk h3 g1 g2 g3 a with ⟨f1,f2⟩ | ⟨j,q,e,v0,f1,f2,f3,f4,f5,f6,f7,f8⟩
 ·have hr:(execOp A.eval o).run P w=.ok .skip { w with heap:=w.heap.setIfInBounds b (.map (Hc.push { key:=kv a,val:=A.eval z,born:=m.l.length }) (m.l.length+1)) }:=by
   simp only [execOp,ho,Instr.mapUpdate,underlying,h4,h5,Sem.run_bind,run_program,Result.andThen_ok,Zc.out hT,Sem.run_pure,Qq h1,hk.check,f1,G0a h1]
  unfold Oper.wp
  rw [hr]
  have hp:(m.put a v).l=m.l++[some (a,v)]:=by show Qa5 m.l a v=_; unfold Qa5; rw [Ha9 f2]; rfl
  have h0:tOf kv av (m.l++[some (a,v)])=tOf kv av m.l++[(kv a,av v)]:=by simp [tOf]
  obtain⟨s1,s2⟩:=G7e h2 hi hb (m':=m.put a v) (vals':=vals++[A.eval z]) (by rw [hp,h0]; simp [g1]) (by rw [hp]; exact Qd2 g1 g3 h7) (ents':=Hc.push { key:=kv a,val:=A.eval z,born:=m.l.length }) (c:=m.l.length+1) (by
   rw [hp,h0,J76 _ _ g1 (h3 v),g2,Gf7]; simp) (by rw [hp]; simp)
  exact hK _ _ _ _ β ⟨rfl,rfl⟩ s1 s2 .junk
 ·have h9:=hk.stays w a
  have hr:(execOp A.eval o).run P w=.ok .skip { w with heap:=w.heap.setIfInBounds b (.map (Hc.modify j fun e=>{ e with key:=kv a,val:=A.eval z }) m.l.length) }:=by
   have a0:((Hc[j]?).map (·.key)).getD (kv a)=kv a:=by rw [f2]; exact f5
   simp only [execOp,ho,Instr.mapUpdate,underlying,h4,h5,Sem.run_bind,run_program,Result.andThen_ok,Zc.out hT,Sem.run_pure,Qq h1,hk.check,f1,a0,h9,G0a h1]
  unfold Oper.wp
  rw [hr]
  have hp:(m.put a v).l=m.l.set q (some (a,v)):=Qd4 m.nd v f6
  have h0:tOf kv av (m.l.set q (some (a,v)))=(tOf kv av m.l).set q (kv a,av v):=by rw [tOf,List.map_set]; rfl
  obtain⟨s1,s2⟩:=G7e h2 hi hb (m':=m.put a v) (vals':=vals.set q (A.eval z)) (by rw [hp,h0]; simp [g1]) (by rw [hp]; exact R94 g3 h7) (ents':=Hc.modify j fun e=>{ e with key:=kv a,val:=A.eval z }) (c:=m.l.length) (by
   rw [hp,h0,J75 _ _ _ (H9f f6) (h3 v0) (h3 v),g2,Q3a,Jad G7f f3,Nat.zero_add,f4]) (by rw [hp]; simp)
  exact hK _ _ _ _ β ⟨rfl,rfl⟩ s1 s2 .junk
theorem Hb9 {x y:Operand} {T T2 K E i:Nat} {m:Gv κ ν} {a:κ} (h7:∀ x,isT (av x)=false) (ho:o.op=.call { callee:=.builtin .delete,args:=#[x,y],argTypes:=#[T,T2] }) (hm:ev l x=.mp i) (hi:lk L i=some (TP T kv av m))
  (hx:ev l y=Ro (kv a)) (hk:Gc2 P K kv) (hT:Zc P T K E=true) :
  H2 P o l L (Is (.tup []) ((i,TP T kv av (m.del a))::L)):=by
 intro A w β KK Q h0 hf hK
 have hv:=hf.ev x
 rw [hm] at hv
 obtain⟨b,hb,h5⟩:=hv.inv_mp
 obtain⟨vals,Hc,g1,g2,h1,g3⟩:=J4d h0 hi hb
 have h6:A.eval y=kv a:=Hf8 hf hx
 have tup0:∀ {w':World} {L':Loc},V w' β L' (.tup []) (.tuple #[]):=.tup rfl fun j u v hu hv=>by simp at hu
 rcases Hfa (P:=P) (w:=w) hk h7 g1 g2 g3 a with ⟨f1,f2⟩ | ⟨j,q,e,v0,f1,f2,f3,f4,f5,f6,f7,f8⟩
 ·have hr:(execOp A.eval o).run P w=.ok (.value (.tuple #[])) { w with heap:=w.heap.setIfInBounds b (.map Hc m.l.length) }:=by
   simp only [execOp,ho,resolve,invoke,builtin,Builtin.delete_,underlying,h5,h6,Sem.run_bind,run_program,Result.andThen_ok,Zc.out hT,Sem.run_pure,Qq h1,hk.check,f1,G0a h1,List.map_toArray,List.map_cons,List.map_nil,List.getElem?_toArray,List.getElem?_cons_zero,List.getElem?_cons_succ]
  unfold Oper.wp
  rw [hr]
  have hp:(m.del a).l=m.l:=Y4c f2
  obtain⟨s1,s2⟩:=G7e h0 hi hb (m':=m.del a) (vals':=vals) (by rw [hp]; exact g1) (by rw [hp]; exact g3) (ents':=Hc) (c:=m.l.length) (by rw [hp]; exact g2) (by rw [hp])
  exact hK _ _ _ _ β ⟨rfl,rfl⟩ s1 s2 tup0
 ·have hr:(execOp A.eval o).run P w=.ok (.value (.tuple #[])) { w with heap:=w.heap.setIfInBounds b (.map (Hc.eraseIdxIfInBounds j) m.l.length) }:=by
   simp only [execOp,ho,resolve,invoke,builtin,Builtin.delete_,underlying,h5,h6,Sem.run_bind,run_program,Result.andThen_ok,Zc.out hT,Sem.run_pure,Qq h1,hk.check,f1,G0a h1,List.map_toArray,List.map_cons,List.map_nil,List.getElem?_toArray,List.getElem?_cons_zero,List.getElem?_cons_succ]
  unfold Oper.wp
  rw [hr]
  have hp:(m.del a).l=m.l.set q none:=Rfe m.nd f6
  have h4:tOf kv av (m.l.set q none)=(tOf kv av m.l).set q (.tuple #[],.tup []):=by rw [tOf,List.map_set]; rfl
  obtain⟨s1,s2⟩:=G7e h0 hi hb (m':=m.del a) (vals':=vals) (by rw [hp,h4]; simp [g1]) (by
   rw [hp,h4]
   intro i k u v h1 h2 h3
   rw [List.getElem?_set] at h1
   by_cases hq:q=i
   ·rw [if_pos hq] at h1
    split at h1
    ·cases h1; cases h3
    ·cases h1
   ·rw [if_neg hq] at h1; exact g3 i k u v h1 h2 h3) (ents':=Hc.eraseIdxIfInBounds j) (c:=m.l.length) (by
   rw [hp,h4,R0a,Nat.zero_add,← f4,← Q35 G7f f3,g2]
   apply Array.ext'
   simp [Array.eraseIdxIfInBounds]
   split
   ·rfl
   ·rename_i hh
    exact(hh (M0 f3).1).elim) (by rw [hp]; simp)
  exact hK _ _ _ _ β ⟨rfl,rfl⟩ s1 s2 tup0
end ops

section ops
variable {P:Program} {o:Oper} {l:Fr} {L:Loc} {u:AV} {κ ν:Type} [DecidableEq κ] {kv:κ→Value} {av:ν→AV}
omit [DecidableEq κ] in
theorem H4a (i:Nat) {x:Operand} {T K E:Nat} {src:AV} {m:Gv κ ν} (ho:o.op=.range T x) (hx:ev l x=src) (hm:Qc3 L kv av m src) (hi:lk L i=none) (hT:Zc P T K E=true) :
  H2 P o l L (Is (.it i) ((i,.iter src m.l.length [])::L)):=by
 intro a w β KK Q h0 hf hK
 have hv:=hf.ev x
 rw [hx] at hv
 obtain⟨b,vals,Hc,h2,g1,g2,h1,g3⟩:=hv.tsrc h0 hm
 have hr:(execOp a.eval o).run P w=.ok (.value (.pointer (some ⟨w.heap.size,0,none⟩))) (w.alloc (.mapIter (some b) m.l.length #[] m.l.length)):=by
  simp only [execOp,ho,Instr.range,underlying,Zc.out hT,Sem.run_bind,Sem.run_pure,run_program,Result.andThen_ok,h2,Qq h1,run_newObj]
  rfl
 unfold Oper.wp
 rw [hr]
 exact hK _ _ _ _ (upP β i (some w.heap.size)) ⟨rfl,rfl⟩ (h0.alloc hi _ (fun hs=>⟨_,rfl,b,by rw [← h2]; exact hv.step hs,heap_alloc_new w _⟩)) (Step.alloc hi h0.bnd _)
  (.it (m:=src) (n:=m.l.length) (seen:=[]) (by simp [Gm]) (by simp [upP]))
def Ye0 (i:Nat) (src:AV) (L:Loc) (kv:κ→Value) (av:ν→AV) (m:Gv κ ν) (seen:List Nat):AV→Loc→Prop:=fun u L'=>
 (∃ q e,m.l[q]? = some (some e)∧q ∉ seen∧u=.tup [BL true,Ro (kv e.1),av e.2]∧L'=(i,.iter src m.l.length (seen++[q]))::L)∨((∀ q e,m.l[q]? = some (some e)→q∈seen)∧u=.tup [BL false]∧L'=L)
omit [DecidableEq κ] in
theorem Hb8 {x:Operand} {i:Nat} {src:AV} {m:Gv κ ν} {seen:List Nat} (c0:∀ x,isT (av x)=false) (ho:o.op=.next x false) (hx:ev l x=.it i) (hi:lk L i=some (.iter src m.l.length seen)) (hm:Qc3 L kv av m src):H2 P o l L (Ye0 i src L kv av m seen):=by
 intro a w β KK Q h6 hf hK
 have hv:=hf.ev x
 rw [hx] at hv
 have c1:∃ b,β i=some b∧a.eval x=.pointer (some ⟨b,0,none⟩):=by
  generalize a.eval x=v at hv
  cases hv with
  | data h=>cases h
  | it _ h=>exact⟨_,h,rfl⟩
 obtain⟨b,hb,b0⟩:=c1
 obtain⟨b',b1,bm,b2,b3⟩:=h6.obj i _ hi
 rw [hb] at b1; cases b1
 obtain⟨bm',vals,Hc,ebm,g1,g2,h1,g3⟩:=b2.tsrc h6 hm
 cases ebm
 have g1':vals.length=m.l.length:=by rw [g1,Gf7]
 have h9:∀ e∈Hc,∃ p:κ×ν,m.l[e.born]? = some (some p)∧e.key=kv p.1∧D w (Jj w β L) (av p.2) e.val:=fun e he=>by
  rw [g2] at he
  obtain⟨p,a1,a2,_,a4⟩:=Q29 g3 (by simpa using he)
  exact⟨p,a1,a2,a4⟩
 have a7:∀ q (p:κ×ν),m.l[q]? = some (some p)→∃ e∈Hc,e.born=q:=fun q p hq=>by
  have d1:=(M0 hq).1
  have c2:q < vals.length:=by omega
  refine⟨⟨kv p.1,vals[q],0+q⟩,?_,by simp⟩
  rw [g2]
  have:(⟨kv p.1,vals[q],0+q⟩:MapEntry)∈Qj 0 (tOf kv av m.l) vals:=H3c.2 ⟨q,(kv p.1,av p.2),vals[q],H9f (kv:=kv) (av:=av) hq,by simp [c2],c0 p.2,rfl⟩
  simpa using this
 have h8:∀ e∈Hc,e.born < m.l.length:=fun e he=>by
  obtain⟨p,h,_⟩:=h9 e he
  exact(M0 h).1
 let left:Array MapEntry:=Hc.filter fun e=>!seen.toArray.contains e.born
 have a3:∀ e∈left,e∈Hc∧e.born ∉ seen:=by
  intro e he
  simp only [left,Array.mem_filter] at he
  exact⟨he.1,by simpa using he.2⟩
 have hold:left.filter (fun e=>decide (e.born < m.l.length))=left:=by
  rw [Array.filter_eq_self]
  intro e he
  exact Ky (h8 e (a3 e he).1)
 have b6:left.filter (fun e=>decide (e.born ≥ m.l.length))=#[]:=by
  rw [Array.filter_eq_empty_iff]
  intro e he
  have:=h8 e (a3 e he).1
  simp; omega
 have h7:(!seen.toArray.isEmpty&&!Hc.isEmpty&&Hc.all (fun e=>decide (e.born ≥ m.l.length)))=false:=by
  by_cases h0:Hc.size=0
  ·have:Hc.isEmpty=true:=by simp [Array.isEmpty,h0]
   simp [this]
  ·have:Hc.all (fun e=>decide (e.born ≥ m.l.length))=false:=by
    rw [Bool.eq_false_iff]
    intro a5
    rw [Array.all_eq_true] at a5
    have h2:=Kw (a5 0 (by omega))
    have:=h8 Hc[0] (Array.getElem_mem (by omega))
    omega
   simp [this]
 have a0:(getObj b).run P w=.ok (.mapIter (some bm) m.l.length seen.toArray m.l.length) w:=by simp [getObj,Sem.run,b3]
 have c3:b < w.heap.size:=h6.bnd i b (by rw [hi]; rfl) hb
 by_cases h3:left=#[]
 ·have hr:(execOp a.eval o).run P w=.ok (.value (.tuple #[.bool false])) w:=by
   simp only [execOp,ho,Instr.next,b0,Sem.run_bind,Sem.run_pure,Result.andThen_ok,a0,Qq h1,h7,Bool.false_eq_true,if_false]
   have e1:(Hc.filter fun e=>!seen.toArray.contains e.born)=#[]:=h3
   simp only [e1,Array.filter_empty,Array.isEmpty_empty,if_true,Array.append_empty,Array.map_empty,run_choose]
   rfl
  unfold Oper.wp
  rw [hr]
  refine hK _ _ _ w β (.inr ⟨fun q p hq=>?_,rfl,rfl⟩) h6 (Step.refl _ _ _) (.tup rfl fun j u v hu hv=>?_)
  ·by_cases hs:q∈seen
   ·exact hs
   ·exfalso
    obtain⟨e,he,rfl⟩:=a7 q p hq
    have:e∈left:=by
     simp only [left,Array.mem_filter]
     exact⟨he,by simpa using hs⟩
    rw [h3] at this; simp at this
  ·match j with
   | 0=>simp at hu hv; subst hu; subst hv; exact .sc
   | j+1=>simp at hu
 ·have a6:0 < left.size:=Array.size_pos_iff.2 h3
  have a8:((if (left.filter fun e=>decide (e.born < m.l.length)).isEmpty then #[none] else #[])++((left.filter fun e=>decide (e.born < m.l.length))++(left.filter fun e=>decide (e.born ≥ m.l.length))).map some)=left.map some:=by
   rw [hold,b6]
   have:left.isEmpty=false:=by rw [Array.isEmpty_eq_false_iff]; exact h3
   rw [this]
   apply Array.ext'
   simp
  have c4:∃ (c:Nat) (w1:World),(choose (.mapNext (left.map some).size)).run P w=.ok c w1∧c < left.size∧w1.heap=w.heap∧w1.os=w.os∧w1.tape=w.tape∧(w1.output=w.output∧w.drawn≤w1.drawn):=by
   rw [run_choose]
   by_cases b4:(Question.mapNext (left.map some).size).forced=true
   ·exact⟨0,w,by rw [if_pos b4],a6,rfl,rfl,rfl,rfl,M5⟩
   ·refine⟨_,{ w with drawn:=w.drawn+1 },by rw [if_neg b4],?_,rfl,rfl,rfl,rfl,Nat.le_succ _⟩
    simp only [Question.cut,Array.size_map]
    exact Nat.mod_lt _ a6
  obtain⟨c,w1,c5,b5,hh,c6,c7,b7⟩:=c4
  obtain⟨c8,c9⟩:=a3 left[c] (Array.getElem_mem b5)
  obtain⟨p,k0,k1,k2⟩:=h9 left[c] c8
  have d0:(left.map some)[c]? = some (some left[c]):=by simp [b5]
  have b8:w1.heap[b]? = some (.mapIter (some bm) m.l.length seen.toArray m.l.length):=by rw [hh]; exact b3
  have b9:(setObj b (.mapIter (some bm) m.l.length (seen.toArray.push left[c].born) m.l.length)).run P w1=.ok () { w1 with heap:=w1.heap.setIfInBounds b (.mapIter (some bm) m.l.length (seen.toArray.push left[c].born) m.l.length) }:=by
   simp [setObj,Sem.run,b8]
  have hr:(execOp a.eval o).run P w=.ok (.value (.tuple #[.bool true,left[c].key,left[c].val])) { w1 with heap:=w1.heap.setIfInBounds b (.mapIter (some bm) m.l.length (seen.toArray.push left[c].born) m.l.length) }:=by
   simp only [execOp,ho,Instr.next,b0,Sem.run_bind,Sem.run_pure,Result.andThen_ok,a0,Qq h1,h7,Bool.false_eq_true,if_false]
   have e1:(Hc.filter fun e=>!seen.toArray.contains e.born)=left:=rfl
   rw [e1,a8,c5]
   simp only [Result.andThen_ok,d0,Sem.run_bind,b9,Sem.run_pure]
  unfold Oper.wp
  rw [hr]
  have a9:seen.toArray.push left[c].born=(seen++[left[c].born]).toArray:=by simp
  have h4:({ w1 with heap:=w1.heap.setIfInBounds b (.mapIter (some bm) m.l.length (seen.toArray.push left[c].born) m.l.length) }:World).heap.size=w.heap.size:=by simp [hh]
  have h5:∀ k,k≠b→({ w1 with heap:=w1.heap.setIfInBounds b (.mapIter (some bm) m.l.length (seen.toArray.push left[c].born) m.l.length) }:World).heap[k]? = w.heap[k]? := fun k hk=>by
   simp [Array.getElem?_setIfInBounds_ne (Ne.symm hk),hh]
  have st:Step w β L { w1 with heap:=w1.heap.setIfInBounds b (.mapIter (some bm) m.l.length (seen.toArray.push left[c].born) m.l.length) } β ((i,.iter src m.l.length (seen++[left[c].born]))::L):=
   Step.change h6 hi hb rfl c6 c7 b7 h4 h5
  refine hK _ _ _ _ β (.inl ⟨left[c].born,p,k0,c9,rfl,rfl⟩) (Sat.change h6 hi hb st h4 h5 ⟨b,rfl,bm,b2.step st,?_⟩) st (.tup rfl fun q u v hu hv=>?_)
  ·rw [a9]
   simp [hh,c3]
  ·match q with
   | 0=>simp at hu hv; subst hu; subst hv; exact .sc
   | 1=>simp at hu hv; subst hu; subst hv; rw [← k1]; exact .data (Gfd _)
   | 2=>simp at hu hv; subst hu; subst hv; exact .data (k2.mono st.stab)
   | q+3=>simp at hu
omit [DecidableEq κ] in
theorem J34 {x:Operand} {i q:Nat} {src:AV} {m:Gv κ ν} {seen:List Nat} {e:κ×ν} (h5:∀ x,isT (av x)=false) (ho:o.op=.entry x) (hx:ev l x=.it i) (hi:lk L i=some (.iter src m.l.length (seen++[q]))) (hm:Qc3 L kv av m src) (he:m.l[q]? = some (some e)) :
  H2 P o l L (Is (.tup [Ro (kv e.1),av e.2]) L):=
 Hf fun a w β h0 hf=>by
  have hv:=hf.ev x
  rw [hx] at hv
  have a0:∃ b,β i=some b∧a.eval x=.pointer (some ⟨b,0,none⟩):=by
   generalize a.eval x=v at hv
   cases hv with
   | data h=>cases h
   | it _ h=>exact⟨_,h,rfl⟩
  obtain⟨b,hb,a1⟩:=a0
  obtain⟨b',h6,bm,a2,a3⟩:=h0.obj i _ hi
  rw [hb] at h6; cases h6
  obtain⟨bm',vals,Hc,ebm,g1,g2,h1,g3⟩:=a2.tsrc h0 hm
  cases ebm
  have g1':vals.length=m.l.length:=by rw [g1,Gf7]
  have a5:=(M0 he).1
  have h7:q < vals.length:=by omega
  have h9:(⟨kv e.1,vals[q],0+q⟩:MapEntry)∈Qj 0 (tOf kv av m.l) vals:=H3c.2 ⟨q,(kv e.1,av e.2),vals[q],H9f he,by simp [h7],h5 e.2,rfl⟩
  obtain⟨n,hn,h8⟩:=List.mem_iff_getElem.1 h9
  have h2:(getObj b).run P w=.ok (.mapIter (some bm) m.l.length (seen++[q]).toArray m.l.length) w:=by simp [getObj,Sem.run,a3]
  have h3:(seen++[q]).toArray.back? = some q:=by simp
  have h4:Hc.find? (fun e=>e.born==q)=some ⟨kv e.1,vals[q],0+q⟩:=by
   rw [Array.find?_eq_some_iff_getElem]
   refine⟨by simp,n,by rw [g2]; simpa using hn,by simp only [g2,List.getElem_toArray]; exact h8,fun r hr=>?_⟩
   simp only [g2,List.getElem_toArray]
   have hp:=List.pairwise_iff_getElem.1 (G7f (es:=tOf kv av m.l) (vals:=vals) (i:=0)) r n (by omega) hn hr
   rw [h8] at hp
   have hp:(Qj 0 (tOf kv av m.l) vals)[r].born < 0+q:=hp
   simp; omega
  have a4:(m.l.length != m.l.length)=false:=by simp
  have hD:D w (Jj w β L) (av e.2) vals[q]:=g3 q _ _ _ (H9f he) (by simp [h7]) (h5 e.2)
  refine⟨.tuple #[kv e.1,vals[q]],?_,.tup rfl fun r u v hu hv=>?_⟩
  ·simp only [execOp,ho,Instr.entry,a1,Sem.run_bind,Sem.run_pure,Result.andThen_ok,h2,h3,Qq h1,a4,Bool.false_eq_true,if_false,h4]
  ·match r with
   | 0=>simp at hu hv; subst hu; subst hv; exact .data (Gfd _)
   | 1=>simp at hu hv; subst hu; subst hv; exact .data hD
   | r+2=>simp at hu
end ops

theorem Q56.one {w:World} {ob:Option Nat} {t k n c:Nat} {v:Value} (h:Q56 w ob t k n c v):v.oneCell'=true:=by
 rcases h with ⟨rfl,_⟩ | ⟨b,rfl,_⟩ <;> rfl

section state
variable {N:Cfg} {l:Fr} {L:Loc} {w0 w:World} {β0 β:H5} {L0:Loc} {a:Act}
theorem Q6.over {s:Nat} {u:AV} (h:Q6 a w β L l) (hv:V w β L u (a.tmps.getD s undef)):Q6 a w β L ((s,u)::l):=⟨fun t=>by
 rw [look]
 cases hb:Nat.beq s t with
 | true=>have:=Ks hb; subst this; exact hv
 | false=>exact h.tmp t⟩
theorem Rf.vcap (hs:Rf N w0 β0 L0 a w β l L) {s i ver k n t:Nat} {xs:List AV} (h1:look l s=.vec i ver k n) (hi:lk L i=some (.vec t k ver xs)):∃ c,xs.length≤c∧c≤maxLen∧Rf N w0 β0 L0 a w β ((s,.vcap i ver k xs.length c)::l) L:=by
 have hv:=hs.frame.tmp s
 rw [h1] at hv
 obtain⟨rfl,_,h⟩:=G58 hs.sat hi hv
 suffices h0:∃ c,xs.length≤c∧c≤maxLen∧Q56 w (β.at_ i) t k xs.length c (a.tmps.getD s undef) from by
  obtain⟨c,c1,c2,c3⟩:=h0
  exact⟨c,c1,c2,hs.sat,hs.step,hs.frame.over (.vcap ⟨t,ver,xs,hi,M5,fun _=>c3⟩ c3.one),hs.size,hs.base,hs.defers⟩
 rcases h with ⟨e1,rfl,e3⟩ | ⟨b,cap,vs,e1,e2,e3,e4,e5,e6,_⟩
 ·exact⟨0,M5,Nat.zero_le _,.inl ⟨e1,rfl,rfl,e3⟩⟩
 ·exact⟨cap,e3,e4,.inr ⟨b,e1,e2,e3,e4,by simp [World.shape?,e5,e6]⟩⟩

end state

section ghosts
variable {P:Program} {N:Cfg} {Q:Post} {l:Fr} {L:Loc} {ops:Array Oper} {rest:List Oper} {c:Code}
end ghosts

section ops
variable {P:Program} {N:Cfg} {o:Oper} {l:Fr} {L:Loc} {u:AV}
/-! ### Typed elements -/
end ops
set_option linter.unusedVariables false

section vals
variable {w:World} {β:H5} {L:Loc}
theorem V.vsl_lst {α:Type} {f:α→AV} {i ver k t:Nat} {e:Ln α} {v:Value} (h5:Sat w β L) (hi:lk L i=some (.vec t k ver ((e.1++e.2).map f))) (h6:Nat.blt 0 k=true) (hv:V w β L (.vsl i ver k 0 e.1.length) v):D w (fun b _=>b < w.heap.size) (LT k f e) v:=by
 have h8:0 < k:=by simpa [Nat.blt_eq] using h6
 obtain⟨_,hn,_⟩:=hv.inv_vsl hi
 obtain⟨o1,o2⟩:=h5.obj i _ hi
 rcases hv.inv_vsl0 hi with ⟨rfl,e2,e3⟩ | ⟨b,cap,rfl,e2,e3,e4,e5⟩
 ·have h9:(e.1++e.2).map f=[]:=by
   rcases o2 with ⟨_,o2⟩ | ⟨b',o2,_⟩
   ·exact o2
   ·rw [show β i=β.at_ i from rfl,e3] at o2; cases o2
  have h2:=List.map_eq_nil_iff.1 h9
  obtain⟨h3,h4⟩:=List.append_eq_nil_iff.1 h2
  show D w _ (.lst k (e.1.map f) (e.2.map f)) _
  rw [h3,h4]
  exact .lnil (Nat.zero_le _)
 ·rcases o2 with ⟨o2,_⟩ | ⟨b',o2,vs,o3,o4,o5⟩
  ·rw [show β i=β.at_ i from rfl,e2] at o2; cases o2
  ·rw [show β i=β.at_ i from rfl,e2] at o2; cases o2
   have hs:vs.size=cap*k:=by simpa [World.shape?,o3] using e5
   have h7:((e.1++e.2).map f).length≤cap:=by
    rw [hs] at o4
    exact Nat.le_of_mul_le_mul_right o4 h8
   have h0:e.1.map f++e.2.map f=(e.1++e.2).map f:=List.map_append.symm
   have a0:(e.1.map f).length=e.1.length:=Mg ..
   show D w _ (.lst k (e.1.map f) (e.2.map f)) _
   rw [← a0]
   have h1:∀ j,j < (flat ((e.1++e.2).map f)).length→j < vs.size:=fun j hj=>by
    rw [J3 o1] at hj
    omega
   refine .lst (fun j=>vs.getD j undef) ?_ e4 ?_ (fun j hj=>⟨(Kp o3).1,?_⟩) (fun j u hu=>?_)
   ·rw [← Mc,h0]; exact h7
   ·rw [h0]; exact o1
   ·rw [h0] at hj
    have:=h1 j hj
    simp [World.cell?,o3,this]
   ·rw [h0] at hu
    have hj:=(M0 hu).1
    have:=h1 j hj
    exact(o5 j u _ hu (by simp [this])).mono fun b i hs=>⟨hs.lt,rfl⟩
theorem V.vsl_list {α:Type} {f:α→AV} {i ver k t:Nat} {e:Ln α} {v:Value} (h0:Sat w β L) (hi:lk L i=some (.vec t k ver ((e.1++e.2).map f))) (h1:Nat.blt 0 k=true) (hv:V w β L (.vsl i ver k 0 e.1.length) v):D w (fun b _=>b < w.heap.size) (LS k f e.1) v:=
 (hv.vsl_lst h0 hi h1).lst_list
end vals

section calls
variable {P:Program} {o:Oper} {l:Fr} {L:Loc} {u:AV}
inductive Q4e (L:Loc):AV→AV→Prop
 | data {u u':AV} (h:u.plain=u') (hd:u'.isData=true):Q4e L u u'
 | vsl {α:Type} {f:α→AV} {i ver k t:Nat} {e:Ln α} (hi:lk L i=some (.vec t k ver ((e.1++e.2).map f))) (hpos:Nat.blt 0 k=true):Q4e L (.vsl i ver k 0 e.1.length) (LS k f e.1)
 | vlt {α:Type} {f:α→AV} {i ver k t:Nat} {e:Ln α} (hi:lk L i=some (.vec t k ver ((e.1++e.2).map f))) (hpos:Nat.blt 0 k=true):Q4e L (.vsl i ver k 0 e.1.length) (LT k f e)
theorem Q4e.D {w:World} {β:H5} {u u':AV} (h1:Sat w β L) (h:Q4e L u u') {v:Value} (hv:V w β L u v):D w (fun b _=>b < w.heap.size) u' v:=by
 cases h with
 | data h hd=>
  subst h
  exact(hv.plain.toD hd).mono fun b i hs=>⟨hs.lt,rfl⟩
 | vsl hi h0=>exact hv.vsl_list h1 hi h0
 | vlt hi h0=>exact hv.vsl_lst h1 hi h0
def Gde (l:Fr) (L:Loc):List Operand→List AV→Prop
 | [],[]=>True
 | x::r,u::s=>Q4e L (ev l x) u∧Gde l L r s
 | _,_=>False
theorem Gde.length {l:Fr} {L:Loc}:∀ {xs:List Operand} {us:List AV},Gde l L xs us→xs.length=us.length
 | [],[],_=>rfl
 | _::r,_::s,h=>by simp [Gde.length h.2]
end calls

section ops
variable {P:Program} {N:Cfg} {o:Oper} {l:Fr} {L:Loc} {α:Type}
end ops

section rename
variable {w:World} {β:H5} {L:Loc}
end rename
section renameJ
variable {P:Program} {N:Cfg} {Q:Post} {c:Code} {l:Fr} {L:Loc}
end renameJ

section calls
variable {P:Program} {o:Oper} {l:Fr} {L:Loc} {u:AV}
inductive G6d (L:Loc):AV→AV→Prop
 | data {u u':AV} (h:u.plain=u') (hd:u'.isData=true):G6d L u u'
 | vec {i ver k n t:Nat} {xs:List AV} (hi:lk L i=some (.vec t k ver xs)):G6d L (.vec i ver k n) (.list k xs)
 | agg {cs ds:List AV} (hl:ds.length=cs.length) (h:∀ (j:Nat) u u',cs[j]? = some u→ds[j]? = some u'→G6d L u u'):G6d L (.agg cs) (.agg ds)
 | ptr {i off t:Nat} {cs ds:List AV} (hi:lk L i=some (.box t cs)) (hl:ds.length=(cs.drop off).length) (h:∀ (j:Nat) u u',(cs.drop off)[j]? = some u→ds[j]? = some u'→G6d L u u'):G6d L (.ptr i off) (.dptr ds)
 | mp {κ ν:Type} [DecidableEq κ] {kv:κ→Value} {av:ν→AV} {i T:Nat} {m:Gv κ ν} (hi:lk L i=some (TP T kv av m)):G6d L (.mp i) (DM kv av m)
 | fn {f:FuncId} {cs ds:List AV} (hl:ds.length=cs.length) (h:∀ (j:Nat) u u',cs[j]? = some u→ds[j]? = some u'→G6d L u u'):G6d L (.fn f cs) (.fn f ds)
 | ms {i n cap t k:Nat} {cs xs:List AV} (hi:lk L i=some (.box t cs)) (hn:n=xs.length) (hk:∀ x∈xs,x.cells.length=k) (hl:(flat xs).length=cs.length) (h:∀ (j:Nat) u u',cs[j]? = some u→(flat xs)[j]? = some u'→G6d L u u'):G6d L (.ms i 0 n cap) (.list k xs)
def H47 (L:Loc):List AV→List AV→Prop
 | [],[]=>True
 | u::r,u'::s=>G6d L u u'∧H47 L r s
 | _,_=>False
theorem H47.len {L:Loc}:∀ {cs ds:List AV},H47 L cs ds→ds.length=cs.length
 | [],[],_=>rfl
 | _::_,_::_,h=>by simp [H47.len h.2]
theorem dnQ {L:Loc}:∀ (n:Nat) {cs ds:List AV},(cs.take n).map AV.plain=ds.take n→(ds.take n).all AV.isData=true→H47 L (cs.drop n) (ds.drop n)→H47 L cs ds
  | 0,_,_,_,_,h=>h
  | _+1,[],[],_,_,_=>trivial
  | _+1,[],_::_,h,_,_=>by simp at h
  | _+1,_::_,[],h,_,_=>by simp at h
  | n+1,u::r,u'::s,h,hd,hk=>by
    simp only [List.take_succ_cons,List.map_cons,List.cons.injEq,List.all_cons,Me] at h hd
    exact⟨.data h.1 hd.1,dnQ n h.2 hd.2 hk⟩
theorem H47.get {L:Loc}:∀ {cs ds:List AV},H47 L cs ds→∀ (j:Nat) u u',cs[j]? = some u→ds[j]? = some u'→G6d L u u'
 | _::_,_::_,h,0,_,_,h1,h2=>by simp at h1 h2; subst h1 h2; exact h.1
 | _::_,_::_,h,j+1,u,u',h1,h2=>H47.get h.2 j u u' (by simpa using h1) (by simpa using h2)
 | [],[],_,j,_,_,h1,_=>by simp at h1
theorem G6d.ptrL {i off t:Nat} {cs ds:List AV} (hi:lk L i=some (.box t cs)) (h:H47 L (cs.drop off) ds):G6d L (.ptr i off) (.dptr ds):=.ptr hi h.len h.get
theorem G6d.fnL {f:FuncId} {cs ds:List AV} (h:H47 L cs ds):G6d L (.fn f cs) (.fn f ds):=.fn h.len h.get
theorem G6d.msL {i n cap t k:Nat} {cs xs:List AV} (hi:lk L i=some (.box t cs)) (hn:n=xs.length) (hk:Gd5 k xs=true) (h:H47 L cs (flat xs)):G6d L (.ms i 0 n cap) (.list k xs):=
 .ms hi hn (fun x hx=>(G80 hk x hx).1) h.len h.get

theorem V.ms_inv {w:World} {β:H5} {i off n cap:Nat} {v:Value} (h:V w β L (.ms i off n cap) v):∃ b,β i=some b∧v=.slice (some ⟨b,off,none⟩) n cap∧n≤cap∧cap≤maxLen:=by
 cases h with
 | data h=>cases h
 | ms hi h hn hm=>exact⟨_,h,rfl,hn,hm⟩
theorem G6d.D {w:World} {β:H5} {u u':AV} (h0:Sat w β L) (h:G6d L u u'):∀ {v:Value},V w β L u v→D w (fun b _=>b < w.heap.size) u' v:=by
 induction h with
 | data h hd=>exact fun hv=>G78.D h0 (.data h hd) hv
 | vec hi=>exact fun hv=>G78.D h0 (.vec hi) hv
 | agg hl _ ih=>
  intro v hv
  obtain⟨vs,rfl,h8,h9⟩:=hv.inv_agg
  refine .agg (h8.trans hl.symm) fun j u' x h5 hx=>?_
  have hj:j < _:=(M0 h5).1
  exact ih j _ u' (M1 (hl ▸ hj)) h5 (h9 j _ x (M1 (hl ▸ hj)) hx)
 | fn hl _ ih=>
  intro v hv
  obtain⟨vs,rfl,h8,h9⟩:=hv.inv_fn
  refine .fn (h8.trans hl.symm) fun j u' x h5 hx=>?_
  have hj:j < _:=(M0 h5).1
  exact ih j _ u' (M1 (hl ▸ hj)) h5 (h9 j _ x (M1 (hl ▸ hj)) hx)
 | @ptr i off t cs ds hi hl _ ih=>
  intro v hv
  obtain⟨b,hb,rfl⟩:=hv.inv_ptr
  obtain⟨b',h6,vs,o1,o2,o3⟩:=h0.obj i _ hi
  rw [hb] at h6; cases h6
  have h7:b < w.heap.size:=(Kp o1).1
  have a0:∀ j,j < ds.length→off+j < cs.length:=fun j hj=>by rw [hl,List.length_drop] at hj; omega
  refine .dptr (fun j=>vs.getD (off+j) undef) (fun j hj=>⟨h7,?_⟩) (fun j u hu=>?_)
  ·have:=a0 j hj
   have h2:off+j < vs.size:=by omega
   simp [World.cell?,o1,h2]
  ·have hj:=(M0 hu).1
   have:=a0 j hj
   have h2:off+j < vs.size:=by omega
   have hc:(cs.drop off)[j]? = some cs[off+j]:=by rw [Mb]; simp [this]
   refine ih j _ u hc hu ?_
   rw [Array.getD_eq_getD_getElem?,Array.getElem?_eq_getElem h2]
   exact o3 (off+j) _ _ (by simp [this]) (by simp [h2])
 | @ms i n cap t k cs xs hi hn hk hl _ ih=>
  intro v hv
  obtain⟨b,hb,rfl,g1,g2⟩:=hv.ms_inv
  obtain⟨b',h6,vs,o1,o2,o3⟩:=h0.obj i _ hi
  rw [hb] at h6; cases h6
  have h7:b < w.heap.size:=(Kp o1).1
  subst hn
  refine .list (fun j=>vs.getD (0+j) undef) g1 g2 hk (fun j hj=>⟨h7,?_⟩) (fun j u hu=>?_)
  ·have h2:j < vs.size:=by omega
   simp [World.cell?,o1,h2]
  ·have hj:=(M0 hu).1
   have h2:j < vs.size:=by omega
   have hc:cs[j]? = some cs[j]:=by simp
   refine ih j _ u hc hu ?_
   rw [Nat.zero_add,Array.getD_eq_getD_getElem?,Array.getElem?_eq_getElem h2]
   exact o3 j _ _ hc (by simp [h2])
 | @mp κ ν dq kv av i T m hi=>
  intro v hv
  obtain⟨b,vals,Hc,rfl,g1,g2,h1,g3⟩:=hv.tsrc h0 (.own hi)
  have h7:b < w.heap.size:=(Kp h1).1
  exact .dmap vals g1 (by rw [Gf7,← g2]; exact h1) (fun _=>h7) (fun i k u v h2 h3 h4=>(g3 i k u v h2 h3 h4).mono fun b i hs=>⟨hs.lt,rfl⟩)

def Gb7 (l:Fr) (L:Loc):List Operand→List AV→Prop
 | [],[]=>True
 | x::r,u::s=>G6d L (ev l x) u∧Gb7 l L r s
 | _,_=>False
theorem Gb7.length {l:Fr} {L:Loc}:∀ {xs:List Operand} {us:List AV},Gb7 l L xs us→xs.length=us.length
 | [],[],_=>rfl
 | _::r,_::s,h=>by simp [Gb7.length h.2]
theorem Gb7.get {l:Fr} {L:Loc}:∀ {xs:List Operand} {us:List AV},Gb7 l L xs us→∀ {j:Nat} {x:Operand} {u:AV},xs[j]? = some x→us[j]? = some u→G6d L (ev l x) u
 | [],[],_,j,x,u,h,_=>by simp at h
 | x::r,u::s,h,0,_,_,hx,hu=>by simp at hx hu; subst hx hu; exact h.1
 | x::r,u::s,h,j+1,_,_,hx,hu=>by simp at hx hu; exact Gb7.get h.2 hx hu
theorem G8e {f:FuncId} {xs:List Operand} {args:List AV} {ts:Array TypeId} (ho:o.op=.call { callee:=.value (.func f),args:=xs.toArray,argTypes:=ts }) (hc:Pure P f args (·=u)) (hB:H9 P f=true) (ha:Gb7 l L xs args) (hu:u.noRef=true):H2 P o l L (Is u L):=by
 intro a w β K Q h0 hf hK
 have hr:(execOp a.eval o).run P w=.ok (.enter f (xs.toArray.map a.eval)) w:=by
  simp [execOp,ho,resolve,Act.eval,Deferred.ofValue,invoke,H9.out hB]
 unfold Oper.wp
 rw [hr]
 show Calls P f _ w _
 refine(J77 hc h0 (vs:=xs.toArray.map a.eval) (by simp [ha.length]) (fun j u v hu hv=>?_) (fun r hr=>by rw [hr]; exact hu)).mono fun e w' h=>?_
 ·simp only [Array.getElem?_map,List.getElem?_toArray,Option.map_eq_some_iff] at hv
  obtain⟨x,hx,rfl⟩:=hv
  exact(ha.get hx hu).D h0 (hf.ev x)
 ·obtain⟨v,r,rfl,h1,h2,h3,rfl⟩:=h
  exact hK _ L v w' β ⟨rfl,rfl⟩ h1 h2 h3
theorem Hbb {α:Type} {f:FuncId} {xs:List Operand} {args:List AV} {ts:Array TypeId} {i E k n:Nat} {g:α→AV} {r:List α} (ho:o.op=.call { callee:=.value (.func f),args:=xs.toArray,argTypes:=ts })
  (hc:Jx P f args [] (fun av L'=>∃ p:Nat,av=.vec i p k n∧L'=[(i,.vec E k p (r.map g))])) (hB:H9 P f=true) (ha:Gb7 l L xs args) (hg:∀ x,AV.noRef.noRefL (g x).cells=true):H2 P o l L (Is (LS k g r) L):=by
 intro a w β K Q h0 hf hK
 have hr:(execOp a.eval o).run P w=.ok (.enter f (xs.toArray.map a.eval)) w:=by
  simp [execOp,ho,resolve,Act.eval,Deferred.ofValue,invoke,H9.out hB]
 unfold Oper.wp
 rw [hr]
 show Calls P f _ w _
 have h8:∀ b i:Nat,b < w.heap.size→Jj w ⟨fun _=>none,fun _ _=>False⟩ [] b i:=fun b i hs=>⟨hs,fun h=>h,fun id o h=>by simp [lk] at h⟩
 refine(hc w ⟨fun _=>none,fun _ _=>False⟩ (xs.toArray.map a.eval) ⟨fun b i h=>h.elim,fun id b h=>by simp [lk] at h,fun id b j h=>by simp [lk] at h,fun id id' b h=>by simp [lk] at h,fun id o h=>by simp [lk] at h⟩ (by simp [ha.length])
  (fun j u v hu a0=>?_)).mono fun e w' h=>?_
 ·simp only [Array.getElem?_map,List.getElem?_toArray,Option.map_eq_some_iff] at a0
  obtain⟨x,hx,rfl⟩:=a0
  exact .data (((ha.get hx hu).D h0 (hf.ev x)).mono fun b i hs=>⟨h8 b i hs,rfl⟩)
 obtain⟨v,r',β',L',rfl,h9,h6,a1,p,rfl,rfl⟩:=h
 have far:∀ b,b < w.heap.size→w'.heap[b]? = w.heap[b]? := fun b hb=>(h6.far b hb (fun id h=>by simp [lk] at h)).1
 have stab:∀ b i,Jj w β L b i→Jj w' β L b i:=fun b i hs=>⟨Kq hs.lt h6.size,hs.seen,hs.kept⟩
 have step:Step w β L w' β L:=⟨h6.os,h6.tape,h6.output,h6.size,fun _ _ _=>Iff.rfl,fun b i hs=>⟨stab b i hs,Jw (w:=w) (far b hs.lt)⟩,fun b hb hf=>⟨far b hb,hf⟩,
  fun _ _ cs h=>⟨rfl,cs,h⟩,fun _ _ cs h=>⟨rfl,cs,h⟩,fun _ _ n cs h=>⟨rfl,n,cs,h⟩,fun id _ _ ver xs h=>⟨ver,xs,h,M5,fun _=>⟨rfl,rfl,fun b hb=>G11 (far b (h0.bnd id b (by rw [h]; rfl) hb))⟩⟩,fun id _ _ ver hw h=>⟨ver,hw,h,M5,fun _=>⟨rfl,rfl,fun b hb=>far b (h0.bnd id b (by rw [h]; rfl) hb)⟩⟩⟩
 have hi:lk [(i,Jh.vec E k p (r.map g))] i=some (.vec E k p (r.map g)):=by rw [Gm,if_pos rfl]
 have key:∀ r:List α,∀ u∈flat (r.map g),u.noRef=true:=by
  intro r
  induction r with
  | nil=>intro u hu; simp [flat] at hu
  | cons x r ih=>
   intro u hu
   rw [List.map_cons,flat,Mh] at hu
   rcases hu with hu | hu
   ·exact Gbf (hg x) u hu
   ·exact ih u hu
 refine hK _ L v w' β ⟨rfl,rfl⟩ ⟨fun b i h=>Kq (h0.hid b i h) h6.size,fun id b h1 h2=>Kq (h0.bnd id b h1 h2) h6.size,h0.apart,h0.inj,fun id o h=>(h0.obj id o h).step step (fun b hb=>far b (h0.bnd id b (by rw [h]; rfl) hb))⟩ step ?_
 obtain⟨_,hk,h⟩:=G58 h9 hi a1
 rcases h with ⟨rfl,e,_⟩ | ⟨b,cap,cs,rfl,hb,h1,h2,h3,h4,h5⟩
 ·have:r=[]:=by simpa using e
  subst this
  exact .data (.nil (Nat.zero_le _))
 ·have a3:w.heap.size≤b:=Nat.le_of_not_lt fun h7=>(h6.far b h7 (fun id h=>by simp [lk] at h)).2 i (by rw [hi]; rfl) hb
  have h7:∀ j,j < (flat (r.map g)).length→j < cs.size:=fun j hj=>by
   rw [J3 hk] at hj
   have:=Nat.mul_le_mul_right k h1
   omega
  refine .data (.list (fun j=>cs.getD j undef) h1 h2 hk (fun j hj=>⟨⟨(Kp h3).1,fun hh=>?_,fun id o ho a2=>?_⟩,?_⟩) (fun j u hu=>?_))
  ·have:=h0.hid _ _ hh; omega
  ·have:=h0.bnd id b (by rw [ho]; rfl) a2; omega
  ·have:=h7 j hj
   simp [World.cell?,h3,this]
  ·have hj:=(M0 hu).1
   have:=h7 j hj
   exact(h5 j u _ hu (by simp [this])).noRef (key r u (M3 hu))
end calls

/-! ### Is it nil -/
def Rda (P:Program) (T:Nat):Bool:=match P.underlying T with | some (.pointer _)=>true | _=>false
def Ra8 (P:Program) (T:Nat):Bool:=match P.underlying T with | some (.map _ _)=>true | _=>false
def AV.isPtr:AV→Bool
 | .ptr .. | .dptr ..=>true
 | _=>false
def AV.isMap:AV→Bool
 | .mp .. | .dmap ..=>true
 | _=>false
theorem V.isPtr {w:World} {β:H5} {L:Loc} {u:AV} {v:Value} (h:V w β L u v) (hu:u.isPtr=true):∃ a,v=.pointer (some a):=by
 cases h with
 | data h=>cases h <;> first | exact⟨_,rfl⟩ | cases hu
 | ptr=>exact⟨_,rfl⟩
 | _=>cases hu
theorem V.isMap {w:World} {β:H5} {L:Loc} {u:AV} {v:Value} (h:V w β L u v) (hu:u.isMap=true):∃ b,v=.map (some b):=by
 cases h with
 | data h=>cases h <;> first | exact⟨_,rfl⟩ | cases hu
 | mp=>exact⟨_,rfl⟩
 | _=>cases hu
theorem J23 {P:Program} {T:Nat} (hT:Rda P T=true) (a:Option Addr) (w:World):(Op.equal T (.pointer a) (.pointer none)).run P w=.ok a.isNone w:=by
 unfold Rda at hT
 split at hT
 ·rename_i e h
  unfold Op.equal
  generalize hd:Op.maxDepth=d
  obtain⟨d,rfl⟩:∃ m,d=m+1:=⟨Op.maxDepth - 1,by rw [← hd]; rfl⟩
  clear hd
  cases a with
  | none=>rw [Op.equalIn]; simp [underlying,h]
  | some a=>rw [Op.equalIn]; simp [underlying,h]
 ·cases hT
theorem R66 {P:Program} {T:Nat} (hT:Ra8 P T=true) (b:Nat) (w:World):(Op.equal T (.map (some b)) (.map none)).run P w=.ok false w:=by
 unfold Ra8 at hT
 split at hT
 ·rename_i e h
  unfold Op.equal
  generalize hd:Op.maxDepth=d
  obtain⟨d,rfl⟩:∃ m,d=m+1:=⟨Op.maxDepth - 1,by rw [← hd]; rfl⟩
  clear hd
  rw [Op.equalIn]; simp [underlying,h]
 ·cases hT
section nil
variable {P:Program} {o:Oper} {l:Fr} {L:Loc}
theorem Y43 {x:Operand} {T T':Nat} (hT:Rda P T=true) (ho:o.op=.binOp .eql T x (.const (.pointer none)) T') (hx:(ev l x).isPtr=true):H2 P o l L (Is (BL false) L):=by
 intro a w β K Q h0 hf hK
 obtain⟨ad,hv⟩:=(hf.ev x).isPtr hx
 have hr:(execOp a.eval o).run P w=.ok (.value (.bool false)) w:=by
  have e2:a.eval (.const (.pointer none))=.pointer none:=rfl
  simp [execOp,ho,eqGuard,binOp,hv,e2,J23 hT]
 unfold Oper.wp
 rw [hr]
 exact hK _ _ _ _ _ ⟨rfl,rfl⟩ h0 (Step.refl _ _ _) .sc
theorem Y3d {x:Operand} {T T':Nat} (hT:Rda P T=true) (ho:o.op=.binOp .neq T x (.const (.pointer none)) T') (hx:(ev l x).isPtr=true):H2 P o l L (Is (BL true) L):=by
 intro a w β K Q h0 hf hK
 obtain⟨ad,hv⟩:=(hf.ev x).isPtr hx
 have hr:(execOp a.eval o).run P w=.ok (.value (.bool true)) w:=by
  have e2:a.eval (.const (.pointer none))=.pointer none:=rfl
  simp [execOp,ho,eqGuard,binOp,hv,e2,J23 hT]
 unfold Oper.wp
 rw [hr]
 exact hK _ _ _ _ _ ⟨rfl,rfl⟩ h0 (Step.refl _ _ _) .sc
theorem Y3c {x:Operand} {T T':Nat} (hT:Ra8 P T=true) (ho:o.op=.binOp .neq T x (.const (.map none)) T') (hx:(ev l x).isMap=true):H2 P o l L (Is (BL true) L):=by
 intro a w β K Q h0 hf hK
 obtain⟨b,hv⟩:=(hf.ev x).isMap hx
 have hr:(execOp a.eval o).run P w=.ok (.value (.bool true)) w:=by
  have e2:a.eval (.const (.map none))=.map none:=rfl
  simp [execOp,ho,eqGuard,binOp,hv,e2,R66 hT]
 unfold Oper.wp
 rw [hr]
 exact hK _ _ _ _ _ ⟨rfl,rfl⟩ h0 (Step.refl _ _ _) .sc
end nil

/-! ### A row of values that are no data -/
def Jb9 (l:Fr):List Operand→List AV→Prop
 | [],[]=>True
 | x::r,u::s=>ev l x=u∧Jb9 l r s
 | _,_=>False
theorem Jb9.length {l:Fr}:∀ {xs:List Operand} {us:List AV},Jb9 l xs us→xs.length=us.length
 | [],[],_=>rfl
 | _::_,_::_,h=>by simp [Jb9.length h.2]
theorem Jb9.get {l:Fr}:∀ {xs:List Operand} {us:List AV},Jb9 l xs us→∀ {j:Nat} {x:Operand} {u:AV},xs[j]? = some x→us[j]? = some u→ev l x=u
 | _::_,_::_,h,0,x,u,hx,hu=>by simp at hx hu; subst hx; subst hu; exact h.1
 | _::_,_::_,h,j+1,x,u,hx,hu=>Jb9.get h.2 (by simpa using hx) (by simpa using hu)
 | [],[],_,j,x,u,hx,_=>by simp at hx
theorem J8c {P:Program} {o:Oper} {l:Fr} {L:Loc} (i:Nat) {T E k n:Nat} {parts:List (Nat×Operand)} {xs cs:List AV} (ho:o.op=.buildSlice T n parts.toArray) (hd:Jb9 l (parts.map (·.2)) xs) (a3:flat xs=cs) (hT:sliceB P T E k=true) (hz:Yb P E k=true)
  (h3:parts.map (·.1)=List.range n) (hc:Gd5 k xs=true) (hn:Nat.ble (n*k) 16777216=true) (a4:Nat.blt 0 k=true) (h8:lk L i=none):H2 P o l L (Is (.ms i 0 n n) ((i,.box E cs)::L)):=by
 subst a3
 intro a w β K Q h4 hf hK
 have a2:=hd.length
 have a5:n=xs.length:=by
  have:=congrArg List.length h3
  simp only [Mg,List.length_range] at this a2
  omega
 subst a5
 have h9:=G80 hc
 have b0:∀ x∈xs,x.cells.length=k:=fun x hx=>(h9 x hx).1
 have h6:=H40 (k:=k) xs 0 (List.replicate (xs.length*k) .junk) (by simp) h9
 obtain⟨inf,z,hi,a6,b1⟩:=Yb.out hz
 let zs:Array Value:=if xs.length*k=0 then #[] else z.cells
 obtain⟨vs',e1,e2,e3⟩:=Gf8 (w:=w) (β:=β) (L:=L) (qs:=parts.map fun p=>(p.1,a.eval p.2)) (vs:=(Array.range (xs.length*k)).map (zs[· % zs.size]!)) h6 (by
   have:=congrArg List.length h3
   simp only [Mg,List.length_range] at this
   simp [this]) (fun j p q hp hq=>by
   simp only [M9,Option.map_eq_some_iff] at hq
   obtain⟨y,hy,rfl⟩:=hq
   rw [List.getElem?_zip_eq_some] at hp
   obtain⟨a7,a8⟩:=hp
   have h1:(parts.map (·.1))[j]? = (List.range xs.length)[j]? := by rw [h3]
   simp only [M9,hy,Option.map_some] at h1
   rw [List.range_eq_range',a7] at h1
   have:=(hd.get (j:=j) (x:=y.2) (u:=p.2) (by rw [M9,hy]; rfl) a8)
   have hv:=hf.ev y.2
   rw [this] at hv
   exact⟨(M2 h1).symm,hv⟩) (by simp) (fun j u v hu _=>by
   have:=List.eq_of_mem_replicate (M3 hu)
   subst this; exact .junk)
 have h7:(List.take (0*k) (List.replicate (xs.length*k) AV.junk))++flat xs=flat xs:=by simp
 rw [h7] at e2 e3
 have a9:xs.length*k≤16777216:=by simpa using hn
 have hr:(execOp a.eval o).run P w=.ok (.value (.slice (some ⟨w.heap.size,0,none⟩) xs.length xs.length)) (w.alloc (.cells vs' E)):=by
  have a0:=Q9 (sliceB.out hT).2 w
  have a1:¬ (xs.length*k > 2 ^ 24):=by
   have:(2:Nat) ^ 24=16777216:=by decide
   omega
  have hp:(parts.toArray.map fun(x:Nat×Operand)=>(x.1,a.eval x.2)).toList=parts.map fun p=>(p.1,a.eval p.2):=by simp
  by_cases h0:xs.length*k=0
  ·have h5:zs=#[]:=by simp only [zs,if_pos h0]
   rw [h5] at e1
   simp only [execOp,ho,Instr.buildSlice,underlying,(sliceB.out hT).1,run_program,Sem.run_bind,Result.andThen_ok,a0,a1,if_false,Sem.run_pure,if_pos h0,hp,e1,newRow,run_newObj]
   rfl
  ·have h5:zs=z.cells:=by simp only [zs,if_neg h0]
   rw [h5] at e1
   simp only [execOp,ho,Instr.buildSlice,underlying,(sliceB.out hT).1,run_program,Sem.run_bind,Result.andThen_ok,a0,a1,if_false,Sem.run_pure,if_neg h0,zeroValue,typeInfo,hi,a6,hp,e1,newRow,run_newObj]
   rfl
 unfold Oper.wp
 rw [hr]
 have hm:xs.length≤maxLen:=by
  have h2:0 < k:=by simpa [Nat.blt_eq] using a4
  have:xs.length*1≤xs.length*k:=Nat.mul_le_mul_left _ h2
  simp only [maxLen]; omega
 refine hK _ _ _ _ (upP β i (some w.heap.size)) ⟨rfl,rfl⟩ (h4.alloc h8 _ (fun hs=>⟨_,rfl,vs',heap_alloc_new w _,e2,fun j u v hu hv=>(e3 j u v hu hv).step hs⟩)) (Step.alloc h8 h4.bnd _) (.ms (t:=E) (cs:=flat xs) (by simp [Gm]) (by simp [upP]) (M5) hm)

/-! ### Ranges over maps with gaps -/
section gaps
variable {α σ:Type}
def rk (l:List (Option α)) (j:Nat):Nat:=((l.take j).filterMap id).length
theorem R69:∀ {l:List (Option α)} {j:Nat} {e:α},l[j]? = some (some e)→(l.filterMap id)[rk l j]? = some e
 | [],j,e,h=>by simp at h
 | none::r,0,e,h=>by simp at h
 | some a::r,0,e,h=>by simp at h; subst h; simp [rk]
 | none::r,j+1,e,h=>by
  have:=R69 (l:=r) (j:=j) (e:=e) (by simpa using h)
  simpa [rk] using this
 | some a::r,j+1,e,h=>by
  have:=R69 (l:=r) (j:=j) (e:=e) (by simpa using h)
  simpa [rk] using this
theorem R68:∀ {l:List (Option α)} {i j:Nat} {e e':α},l[i]? = some (some e)→l[j]? = some (some e')→rk l i=rk l j→i=j
 | [],i,j,e,e',h,_,_=>by simp at h
 | x::r,0,0,_,_,_,_,_=>rfl
 | none::r,0,j+1,e,e',h,_,_=>by simp at h
 | some a::r,0,j+1,e,e',_,_,hr=>by simp [rk] at hr
 | none::r,i+1,0,e,e',_,h,_=>by simp at h
 | some a::r,i+1,0,e,e',_,_,hr=>by simp [rk] at hr
 | none::r,i+1,j+1,e,e',h,h',hr=>by
  have:=R68 (l:=r) (i:=i) (j:=j) (by simpa using h) (by simpa using h') (by simpa [rk] using hr)
  omega
 | some a::r,i+1,j+1,e,e',h,h',hr=>by
  have:=R68 (l:=r) (i:=i) (j:=j) (by simpa using h) (by simpa using h') (by simpa [rk] using hr)
  omega
theorem R67:∀ {l:List (Option α)} {q:Nat},q < (l.filterMap id).length→∃ j e,l[j]? = some (some e)∧rk l j=q
 | [],q,h=>by simp at h
 | none::r,q,h=>by
  obtain⟨j,e,h1,h2⟩:=R67 (l:=r) (q:=q) (by simpa using h)
  exact⟨j+1,e,by simpa using h1,by simpa [rk] using h2⟩
 | some a::r,0,h=>⟨0,a,rfl,rfl⟩
 | some a::r,q+1,h=>by
  obtain⟨j,e,h1,h2⟩:=R67 (l:=r) (q:=q) (by simpa using h)
  exact⟨j+1,e,by simpa using h1,by simpa [rk] using h2⟩
def Gb5 (b:α→σ→(σ→Option (σ ⊕ Prop))→Option (σ ⊕ Prop)) (kx:σ→Option Prop) (l:List (Option α)) (seen:List Nat) (s:σ):Prop:=
 (∀ j∈seen,∃ e,l[j]? = some (some e))∧MInv b kx (l.filterMap id) (seen.map (rk l)) s
theorem Gb5.start {b:α→σ→(σ→Option (σ ⊕ Prop))→Option (σ ⊕ Prop)} {kx:σ→Option Prop} {l:List (Option α)} {s:σ} {p:Prop} (h:Hbc b kx (l.filterMap id) s=some p) (hp:p):Gb5 b kx l [] s:=
 ⟨by simp,MInv.start h hp⟩
theorem Gb5.step {b:α→σ→(σ→Option (σ ⊕ Prop))→Option (σ ⊕ Prop)} {kx:σ→Option Prop} {l:List (Option α)} {seen:List Nat} {s:σ} {j:Nat} {e:α} (h:Gb5 b kx l seen s) (hj:l[j]? = some (some e)) (hs:j ∉ seen) :
  ∃ o,b e s (fun s'=>some (.inl s'))=some o∧(∀ r,o=.inr r→r)∧∀ s',o=.inl s'→Gb5 b kx l (seen++[j]) s':=by
 obtain⟨h1,h2⟩:=h
 obtain⟨o,o1,o2,o3⟩:=h2.step (R69 hj) (fun hm=>by
  obtain⟨i,hi,e2⟩:=Mi.1 hm
  obtain⟨e',h0⟩:=h1 i hi
  exact hs (R68 h0 hj e2 ▸ hi))
 refine⟨o,o1,o2,fun s' ho=>⟨fun i hi=>?_,?_⟩⟩
 ·rcases Mh.1 hi with hi | hi
  ·exact h1 i hi
  ·simp at hi; subst hi; exact⟨e,hj⟩
 ·rw [List.map_append]; exact o3 s' ho
theorem Gb5.done {b:α→σ→(σ→Option (σ ⊕ Prop))→Option (σ ⊕ Prop)} {kx:σ→Option Prop} {l:List (Option α)} {seen:List Nat} {s:σ} (h:Gb5 b kx l seen s) (ha:∀ q e,l[q]? = some (some e)→q∈seen):∃ p,kx s=some p∧p:=
 h.2.done (fun q hq=>by
  obtain⟨j,e,h1,h2⟩:=R67 hq
  exact Mi.2 ⟨j,ha j e h1,h2⟩)
end gaps
set_option linter.unusedSimpArgs false

section code
variable {κ:Type} {E:H50 κ} {P:Program} {N:Cfg} {Q:Ge2 κ} {l:Fr} {L:Loc} {k:κ}
end code

section ops
variable {κ:Type} {E:H50 κ} {P:Program} {N:Cfg} {ops:Array Oper} {o:Oper} {rest:List Oper} {Q:Ge2 κ} {l:Fr} {L L':Loc} {u:AV} {k:κ}
end ops

/-! ### A slice of one's own that is begun anew -/
section mem
variable {P:Program} {o:Oper} {l:Fr} {L:Loc}
end mem

section lits
variable {P:Program} {o:Oper} {l:Fr} {L:Loc}
end lits

theorem Rf.vgiveB {N:Cfg} {l:Fr} {L:Loc} {w0 w:World} {β0 β:H5} {L0:Loc} {a:Act} (hs:Rf N w0 β0 L0 a w β l L) {i ver k n t t2 bx j:Nat} {cs:List AV} {xs:List AV} (ver1:Nat) (h0:lk L bx=some (.box t2 cs)) (hj:cs[j]? = some (.vec i ver k n)) (hi:lk L i=some (.vec t k ver xs)) (b5:ver < ver1) :
  ∃ β',Rf N w0 β0 L0 a w β' l ((bx,.box t2 (cs.set j (.list k xs)))::(i,.vec t k ver1 [])::L):=by
 have h9:i≠bx:=fun e=>by subst e; rw [hi] at h0; cases h0
 have a7:j < cs.length:=(M0 hj).1
 obtain⟨b,hb,vs,a8,b6,a9⟩:=hs.sat.obj bx _ h0
 have a0:j < vs.size:=by omega
 have hv:=a9 j _ vs[j] hj (by simp [a0])
 obtain⟨rfl,hk,h⟩:=G58 hs.sat hi hv
 obtain⟨st,sat⟩:=Rq (w':=w) (t:=t) (k:=k) (ver1:=ver1) (xs':=[]) (ob':=none) hs.sat (.inr ⟨ver,xs,hi,by omega,fun e=>by omega⟩) rfl rfl ⟨rfl,M5⟩ (M5) (fun _ _ _=>rfl) (.inl rfl)
 have sat':=sat ⟨by simp,.inl ⟨rfl,rfl⟩⟩
 have b0:Rf N w0 β0 L0 a w (upP β i none) l ((i,.vec t k ver1 [])::L):=⟨sat',hs.step.trans st,hs.frame.step st,hs.size,hs.base,hs.defers.step st⟩
 have b1:β.at_ bx=some b:=hb
 refine⟨_,b0.redescribeB (i:=bx) (t:=t2) (cs:=cs) (by rw [Gm,if_neg h9]; exact h0) (by simp) fun vs' q u v h8 a5 b7 hu h7=>?_⟩
 by_cases e:j=q
 ·subst e
  rw [List.getElem?_set_self a7] at hu
  cases hu
  obtain⟨b',h6,a1⟩:=h8
  have h6:(upP β i none).at_ bx=some b':=h6
  have b3:(upP β i none).at_ bx=β.at_ bx:=by simp [upP,Ne.symm h9]
  rw [b3,b1] at h6
  cases h6
  rw [a8] at a1
  cases a1
  have b4:v=vs[j]:=by rw [Array.getElem?_eq_getElem a0] at h7; exact(M2 h7).symm
  subst b4
  rcases h with ⟨e,rfl,_⟩ | ⟨b2,cap,vs2,e,a2,h1,h2,h3,h4,h5⟩
  ·rw [e]; exact .data (.nil (Nat.zero_le _))
  ·rw [e]
   have a3:∀ q,q < (flat xs).length→q < vs2.size:=fun q hq=>by
    rw [J3 hk] at hq
    have:=Nat.mul_le_mul_right k h1
    omega
   refine .data (.list (fun q=>vs2.getD q undef) h1 h2 hk (fun q hq=>⟨⟨(Kp h3).1,hs.sat.apart i b2 _ (by rw [hi]; rfl) a2,fun id o ho a4=>?_⟩,?_⟩) (fun q u hu=>?_))
   ·rw [Gm] at ho
    by_cases e:i=id
    ·subst e; simp [upP] at a4
    ·rw [if_neg e] at ho
     have a6:β.at_ id=some b2:=by simpa [upP,Ne.symm e] using a4
     exact absurd (hs.sat.inj i id b2 (by rw [hi]; rfl) (by rw [ho]; rfl) a2 a6) e
   ·have:=a3 q hq
    simp [World.cell?,h3,this]
   ·have hq:=(M0 hu).1
    have:=a3 q hq
    refine(h5 q u _ hu ?_).mono st.stab
    simp [this]
 ·rw [List.getElem?_set_ne e] at hu
  exact a5 q u v hu h7
theorem Qa0 {P:Program} {N:Cfg} {c:Code} {Q:Post} {l:Fr} {L:Loc} (bx j ver1:Nat) {i ver k n t t2:Nat} {cs cs':List AV} {xs:List AV} (h1:lk L bx=some (.box t2 cs)) (hj:cs[j]? = some (.vec i ver k n)) (hi:lk L i=some (.vec t k ver xs)) (h0:ver < ver1) (h2:cs.set j (.list k xs)=cs')
  (hk:JC P N c Q l ((bx,.box t2 cs')::(i,.vec t k ver1 [])::L)):JC P N c Q l L:=fun n w0 β0 L0 a w β hs=>by
 subst h2
 obtain⟨β',h⟩:=hs.vgiveB ver1 h1 hj hi h0
 exact hk n w0 β0 L0 a w β' h


def Gc5 {κ:Type} (f:κ→List AV) (l:List (Option κ)):List Nat→List AV→List Nat→Prop:=fun seen us seen'=>∃ q a,l[q]? = some (some a)∧q ∉ seen∧us=f a∧seen'=seen++[q]
def G50 {κ:Type} (l:List (Option κ)):List Nat→Prop:=fun seen=>∀ q a,l[q]? = some (some a)→q∈seen
def Gv.keys {κ ν:Type} (m:Gv κ ν):List (Option κ):=m.l.map (Option.map Prod.fst)
theorem Y5c {κ ν:Type} {m:Gv κ ν} {q:Nat} {e:κ×ν} (h:m.l[q]? = some (some e)):(Gv.keys m)[q]? = some (some e.1):=by
 rw [Gv.keys,M9,h]; rfl
theorem Qb7 {κ ν:Type} {f:κ→List AV} {m:Gv κ ν} {seen:List Nat} {q:Nat} {e:κ×ν} (h:m.l[q]? = some (some e)) (hs:q ∉ seen):Gc5 f (Gv.keys m) seen (f e.1) (seen++[q]):=⟨q,e.1,Y5c h,hs,rfl,rfl⟩
theorem Q2c {κ ν:Type} {m:Gv κ ν} {seen:List Nat} (h:∀ q e,m.l[q]? = some (some e)→q∈seen):G50 (Gv.keys m) seen:=fun q a hq=>by
 rw [Gv.keys,M9] at hq
 cases ho:m.l[q]? with
 | none=>rw [ho] at hq; cases hq
 | some o=>
  cases o with
  | none=>rw [ho] at hq; cases hq
  | some e=>exact h q e ho
theorem H7b {κ ν:Type} [DecidableEq κ] (m:Gv κ ν):(Gv.keys m).filterMap id=(Gv.Hc m).map Prod.fst:=by
 unfold Gv.keys Gv.Hc
 induction m.l with
 | nil=>rfl
 | cons o r ih=>cases o <;> simp [ih]

section ops
variable {κ:Type} {E:H50 κ} {P:Program} {N:Cfg} {ops:Array Oper} {o:Oper} {rest:List Oper} {Q:Ge2 κ} {l:Fr} {L:Loc} {k:κ} {R:AV→Loc→Prop}
theorem Q52 {d:Nat} (hE:E.Ok P) (hg:o.guard=none) (hd:o.dst=some d) (hn:Nat.blt d N.n=true) (h:H2 P o l L R)
  (hk:∀ u L',R u L'→JIL E P N ops rest Q ((d,u)::l) L' k) (h2:G4f o=true:=by rfl):JIL E P N ops (o::rest) Q l L k:=by
 intro n a w β hs
 refine Gc3 (ro:=none) hg h2 fun K hK=>h a w β K _ hs.sat hs.frame ?_
 intro u L' v w' β' hr h1 h0 hv
 have h3:d < a.tmps.size:=Kq (by simpa [Nat.blt_eq] using hn) hs.size
 rw [hd]
 exact hK _ _ (hk u L' hr n _ w' β' (hs.step hE h0 h1 ((hs.frame.step h0).put h3 hv) (Act.put_size ..) (Act.put_defers' ..)))
end ops

section calls
variable {P:Program} {o:Oper} {l:Fr} {L:Loc} {ρ:Type} {Rp:ρ→Prop}
theorem R29 {f:FuncId} {xs:List Operand} {args:List AV} {ts:Array TypeId} {g:ρ→AV} (ho:o.op=.call { callee:=.value (.func f),args:=xs.toArray,argTypes:=ts }) (hc:Pure P f args (fun av=>∃ r,Rp r∧av=g r)) (hB:H9 P f=true) (ha:G60 l xs args):H2 P o l L (fun u L'=>∃ r,Rp r∧u=g r∧L'=L):=
 fun a w β K Q h0 hf hK=>Y47 hc hB ha ho a w β K Q h0 hf (fun u L' v w' β' hr h1 h2 hv=>hK u L' v w' β' (by obtain⟨e,r,hp,e2⟩:=hr; exact⟨r,hp,e2,e⟩) h1 h2 hv)
theorem J8d {f:FuncId} {xs:List Operand} {args:List AV} {ts:Array TypeId} {u:Nat→ρ→AV} {Lr:Nat→ρ→Loc} (ho:o.op=.call { callee:=.value (.func f),args:=xs.toArray,argTypes:=ts }) (hc:Jx P f args [] (fun av L'=>∃ p:Nat,∃ r,Rp r∧av=u p r∧L'=Lr p r)) (hB:H9 P f=true) (ha:Hc4 l [] xs args)
  (h0:∀ p r,H17 L [] (Lr p r)=true):H2 P o l L (fun u' L''=>∃ p r,Rp r∧u'=u p r∧L''=Lr p r++H76 L []):=by
 have h2:Jx P f args [] (fun av L'=>∃ q:Nat×{r:ρ // Rp r},av=u q.1 q.2.1∧L'=Lr q.1 q.2.1):=hc.mono (fun av L' h=>by
  obtain⟨p,r,hp,e1,e2⟩:=h
  exact⟨(p,⟨r,hp⟩),e1,e2⟩)
 have h:=Q5c (L:=L) ho h2 hB ha trivial rfl (fun q=>h0 q.1 q.2.1)
 exact fun a w β K Q h1 hf hK=>h a w β K Q h1 hf (fun u' L' v w' β' hr h3 h4 hv=>hK u' L' v w' β' (by obtain⟨q,e1,e2⟩:=hr; exact⟨q.1,q.2.1,q.2.2,e1,e2⟩) h3 h4 hv)
end calls
section calls
variable {P:Program} {o:Oper} {l:Fr} {L:Loc}
end calls
def BG {α:Type} (k:Nat) (g:α→AV) (xs:List α):AV:=.bag k (xs.map g)
theorem Y0f {α β:Type} {g:α→β} {ys:List β}:∀ {xs:List α},ys.Perm (xs.map g)→∃ zs:List α,zs.Perm xs∧ys=zs.map g:=by
 have key:∀ (aQ bs:List β),aQ.Perm bs→∀ xs:List α,bs=xs.map g→∃ zs:List α,zs.Perm xs∧aQ=zs.map g:=by
  intro aQ bs h
  induction h with
  | nil=>intro xs e; exact⟨[],by have:xs=[]:=List.map_eq_nil_iff.1 e.symm; rw [this],rfl⟩
  | cons a _ ih=>
   intro xs e
   cases xs with
   | nil=>cases e
   | cons x xs=>
    rw [List.map_cons] at e
    injection e with e1 e2
    obtain⟨zs,h1,h2⟩:=ih xs e2
    exact⟨x::zs,h1.cons x,by rw [List.map_cons,← e1,h2]⟩
  | swap a b l=>
   intro xs e
   cases xs with
   | nil=>cases e
   | cons x xs=>
    cases xs with
    | nil=>simp at e
    | cons y xs=>
     simp only [List.map_cons,List.cons.injEq] at e
     exact⟨y::x::xs,List.Perm.swap x y xs,by simp [e.1,e.2.1,e.2.2]⟩
  | trans _ _ ih1 ih2=>
   intro xs e
   obtain⟨zs,h1,h2⟩:=ih2 xs e
   obtain⟨ws,h3,h4⟩:=ih1 zs h2
   exact⟨ws,h3.trans h1,h4⟩
 exact fun {xs} h=>key _ _ h xs rfl
theorem Pure.toBag {P:Program} {f:FuncId} {args:List AV} {α:Type} {k:Nat} {g:α→AV} {xs:List α} (h:Pure P f args (fun av=>∃ r:List α,r.Perm xs∧av=LS k g r)):Pure P f args (·=BG k g xs):=fun w β vs a b c=>(h w β vs a b c).mono fun e w' hh=>by
 obtain⟨v,r,β',L',h1,h2,h3,h4,h5,q,hq,rfl⟩:=hh
 subst h5
 exact⟨v,_,β',[],h1,h2,h3,.data (.bag (hq.map g) h4.data_of_nil),rfl,rfl⟩
theorem Pure.ofBag {P:Program} {f:FuncId} {pre:List AV} {u:AV} {α:Type} {k:Nat} {g:α→AV} {xs:List α} (h:∀ zs:List α,zs.Perm xs→Pure P f (pre++[LS k g zs]) (·=u)):Pure P f (pre++[BG k g xs]) (·=u):=fun w β vs a b c=>by
 have hb:vs.size=pre.length+1:=by simpa using b
 have hv:=(c pre.length (BG k g xs) (vs[pre.length]'(by omega)) (by simp) (by simp [hb])).data_of_nil
 obtain⟨zs,hz,hd⟩:∃ zs:List α,zs.Perm xs∧D w (Jj w β []) (LS k g zs) (vs[pre.length]'(by omega)):=by
  generalize vs[pre.length]'(by omega)=v at hv
  unfold BG at hv
  cases hv with
  | bag hp hd=>
   obtain⟨zs,h1,rfl⟩:=Y0f hp
   exact⟨zs,h1,hd⟩
 refine h zs hz w β vs a (by simpa using b) fun j x v hx hv=>?_
 rcases Ku j pre.length with hj | hj
 ·rw [M7 hj] at hx
  exact c j x v (by rw [M7 hj]; exact hx) hv
 ·rw [M6 hj] at hx
  have:j=pre.length:=by
   have:=(M0 hx).1
   simp at this; omega
  subst this
  simp at hx
  subst hx
  have e:=(Kp hv).2
  rw [← e]
  exact .data hd
abbrev ndM {α:Type} (m:(α→Prop)→Option Prop) (k:α→Option Prop):Option Prop:=m (fun r=>∃ p,k r=some p∧p)
end Go.Proofs.YtmfhaflabpnaoaaGreat
