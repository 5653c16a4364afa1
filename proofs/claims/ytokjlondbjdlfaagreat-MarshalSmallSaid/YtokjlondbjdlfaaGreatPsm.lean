/-
 Maps from which entries are deleted: Maps from which entries are deleted: What slices.Insert and slices.Delete do to a slice of the ca Slices that are lent aQ local objects,with what lies behind An object that bears maps:
-/
import Derived.Test.YtokjlondbjdlfaaGreatMapD
import Derived.Lib.Overlaps
import Derived.Lib.AppendZerosOnto
namespace Go.Proofs.YtokjlondbjdlfaaGreat
open Go.RowKit

theorem Hcf:∀ {es:List (Value×AV)} {vals:List Value} {i j:Nat} {p0:Value×AV} (k:Value) (u:AV) (x:Value),es[j]? = some p0→isT p0.2=false→isT u=false →
  Jw i (es.set j (k,u)) (vals.set j x)=(Jw i es vals).map (fun e=>if e.born=i+j then { e with key:=k,val:=x } else e)
 | [],vals,i,j,p0,k,u,x,h,_,_=>by simp at h
 | p::es,[],i,j,p0,k,u,x,h,_,_=>by cases j <;> simp [Jw]
 | p::es,v::vs,i,0,p0,k,u,x,h,h0,hu=>by
  simp at h; subst h
  have key:(Jw (i+1) es vs).map (fun e=>if e.born=i+0 then { e with key:=k,val:=x } else e)=Jw (i+1) es vs:=by
   conv=>rhs; rw [← List.map_id (Jw (i+1) es vs)]
   refine List.map_congr_left fun e he=>?_
   have:=(H59 he).1
   rw [if_neg (by omega)]; rfl
  simp only [List.set_cons_zero,Jw,h0,hu,Bool.false_eq_true,if_false,List.map_cons,Nat.add_zero,if_true]
  rw [Nat.add_zero] at key
  rw [key]
 | p::es,v::vs,i,j+1,p0,k,u,x,h,h0,hu=>by
  have ih:=Hcf (es:=es) (vals:=vs) (i:=i+1) (j:=j) k u x (by simpa using h) h0 hu
  have e1:i+1+j=i+(j+1):=by omega
  rw [e1] at ih
  cases hp:isT p.2 with
  | true=>simp only [List.set_cons_succ,Jw,hp,if_true]; exact ih
  | false=>
   simp only [List.set_cons_succ,Jw,hp,Bool.false_eq_true,if_false,List.map_cons]
   rw [ih,if_neg (show ¬ i=i+(j+1) by omega)]

section typed
variable {P:Program} {κ ν:Type} [DecidableEq κ] {kv:κ→Value} {av:ν→AV} {L:Loc}
omit [DecidableEq κ] in
theorem R72 {l:List (Option (κ×ν))} {j:Nat} {k:Value} {u:AV} (h:(tOf kv av l)[j]? = some (k,u)) (hu:isT u=false):∃ p:κ×ν,l[j]? = some (some p)∧k=kv p.1∧u=av p.2:=by
 rw [tOf,Kf] at h
 cases hl:l[j]? with
 | none=>rw [hl] at h; cases h
 | some o=>
  rw [hl] at h
  cases o with
  | none=>simp at h; obtain⟨_,rfl⟩:=h; cases hu
  | some p=>simp at h; exact⟨p,rfl,h.1.symm,h.2.symm⟩
omit [DecidableEq κ] in
theorem H0a {l:List (Option (κ×ν))} {j:Nat} {p:κ×ν} (h:l[j]? = some (some p)):(tOf kv av l)[j]? = some (kv p.1,av p.2):=by rw [tOf,Kf,h]; rfl
omit [DecidableEq κ] in
theorem G92 (l:List (Option (κ×ν))):(tOf kv av l).length=l.length:=by simp [tOf]
theorem Jae {l:List (Option (κ×ν))} (hn:((l.filterMap id).map (·.1)).Nodup) {q:Nat} {a:κ} {v0:ν} (v:ν) (h:l[q]? = some (some (a,v0))):J8d l a v=l.set q (some (a,v)):=by
 obtain⟨h1,_,h3⟩:=Gaa hn h
 unfold J8d
 rw [if_pos h3]
 apply List.ext_getElem?
 intro j
 rw [Kf,List.getElem?_set]
 by_cases e:q=j
 ·subst e
  have h0:=(Ex h).1
  rw [if_pos rfl,if_pos h0,h]; simp
 ·rw [if_neg e]
  cases hj:l[j]? with
  | none=>rfl
  | some o=>
   cases o with
   | none=>rfl
   | some p=>
    obtain⟨b,u⟩:=p
    by_cases e2:b=a
    ·subst e2
     have:=(Gaa hn hj).1
     omega
    ·simp [e2]
omit [DecidableEq κ] in
theorem J25 {w:World} {S:Nat→Nat→Prop} {l:List (Option (κ×ν))} {vals:List Value} (hD:∀ (i:Nat) k u v,(tOf kv av l)[i]? = some (k,u)→vals[i]? = some v→isT u=false→D w S u v) {e:MapEntry} (hm:e∈Jw 0 (tOf kv av l) vals) :
  ∃ p:κ×ν,l[e.born]? = some (some p)∧e.key=kv p.1∧vals[e.born]? = some e.val∧D w S (av p.2) e.val:=by
 obtain⟨j,p,v,h1,h2,h3,rfl⟩:=Gbd.1 hm
 obtain⟨k,u⟩:=p
 obtain⟨p,g1,rfl,rfl⟩:=R72 h1 h3
 simp only [Nat.zero_add]
 exact⟨p,g1,rfl,h2,hD j _ _ v h1 h2 h3⟩
omit [DecidableEq κ] in
theorem H5d {w:World} {S:Nat→Nat→Prop} {K:Nat} {l:List (Option (κ×ν))} (hk:G6d P K kv) (h5:∀ x,isT (av x)=false) {vals:List Value} {Hh:Array MapEntry} (h0:vals.length=(tOf kv av l).length) (he:Hh=(Jw 0 (tOf kv av l) vals).toArray)
  (hD:∀ (i:Nat) k u v,(tOf kv av l)[i]? = some (k,u)→vals[i]? = some v→isT u=false→D w S u v) (a:κ) :
  ((Instr.findKey K (kv a) Hh.toList).run P w=.ok none w∧(∀ p∈l.filterMap id,p.1≠a))∨∃ j q e v,(Instr.findKey K (kv a) Hh.toList).run P w=.ok (some (j,e.val)) w∧Hh[j]? = some e∧(Jw 0 (tOf kv av l) vals)[j]? = some e∧e.born=q∧e.key=kv a∧l[q]? = some (some (a,v))∧vals[q]? = some e.val∧D w S (av v) e.val:=by
 have hl:Hh.toList=Jw 0 (tOf kv av l) vals:=by rw [he]
 rcases hk.find w a (Jw 0 (tOf kv av l) vals) (fun e hm=>by obtain⟨p,_,h,_⟩:=J25 hD hm; exact⟨p.1,h⟩) with ⟨h1,h2⟩ | ⟨j,e,h1,h2,h3⟩
 ·refine .inl ⟨by rw [hl]; exact h1,fun p hp e=>?_⟩
  obtain⟨o,ho,rfl⟩:∃ o,o∈l∧o=some p:=by
   obtain⟨o,ho,e⟩:=List.mem_filterMap.1 hp
   exact⟨o,ho,e⟩
  obtain⟨q,hq,e2⟩:=List.mem_iff_getElem.1 ho
  have hg:l[q]? = some (some p):=by rw [Ey hq,e2]
  have h6:q < vals.length:=by rw [h0,G92]; exact hq
  have h4:(⟨kv p.1,vals[q],0+q⟩:MapEntry)∈Jw 0 (tOf kv av l) vals:=Gbd.2 ⟨q,(kv p.1,av p.2),vals[q],H0a hg,by simp [h6],h5 p.2,rfl⟩
  exact h2 _ h4 (by rw [← e])
 ·have hm:=K0 h2
  obtain⟨p,g1,g2,g3,g4⟩:=J25 hD hm
  have ha:p.1=a:=hk.inj _ _ (g2.symm.trans h3)
  obtain⟨pa,pv⟩:=p
  simp only at ha; subst ha
  exact .inr ⟨j,e.born,e,pv,by rw [hl]; exact h1,by rw [he]; simpa using h2,h2,rfl,h3,g1,g3,g4⟩
def TP (T:Nat) (kv:κ→Value) (av:ν→AV) (m:Hq κ ν):J3:=.map (1000000+T) (tOf kv av m.l)
theorem Qeb (T:Nat):Nat.blt (1000000+T) 1000000=false:=by
 rw [Bool.eq_false_iff]; intro h
 rw [Nat.blt_eq] at h; omega
omit [DecidableEq κ] in
theorem Hae {w:World} {β:Gx} {i b T:Nat} {m:Hq κ ν} (h4:Sat w β L) (hi:lk L i=some (TP T kv av m)) (hb:β i=some b) :
  ∃ (vals:List Value) (Hh:Array MapEntry),vals.length=(tOf kv av m.l).length∧Hh=(Jw 0 (tOf kv av m.l) vals).toArray∧w.heap[b]? = some (.map Hh m.l.length) ∧
   ∀ (i:Nat) k u v,(tOf kv av m.l)[i]? = some (k,u)→vals[i]? = some v→isT u=false→D w (J5 w β L) u v:=by
 obtain⟨b',h0,h⟩:=h4.obj i _ hi
 rw [hb] at h0; cases h0
 rcases h with ⟨h,_⟩ | ⟨_,vals,h1,h2,h3⟩
 ·rw [Qeb] at h; cases h
 ·exact⟨vals,_,h1,rfl,by rw [← G92 (kv:=kv) (av:=av)]; exact h2,h3⟩
def DM (kv:κ→Value) (av:ν→AV) (m:Hq κ ν):AV:=.dmap (tOf kv av m.l)
inductive Ja0 (L:Loc) (kv:κ→Value) (av:ν→AV) (m:Hq κ ν):AV→Prop
 | own {i T:Nat} (h:lk L i=some (TP T kv av m)):Ja0 L kv av m (.mp i)
 | data:Ja0 L kv av m (DM kv av m)
omit [DecidableEq κ] in
theorem D.tmap {w:World} {S:Nat→Nat→Prop} {m:Hq κ ν} {v:Value} (h:D w S (DM kv av m) v):∃ (b:Nat) (vals:List Value) (Hh:Array MapEntry),v=.map (some b)∧vals.length=(tOf kv av m.l).length∧Hh=(Jw 0 (tOf kv av m.l) vals).toArray∧w.heap[b]? = some (.map Hh m.l.length) ∧
   ∀ (i:Nat) k u v,(tOf kv av m.l)[i]? = some (k,u)→vals[i]? = some v→isT u=false→D w S u v:=by
 unfold DM at h
 cases h with
 | dmap vals h1 h2 h3 h4=>exact⟨_,vals,_,rfl,h1,rfl,by rw [← G92 (kv:=kv) (av:=av)]; exact h2,h4⟩
omit [DecidableEq κ] in
theorem V.tsrc {w:World} {β:Gx} {m:Hq κ ν} {u:AV} {v:Value} (h0:Sat w β L) (hm:Ja0 L kv av m u) (hv:V w β L u v):∃ (b:Nat) (vals:List Value) (Hh:Array MapEntry),v=.map (some b)∧vals.length=(tOf kv av m.l).length∧Hh=(Jw 0 (tOf kv av m.l) vals).toArray∧w.heap[b]? = some (.map Hh m.l.length) ∧
   ∀ (i:Nat) k u v,(tOf kv av m.l)[i]? = some (k,u)→vals[i]? = some v→isT u=false→D w (J5 w β L) u v:=by
 cases hm with
 | own hi=>
  obtain⟨b,hb,h2⟩:=hv.inv_mp
  obtain⟨vals,Hh,g1,g2,h1,g3⟩:=Hae h0 hi hb
  exact⟨b,vals,Hh,h2,g1,g2,h1,g3⟩
 | data=>
  cases hv with
  | data h=>exact h.tmap
omit [DecidableEq κ] in
theorem G3c {w:World} {β:Gx} {i b T:Nat} {m m':Hq κ ν} {vals':List Value} (h0:Sat w β L) (hi:lk L i=some (TP T kv av m)) (hb:β i=some b)
  (h4:vals'.length=(tOf kv av m'.l).length) (hD:∀ (i:Nat) k u v,(tOf kv av m'.l)[i]? = some (k,u)→vals'[i]? = some v→isT u=false→D w (J5 w β L) u v) {ents':Array MapEntry} {c:Nat} (he:ents'=(Jw 0 (tOf kv av m'.l) vals').toArray) (hc:c=m'.l.length) :
  let w':World:={ w with heap:=w.heap.setIfInBounds b (.map ents' c) }
  Sat w' β ((i,TP T kv av m')::L)∧Step w β L w' β ((i,TP T kv av m')::L):=by
 intro w'
 have h5:b < w.heap.size:=h0.bnd i b (by rw [hi]; rfl) hb
 have st:Step w β L w' β ((i,TP T kv av m')::L):=Step.change h0 hi hb rfl rfl rfl ⟨rfl,Kb⟩ (H9f w b _) (fun k hk=>H4e w b k _ hk)
 exact⟨Sat.change h0 hi hb st (H9f w b _) (fun k hk=>H4e w b k _ hk) ⟨b,rfl,.inr ⟨Qeb T,vals',h4,by rw [G92,← hc,← he]; exact Jc0 w b _ h5,fun j k u v h1 h2 h3=>(hD j k u v h1 h2 h3).mono st.stab⟩⟩,st⟩
end typed

section ops
variable {P:Program} {o:Oper} {l:Fr} {L:Loc} {u:AV} {κ ν:Type} {kv:κ→Value} {av:ν→AV}
theorem Q56 {vals:List Value} {l:List (Option (κ×ν))} {w:World} {S:Nat→Nat→Prop} {q:Nat} {a:κ} {v:ν} {x:Value}
  (hD:∀ (i:Nat) k u v,(tOf kv av l)[i]? = some (k,u)→vals[i]? = some v→isT u=false→D w S u v) (hx:D w S (av v) x) :
  ∀ (i:Nat) k u y,(tOf kv av (l.set q (some (a,v))))[i]? = some (k,u)→(vals.set q x)[i]? = some y→isT u=false→D w S u y:=fun i k u y h1 h2 h3=>by
 have e:tOf kv av (l.set q (some (a,v)))=(tOf kv av l).set q (kv a,av v):=by rw [tOf,List.map_set]; rfl
 rw [e,List.getElem?_set] at h1
 rw [List.getElem?_set] at h2
 by_cases hq:q=i
 ·rw [if_pos hq] at h1 h2
  split at h1
  ·split at h2
   ·cases h1; cases h2; exact hx
   ·cases h2
  ·cases h1
 ·rw [if_neg hq] at h1 h2
  exact hD i k u y h1 h2 h3
theorem Jab {vals:List Value} {l:List (Option (κ×ν))} {w:World} {S:Nat→Nat→Prop} {a:κ} {v:ν} {x:Value} (h0:vals.length=(tOf kv av l).length)
  (hD:∀ (i:Nat) k u v,(tOf kv av l)[i]? = some (k,u)→vals[i]? = some v→isT u=false→D w S u v) (hx:D w S (av v) x) :
  ∀ (i:Nat) k u y,(tOf kv av (l++[some (a,v)]))[i]? = some (k,u)→(vals++[x])[i]? = some y→isT u=false→D w S u y:=fun i k u y h1 h2 h3=>by
 have e:tOf kv av (l++[some (a,v)])=tOf kv av l++[(kv a,av v)]:=by simp [tOf]
 rw [e] at h1
 rcases Ep i vals.length with hi | hi
 ·rw [Kd (by omega)] at h1
  rw [Kd hi] at h2
  exact hD i k u y h1 h2 h3
 ·rw [Kc (by omega)] at h1
  rw [Kc hi] at h2
  rw [← h0] at h1
  cases hq:i - vals.length with
  | zero=>rw [hq] at h1 h2; simp at h1 h2; obtain⟨_,rfl⟩:=h1; subst h2; exact hx
  | succ n=>rw [hq] at h1; simp at h1
theorem H96 (i:Nat) {T:Nat} (kv:κ→Value) (av:ν→AV) (ho:o.op=.makeMap T none) (hi:lk L i=none):Gn P o l L (Is (.mp i) ((i,TP T kv av Hq.empty)::L)):=by
 intro a w β K Q h0 hf hK
 have hr:(execOp a.eval o).run P w=.ok (.value (.map (some w.heap.size))) (w.alloc (.map #[] 0)):=by
  simp [execOp,ho,Instr.makeMap]
 unfold Oper.wp
 rw [hr]
 exact hK _ _ _ _ (upP β i (some w.heap.size)) ⟨rfl,rfl⟩ (h0.alloc hi _ (fun hs=>⟨_,rfl,.inr ⟨Qeb T,[],rfl,heap_alloc_new w _,fun i k u v he=>by simp [Hq.empty,tOf] at he⟩⟩)) (Step.alloc hi h0.bnd _) (.mp (t:=1000000+T) (es:=[]) (by simp [G9,TP,Hq.empty,tOf]) (by simp [upP]))
variable [DecidableEq κ]
theorem J88 {x y:Operand} {T K E:Nat} {ok:Bool} {m:Hq κ ν} {a:κ} (z0:ν) (zv:Value) (h5:∀ x,isT (av x)=false) (ho:o.op=.lookup T x y ok) (hm:Ja0 L kv av m (ev l x))
  (hx:ev l y=Qo (kv a)) (hk:G6d P K kv) (hT:Yf P T K E=true) (hz:(P.info? E).bind (·.zero)=some zv) (h6:av z0=Qo zv) :
  Gn P o l L (Is (bif ok then .tup [av (m.get a z0),BL (m.has a)] else av (m.get a z0)) L):=
 H2 fun A w β h4 hf=>by
  obtain⟨b,vals,Hh,h0,g1,g2,h1,g3⟩:=(hf.ev x).tsrc h4 hm
  have h2:A.eval y=kv a:=H5a hf hx
  rcases H5d (P:=P) (w:=w) hk h5 g1 g2 g3 a with ⟨f1,f2⟩ | ⟨j,q,e,v,f1,f2,f3,f4,f5,f6,f7,f8⟩
  ·refine⟨if ok then .tuple #[zv,.bool false] else zv,?_,?_⟩
   ·simp only [execOp,ho,Instr.lookup,underlying,h0,h2,Sem.run_bind,run_program,Result.andThen_ok,Yf.out hT,Sem.run_pure,Q1 h1,hk.check,f1,Ha0 hz]
   ·unfold Hq.get Hq.has Hq.Hh
    rw [J6f f2,H13 f2]
    have h3:V w β L (av z0) zv:=by rw [h6]; exact .data (G94 zv)
    cases ok
    ·exact h3
    ·refine .tup rfl fun j u v hu hv=>?_
     match j with
     | 0=>simp at hu hv; subst hu; subst hv; exact h3
     | 1=>simp at hu hv; subst hu; subst hv; exact .sc
     | j+2=>simp at hu
  ·refine⟨if ok then .tuple #[e.val,.bool true] else e.val,?_,?_⟩
   ·simp only [execOp,ho,Instr.lookup,underlying,h0,h2,Sem.run_bind,run_program,Result.andThen_ok,Yf.out hT,Sem.run_pure,Q1 h1,hk.check,f1]
   ·unfold Hq.get Hq.has Hq.Hh
    obtain⟨_,k2,k3⟩:=Gaa m.nd f6
    rw [k2,k3]
    cases ok
    ·exact .data f8
    ·refine .tup rfl fun j u v' hu hv=>?_
     match j with
     | 0=>simp at hu hv; subst hu; subst hv; exact .data f8
     | 1=>simp at hu hv; subst hu; subst hv; exact .sc
     | j+2=>simp at hu
theorem J4d {x y:Operand} {T K E:Nat} {m:Hq κ ν} {a:κ} (z0:ν) (zv:Value) (h0:∀ x,isT (av x)=false) (ho:o.op=.lookup T x y false) (hm:Ja0 L kv av m (ev l x))
  (hx:ev l y=Qo (kv a)) (hk:G6d P K kv) (hT:Yf P T K E=true) (hz:(P.info? E).bind (·.zero)=some zv) (h1:av z0=Qo zv) :
  Gn P o l L (Is (av (m.get a z0)) L):=J88 (ok:=false) z0 zv h0 ho hm hx hk hT hz h1
theorem H97 {x y:Operand} {T K E:Nat} {m:Hq κ ν} {a:κ} (z0:ν) (zv:Value) (h0:∀ x,isT (av x)=false) (ho:o.op=.lookup T x y true) (hm:Ja0 L kv av m (ev l x))
  (hx:ev l y=Qo (kv a)) (hk:G6d P K kv) (hT:Yf P T K E=true) (hz:(P.info? E).bind (·.zero)=some zv) (h1:av z0=Qo zv) :
  Gn P o l L (Is (.tup [av (m.get a z0),BL (m.has a)]) L):=J88 (ok:=true) z0 zv h0 ho hm hx hk hT hz h1
theorem J37 (l:List MapEntry) (j:Nat) (f:MapEntry→MapEntry):l.toArray.modify j f=(l.modify j f).toArray:=by
 apply Array.ext'
 simp
theorem H1e {x y z:Operand} {T K E i:Nat} {m:Hq κ ν} {a:κ} {v:ν} (h3:∀ x,isT (av x)=false) (ho:o.op=.mapUpdate T x y z) (hm:ev l x=.mp i) (hi:lk L i=some (TP T kv av m))
  (hx:ev l y=Qo (kv a)) (hy:(ev l z).plain=av v) (h8:(av v).isData=true) (hk:G6d P K kv) (hT:Yf P T K E=true) :
  Gn P o l L (Is .junk ((i,TP T kv av (m.put a v))::L)):=by
 intro A w β KK Q h2 hf hK
 have hv:=hf.ev x
 rw [hm] at hv
 obtain⟨b,hb,h4⟩:=hv.inv_mp
 obtain⟨vals,Hh,g1,g2,h1,g3⟩:=Hae h2 hi hb
 have h5:A.eval y=kv a:=H5a hf hx
 have h6:=(hf.ev z).plain
 rw [hy] at h6
 have h7:=h6.toD h8
 rcases H5d (P:=P) (w:=w) hk h3 g1 g2 g3 a with ⟨f1,f2⟩ | ⟨j,q,e,v0,f1,f2,f3,f4,f5,f6,f7,f8⟩
 ·have hr:(execOp A.eval o).run P w=.ok .skip { w with heap:=w.heap.setIfInBounds b (.map (Hh.push { key:=kv a,val:=A.eval z,born:=m.l.length }) (m.l.length+1)) }:=by
   simp only [execOp,ho,Instr.mapUpdate,underlying,h4,h5,Sem.run_bind,run_program,Result.andThen_ok,Yf.out hT,Sem.run_pure,Q1 h1,hk.check,f1,Z3 h1]
  unfold Oper.wp
  rw [hr]
  have hp:(m.put a v).l=m.l++[some (a,v)]:=by show J8d m.l a v=_; unfold J8d; rw [H13 f2]; rfl
  have h0:tOf kv av (m.l++[some (a,v)])=tOf kv av m.l++[(kv a,av v)]:=by simp [tOf]
  obtain⟨s1,s2⟩:=G3c h2 hi hb (m':=m.put a v) (vals':=vals++[A.eval z]) (by rw [hp,h0]; simp [g1]) (by rw [hp]; exact Jab g1 g3 h7) (ents':=Hh.push { key:=kv a,val:=A.eval z,born:=m.l.length }) (c:=m.l.length+1) (by
   rw [hp,h0,Hd0 _ _ g1 (h3 v),g2,G92]; simp) (by rw [hp]; simp)
  exact hK _ _ _ _ β ⟨rfl,rfl⟩ s1 s2 .junk
 ·have h9:=hk.stays w a
  have hr:(execOp A.eval o).run P w=.ok .skip { w with heap:=w.heap.setIfInBounds b (.map (Hh.modify j fun e=>{ e with key:=kv a,val:=A.eval z }) m.l.length) }:=by
   have a0:((Hh[j]?).map (·.key)).getD (kv a)=kv a:=by rw [f2]; exact f5
   simp only [execOp,ho,Instr.mapUpdate,underlying,h4,h5,Sem.run_bind,run_program,Result.andThen_ok,Yf.out hT,Sem.run_pure,Q1 h1,hk.check,f1,a0,h9,Z3 h1]
  unfold Oper.wp
  rw [hr]
  have hp:(m.put a v).l=m.l.set q (some (a,v)):=Jae m.nd v f6
  have h0:tOf kv av (m.l.set q (some (a,v)))=(tOf kv av m.l).set q (kv a,av v):=by rw [tOf,List.map_set]; rfl
  obtain⟨s1,s2⟩:=G3c h2 hi hb (m':=m.put a v) (vals':=vals.set q (A.eval z)) (by rw [hp,h0]; simp [g1]) (by rw [hp]; exact Q56 g3 h7) (ents':=Hh.modify j fun e=>{ e with key:=kv a,val:=A.eval z }) (c:=m.l.length) (by
   rw [hp,h0,Hcf _ _ _ (H0a f6) (h3 v0) (h3 v),g2,J37,Hea G3d f3,Nat.zero_add,f4]) (by rw [hp]; simp)
  exact hK _ _ _ _ β ⟨rfl,rfl⟩ s1 s2 .junk
end ops

section ops
variable {P:Program} {o:Oper} {l:Fr} {L:Loc} {u:AV} {κ ν:Type} [DecidableEq κ] {kv:κ→Value} {av:ν→AV}
end ops

theorem G88 {P:Program} {T E k:Nat} (hT:sliceB P T E k=true) (a:Option Addr) (len cap m n:Nat) (lo hi:Option Value) (w:World) (h0:m≤n) (hn:n≤cap)
  (h4:(lo=none∧m=0)∨∃ kd,lo=some (.int kd m)) (h5:(hi=none∧n=len)∨∃ kd,hi=some (.int kd n)) :
  (Instr.sliceAt T (.slice a len cap) lo hi none).run P w=.ok (.slice (if cap=m then a else a.map (·.add (m*k))) (n - m) (cap - m)) w:=by
 obtain⟨h1,h2⟩:=sliceB.out hT
 have h3:=Ja h2 w
 have hb:∀ (kd:IntKind) (i:Nat) (y:Nat) (c:BoundsCode),i≤y→(Instr.sliceBound (.int kd (i:Int)) y c).run P w=.ok i w:=fun kd i y c hi=>by
  have:(0:Int)≤i∧(i:Int)≤y:=⟨by omega,by omega⟩
  simp [Instr.sliceBound,asIntOf,this]
 have hs:(Instr.sliceBounds true len cap lo hi none).run P w=.ok (m,n,cap) w:=by
  rcases h4 with ⟨rfl,rfl⟩ | ⟨kd,rfl⟩ <;> rcases h5 with ⟨rfl,rfl⟩ | ⟨kd',rfl⟩
  ·simp [Instr.sliceBounds]
  ·simp [Instr.sliceBounds,hb _ n cap _ (by omega)]
  ·simp [Instr.sliceBounds,hb _ m n _ h0]
  ·simp [Instr.sliceBounds,hb _ m n _ h0,hb _ n cap _ (by omega)]
 simp [Instr.sliceAt,Instr.slice,run_underlying h1,hs,h3]
theorem J46.one {w:World} {ob:Option Nat} {t k n c:Nat} {v:Value} (h:J46 w ob t k n c v):v.oneCell'=true:=by
 rcases h with ⟨rfl,_⟩ | ⟨b,rfl,_⟩ <;> rfl

section state
variable {N:Cfg} {l:Fr} {L:Loc} {w0 w:World} {β0 β:Gx} {L0:Loc} {a:Act}
theorem Jm.over {s:Nat} {u:AV} (h:Jm a w β L l) (hv:V w β L u (a.tmps.getD s undef)):Jm a w β L ((s,u)::l):=⟨fun t=>by
 rw [look]
 cases hb:Nat.beq s t with
 | true=>have:=En hb; subst this; exact hv
 | false=>exact h.tmp t⟩
theorem Jy.vcap (hs:Jy N w0 β0 L0 a w β l L) {s i ver k n t:Nat} {xs:List AV} (h1:look l s=.vec i ver k n) (hi:lk L i=some (.vec t k ver xs)):∃ c,xs.length≤c∧c≤maxLen∧Jy N w0 β0 L0 a w β ((s,.vcap i ver k xs.length c)::l) L:=by
 have hv:=hs.frame.tmp s
 rw [h1] at hv
 obtain⟨rfl,_,h⟩:=G09 hs.sat hi hv
 suffices h0:∃ c,xs.length≤c∧c≤maxLen∧J46 w (β.at_ i) t k xs.length c (a.tmps.getD s undef) from by
  obtain⟨c,c1,c2,c3⟩:=h0
  exact⟨c,c1,c2,hs.sat,hs.step,hs.frame.over (.vcap ⟨t,ver,xs,hi,Kb,fun _=>c3⟩ c3.one),hs.size,hs.base,hs.defers⟩
 rcases h with ⟨e1,rfl,e3⟩ | ⟨b,cap,vs,e1,e2,e3,e4,e5,e6,_⟩
 ·exact⟨0,Kb,Nat.zero_le _,.inl ⟨e1,rfl,rfl,e3⟩⟩
 ·exact⟨cap,e3,e4,.inr ⟨b,e1,e2,e3,e4,by simp [World.shape?,e5,e6]⟩⟩

theorem J2a {k:Nat} (xs:List AV) (q:Nat) {j:Nat} {u:AV} (hj:(flat xs).length≤j) (hu:(flat (xs++List.replicate q (.agg (List.replicate k .junk))))[j]? = some u):u=.junk:=by
 rw [G02,Kc hj] at hu
 have key:∀ (q:Nat) (j:Nat),(flat (List.replicate q (AV.agg (List.replicate k .junk))))[j]? = some u→u=.junk:=by
  intro q
  induction q with
  | zero=>intro j h; simp [flat] at h
  | succ q ih=>
   intro j h
   rw [List.replicate_succ,flat] at h
   rcases Ep j (AV.cells (.agg (List.replicate k .junk))).length with hj | hj
   ·rw [Kd hj] at h
    exact List.eq_of_mem_replicate (K0 h)
   ·rw [Kc hj] at h
    exact ih _ h
 exact key q _ hu
end state

section ghosts
variable {P:Program} {N:Cfg} {Q:Post} {l:Fr} {L:Loc} {ops:Array Oper} {rest:List Oper} {c:Code}
end ghosts

section ops
variable {P:Program} {N:Cfg} {o:Oper} {l:Fr} {L:Loc} {u:AV}
/-! ### Typed elements -/
end ops
set_option linter.unusedVariables false

section vals
variable {w:World} {β:Gx} {L:Loc}
theorem V.vsl_lst {α:Type} {f:α→AV} {i ver k t:Nat} {e:Ln α} {v:Value} (h5:Sat w β L) (hi:lk L i=some (.vec t k ver ((e.1++e.2).map f))) (h6:Nat.blt 0 k=true) (hv:V w β L (.vsl i ver k 0 e.1.length) v):D w (fun b _=>b < w.heap.size) (LT k f e) v:=by
 have h8:0 < k:=by simpa [Nat.blt_eq] using h6
 obtain⟨_,hn,_⟩:=hv.inv_vsl hi
 obtain⟨o1,o2⟩:=h5.obj i _ hi
 rcases hv.inv_vsl0 hi with ⟨rfl,e2,e3⟩ | ⟨b,cap,rfl,e2,e3,e4,e5⟩
 ·have h9:(e.1++e.2).map f=[]:=by
   rcases o2 with ⟨_,o2⟩ | ⟨b',o2,_⟩
   ·exact o2
   ·rw [show β i=β.at_ i from rfl,e3] at o2; cases o2
  have h2:=List.map_eq_nil_iff.1 h9
  obtain⟨h3,h4⟩:=List.append_eq_nil_iff.1 h2
  show D w _ (.lst k (e.1.map f) (e.2.map f)) _
  rw [h3,h4]
  exact .lnil (Nat.zero_le _)
 ·rcases o2 with ⟨o2,_⟩ | ⟨b',o2,vs,o3,o4,o5⟩
  ·rw [show β i=β.at_ i from rfl,e2] at o2; cases o2
  ·rw [show β i=β.at_ i from rfl,e2] at o2; cases o2
   have hs:vs.size=cap*k:=by simpa [World.shape?,o3] using e5
   have h7:((e.1++e.2).map f).length≤cap:=by
    rw [hs] at o4
    exact Nat.le_of_mul_le_mul_right o4 h8
   have h0:e.1.map f++e.2.map f=(e.1++e.2).map f:=List.map_append.symm
   have a0:(e.1.map f).length=e.1.length:=Kn ..
   show D w _ (.lst k (e.1.map f) (e.2.map f)) _
   rw [← a0]
   have h1:∀ j,j < (flat ((e.1++e.2).map f)).length→j < vs.size:=fun j hj=>by
    rw [Hm o1] at hj
    omega
   refine .lst (fun j=>vs.getD j undef) ?_ e4 ?_ (fun j hj=>⟨(Ej o3).1,?_⟩) (fun j u hu=>?_)
   ·rw [← Ki,h0]; exact h7
   ·rw [h0]; exact o1
   ·rw [h0] at hj
    have:=h1 j hj
    simp [World.cell?,o3,this]
   ·rw [h0] at hu
    have hj:=(Ex hu).1
    have:=h1 j hj
    exact(o5 j u _ hu (by simp [this])).mono fun b i hs=>⟨hs.lt,rfl⟩
theorem V.vsl_list {α:Type} {f:α→AV} {i ver k t:Nat} {e:Ln α} {v:Value} (h0:Sat w β L) (hi:lk L i=some (.vec t k ver ((e.1++e.2).map f))) (h1:Nat.blt 0 k=true) (hv:V w β L (.vsl i ver k 0 e.1.length) v):D w (fun b _=>b < w.heap.size) (LS k f e.1) v:=
 (hv.vsl_lst h0 hi h1).lst_list
end vals

section calls
variable {P:Program} {o:Oper} {l:Fr} {L:Loc} {u:AV}
inductive J42 (L:Loc):AV→AV→Prop
 | data {u u':AV} (h:u.plain=u') (hd:u'.isData=true):J42 L u u'
 | vsl {α:Type} {f:α→AV} {i ver k t:Nat} {e:Ln α} (hi:lk L i=some (.vec t k ver ((e.1++e.2).map f))) (hpos:Nat.blt 0 k=true):J42 L (.vsl i ver k 0 e.1.length) (LS k f e.1)
 | vlt {α:Type} {f:α→AV} {i ver k t:Nat} {e:Ln α} (hi:lk L i=some (.vec t k ver ((e.1++e.2).map f))) (hpos:Nat.blt 0 k=true):J42 L (.vsl i ver k 0 e.1.length) (LT k f e)
theorem J42.D {w:World} {β:Gx} {u u':AV} (h1:Sat w β L) (h:J42 L u u') {v:Value} (hv:V w β L u v):D w (fun b _=>b < w.heap.size) u' v:=by
 cases h with
 | data h hd=>
  subst h
  exact(hv.plain.toD hd).mono fun b i hs=>⟨hs.lt,rfl⟩
 | vsl hi h0=>exact hv.vsl_list h1 hi h0
 | vlt hi h0=>exact hv.vsl_lst h1 hi h0
def G7f (l:Fr) (L:Loc):List Operand→List AV→Prop
 | [],[]=>True
 | x::r,u::s=>J42 L (ev l x) u∧G7f l L r s
 | _,_=>False
theorem G7f.length {l:Fr} {L:Loc}:∀ {xs:List Operand} {us:List AV},G7f l L xs us→xs.length=us.length
 | [],[],_=>rfl
 | _::r,_::s,h=>by simp [G7f.length h.2]
end calls

section ops
variable {P:Program} {N:Cfg} {o:Oper} {l:Fr} {L:Loc} {α:Type}
end ops

section rename
variable {w:World} {β:Gx} {L:Loc}
end rename
section renameJ
variable {P:Program} {N:Cfg} {Q:Post} {c:Code} {l:Fr} {L:Loc}
end renameJ

section calls
variable {P:Program} {o:Oper} {l:Fr} {L:Loc} {u:AV}
inductive G2b (L:Loc):AV→AV→Prop
 | data {u u':AV} (h:u.plain=u') (hd:u'.isData=true):G2b L u u'
 | vec {i ver k n t:Nat} {xs:List AV} (hi:lk L i=some (.vec t k ver xs)):G2b L (.vec i ver k n) (.list k xs)
 | agg {cs ds:List AV} (hl:ds.length=cs.length) (h:∀ (j:Nat) u u',cs[j]? = some u→ds[j]? = some u'→G2b L u u'):G2b L (.agg cs) (.agg ds)
 | ptr {i off t:Nat} {cs ds:List AV} (hi:lk L i=some (.box t cs)) (hl:ds.length=(cs.drop off).length) (h:∀ (j:Nat) u u',(cs.drop off)[j]? = some u→ds[j]? = some u'→G2b L u u'):G2b L (.ptr i off) (.dptr ds)
 | mp {κ ν:Type} [DecidableEq κ] {kv:κ→Value} {av:ν→AV} {i T:Nat} {m:Hq κ ν} (hi:lk L i=some (TP T kv av m)):G2b L (.mp i) (DM kv av m)
 | fn {f:FuncId} {cs ds:List AV} (hl:ds.length=cs.length) (h:∀ (j:Nat) u u',cs[j]? = some u→ds[j]? = some u'→G2b L u u'):G2b L (.fn f cs) (.fn f ds)
 | ms {i n cap t k:Nat} {cs xs:List AV} (hi:lk L i=some (.box t cs)) (hn:n=xs.length) (hk:∀ x∈xs,x.cells.length=k) (hl:(flat xs).length=cs.length) (h:∀ (j:Nat) u u',cs[j]? = some u→(flat xs)[j]? = some u'→G2b L u u'):G2b L (.ms i 0 n cap) (.list k xs)
def Gc3 (L:Loc):List AV→List AV→Prop
 | [],[]=>True
 | u::r,u'::s=>G2b L u u'∧Gc3 L r s
 | _,_=>False
theorem Gc3.len {L:Loc}:∀ {cs ds:List AV},Gc3 L cs ds→ds.length=cs.length
 | [],[],_=>rfl
 | _::_,_::_,h=>by simp [Gc3.len h.2]
theorem dnQ {L:Loc}:∀ (n:Nat) {cs ds:List AV},(cs.take n).map AV.plain=ds.take n→(ds.take n).all AV.isData=true→Gc3 L (cs.drop n) (ds.drop n)→Gc3 L cs ds
  | 0,_,_,_,_,h=>h
  | _+1,[],[],_,_,_=>trivial
  | _+1,[],_::_,h,_,_=>by simp at h
  | _+1,_::_,[],h,_,_=>by simp at h
  | n+1,u::r,u'::s,h,hd,hk=>by
    simp only [List.take_succ_cons,List.map_cons,List.cons.injEq,List.all_cons,Kk] at h hd
    exact⟨.data h.1 hd.1,dnQ n h.2 hd.2 hk⟩
theorem Gc3.get {L:Loc}:∀ {cs ds:List AV},Gc3 L cs ds→∀ (j:Nat) u u',cs[j]? = some u→ds[j]? = some u'→G2b L u u'
 | _::_,_::_,h,0,_,_,h1,h2=>by simp at h1 h2; subst h1 h2; exact h.1
 | _::_,_::_,h,j+1,u,u',h1,h2=>Gc3.get h.2 j u u' (by simpa using h1) (by simpa using h2)
 | [],[],_,j,_,_,h1,_=>by simp at h1
theorem G2b.ptrL {i off t:Nat} {cs ds:List AV} (hi:lk L i=some (.box t cs)) (h:Gc3 L (cs.drop off) ds):G2b L (.ptr i off) (.dptr ds):=.ptr hi h.len h.get
theorem V.ms_inv {w:World} {β:Gx} {i off n cap:Nat} {v:Value} (h:V w β L (.ms i off n cap) v):∃ b,β i=some b∧v=.slice (some ⟨b,off,none⟩) n cap∧n≤cap∧cap≤maxLen:=by
 cases h with
 | data h=>cases h
 | ms hi h hn hm=>exact⟨_,h,rfl,hn,hm⟩
theorem G2b.D {w:World} {β:Gx} {u u':AV} (h0:Sat w β L) (h:G2b L u u'):∀ {v:Value},V w β L u v→D w (fun b _=>b < w.heap.size) u' v:=by
 induction h with
 | data h hd=>exact fun hv=>G35.D h0 (.data h hd) hv
 | vec hi=>exact fun hv=>G35.D h0 (.vec hi) hv
 | agg hl _ ih=>
  intro v hv
  obtain⟨vs,rfl,h8,h9⟩:=hv.inv_agg
  refine .agg (h8.trans hl.symm) fun j u' x h5 hx=>?_
  have hj:j < _:=(Ex h5).1
  exact ih j _ u' (Ey (hl ▸ hj)) h5 (h9 j _ x (Ey (hl ▸ hj)) hx)
 | fn hl _ ih=>
  intro v hv
  obtain⟨vs,rfl,h8,h9⟩:=hv.inv_fn
  refine .fn (h8.trans hl.symm) fun j u' x h5 hx=>?_
  have hj:j < _:=(Ex h5).1
  exact ih j _ u' (Ey (hl ▸ hj)) h5 (h9 j _ x (Ey (hl ▸ hj)) hx)
 | @ptr i off t cs ds hi hl _ ih=>
  intro v hv
  obtain⟨b,hb,rfl⟩:=hv.inv_ptr
  obtain⟨b',h6,vs,o1,o2,o3⟩:=h0.obj i _ hi
  rw [hb] at h6; cases h6
  have h7:b < w.heap.size:=(Ej o1).1
  have a0:∀ j,j < ds.length→off+j < cs.length:=fun j hj=>by rw [hl,List.length_drop] at hj; omega
  refine .dptr (fun j=>vs.getD (off+j) undef) (fun j hj=>⟨h7,?_⟩) (fun j u hu=>?_)
  ·have:=a0 j hj
   have h2:off+j < vs.size:=by omega
   simp [World.cell?,o1,h2]
  ·have hj:=(Ex hu).1
   have:=a0 j hj
   have h2:off+j < vs.size:=by omega
   have hc:(cs.drop off)[j]? = some cs[off+j]:=by rw [Kh]; simp [this]
   refine ih j _ u hc hu ?_
   rw [Array.getD_eq_getD_getElem?,Array.getElem?_eq_getElem h2]
   exact o3 (off+j) _ _ (by simp [this]) (by simp [h2])
 | @ms i n cap t k cs xs hi hn hk hl _ ih=>
  intro v hv
  obtain⟨b,hb,rfl,g1,g2⟩:=hv.ms_inv
  obtain⟨b',h6,vs,o1,o2,o3⟩:=h0.obj i _ hi
  rw [hb] at h6; cases h6
  have h7:b < w.heap.size:=(Ej o1).1
  subst hn
  refine .list (fun j=>vs.getD (0+j) undef) g1 g2 hk (fun j hj=>⟨h7,?_⟩) (fun j u hu=>?_)
  ·have h2:j < vs.size:=by omega
   simp [World.cell?,o1,h2]
  ·have hj:=(Ex hu).1
   have h2:j < vs.size:=by omega
   have hc:cs[j]? = some cs[j]:=by simp
   refine ih j _ u hc hu ?_
   rw [Nat.zero_add,Array.getD_eq_getD_getElem?,Array.getElem?_eq_getElem h2]
   exact o3 j _ _ hc (by simp [h2])
 | @mp κ ν dq kv av i T m hi=>
  intro v hv
  obtain⟨b,vals,Hh,rfl,g1,g2,h1,g3⟩:=hv.tsrc h0 (.own hi)
  have h7:b < w.heap.size:=(Ej h1).1
  exact .dmap vals g1 (by rw [G92,← g2]; exact h1) (fun _=>h7) (fun i k u v h2 h3 h4=>(g3 i k u v h2 h3 h4).mono fun b i hs=>⟨hs.lt,rfl⟩)

def G56 (l:Fr) (L:Loc):List Operand→List AV→Prop
 | [],[]=>True
 | x::r,u::s=>G2b L (ev l x) u∧G56 l L r s
 | _,_=>False
theorem G56.length {l:Fr} {L:Loc}:∀ {xs:List Operand} {us:List AV},G56 l L xs us→xs.length=us.length
 | [],[],_=>rfl
 | _::r,_::s,h=>by simp [G56.length h.2]
theorem G56.get {l:Fr} {L:Loc}:∀ {xs:List Operand} {us:List AV},G56 l L xs us→∀ {j:Nat} {x:Operand} {u:AV},xs[j]? = some x→us[j]? = some u→G2b L (ev l x) u
 | [],[],_,j,x,u,h,_=>by simp at h
 | x::r,u::s,h,0,_,_,hx,hu=>by simp at hx hu; subst hx hu; exact h.1
 | x::r,u::s,h,j+1,_,_,hx,hu=>by simp at hx hu; exact G56.get h.2 hx hu
theorem Jf6 {f:FuncId} {xs:List Operand} {args:List AV} {ts:Array TypeId} (ho:o.op=.call { callee:=.value (.func f),args:=xs.toArray,argTypes:=ts }) (hc:Pure P f args (·=u)) (hB:Hp P f=true) (ha:G56 l L xs args) (hu:u.noRef=true):Gn P o l L (Is u L):=by
 intro a w β K Q h0 hf hK
 have hr:(execOp a.eval o).run P w=.ok (.enter f (xs.toArray.map a.eval)) w:=by
  simp [execOp,ho,resolve,Act.eval,Deferred.ofValue,invoke,Hp.out hB]
 unfold Oper.wp
 rw [hr]
 show Calls P f _ w _
 refine(Hd1 hc h0 (vs:=xs.toArray.map a.eval) (by simp [ha.length]) (fun j u v hu hv=>?_) (fun r hr=>by rw [hr]; exact hu)).mono fun e w' h=>?_
 ·simp only [Array.getElem?_map,List.getElem?_toArray,Option.map_eq_some_iff] at hv
  obtain⟨x,hx,rfl⟩:=hv
  exact(ha.get hx hu).D h0 (hf.ev x)
 ·obtain⟨v,r,rfl,h1,h2,h3,rfl⟩:=h
  exact hK _ L v w' β ⟨rfl,rfl⟩ h1 h2 h3
end calls

/-! ### Is it nil -/
section nil
variable {P:Program} {o:Oper} {l:Fr} {L:Loc}
end nil

/-! ### A row of values that are no data -/
def Hf4 (l:Fr):List Operand→List AV→Prop
 | [],[]=>True
 | x::r,u::s=>ev l x=u∧Hf4 l r s
 | _,_=>False
theorem Hf4.length {l:Fr}:∀ {xs:List Operand} {us:List AV},Hf4 l xs us→xs.length=us.length
 | [],[],_=>rfl
 | _::_,_::_,h=>by simp [Hf4.length h.2]
/-! ### Ranges over maps with gaps -/
section gaps
variable {α σ:Type}
def rk (l:List (Option α)) (j:Nat):Nat:=((l.take j).filterMap id).length
theorem Q2c:∀ {l:List (Option α)} {j:Nat} {e:α},l[j]? = some (some e)→(l.filterMap id)[rk l j]? = some e
 | [],j,e,h=>by simp at h
 | none::r,0,e,h=>by simp at h
 | some a::r,0,e,h=>by simp at h; subst h; simp [rk]
 | none::r,j+1,e,h=>by
  have:=Q2c (l:=r) (j:=j) (e:=e) (by simpa using h)
  simpa [rk] using this
 | some a::r,j+1,e,h=>by
  have:=Q2c (l:=r) (j:=j) (e:=e) (by simpa using h)
  simpa [rk] using this
theorem Q2b:∀ {l:List (Option α)} {i j:Nat} {e e':α},l[i]? = some (some e)→l[j]? = some (some e')→rk l i=rk l j→i=j
 | [],i,j,e,e',h,_,_=>by simp at h
 | x::r,0,0,_,_,_,_,_=>rfl
 | none::r,0,j+1,e,e',h,_,_=>by simp at h
 | some a::r,0,j+1,e,e',_,_,hr=>by simp [rk] at hr
 | none::r,i+1,0,e,e',_,h,_=>by simp at h
 | some a::r,i+1,0,e,e',_,_,hr=>by simp [rk] at hr
 | none::r,i+1,j+1,e,e',h,h',hr=>by
  have:=Q2b (l:=r) (i:=i) (j:=j) (by simpa using h) (by simpa using h') (by simpa [rk] using hr)
  omega
 | some a::r,i+1,j+1,e,e',h,h',hr=>by
  have:=Q2b (l:=r) (i:=i) (j:=j) (by simpa using h) (by simpa using h') (by simpa [rk] using hr)
  omega
theorem Q2a:∀ {l:List (Option α)} {q:Nat},q < (l.filterMap id).length→∃ j e,l[j]? = some (some e)∧rk l j=q
 | [],q,h=>by simp at h
 | none::r,q,h=>by
  obtain⟨j,e,h1,h2⟩:=Q2a (l:=r) (q:=q) (by simpa using h)
  exact⟨j+1,e,by simpa using h1,by simpa [rk] using h2⟩
 | some a::r,0,h=>⟨0,a,rfl,rfl⟩
 | some a::r,q+1,h=>by
  obtain⟨j,e,h1,h2⟩:=Q2a (l:=r) (q:=q) (by simpa using h)
  exact⟨j+1,e,by simpa using h1,by simpa [rk] using h2⟩
def J41 (b:α→σ→(σ→Option (σ ⊕ Prop))→Option (σ ⊕ Prop)) (kx:σ→Option Prop) (l:List (Option α)) (seen:List Nat) (s:σ):Prop:=
 (∀ j∈seen,∃ e,l[j]? = some (some e))∧MInv b kx (l.filterMap id) (seen.map (rk l)) s
theorem J41.start {b:α→σ→(σ→Option (σ ⊕ Prop))→Option (σ ⊕ Prop)} {kx:σ→Option Prop} {l:List (Option α)} {s:σ} {p:Prop} (h:Jd9 b kx (l.filterMap id) s=some p) (hp:p):J41 b kx l [] s:=
 ⟨by simp,MInv.start h hp⟩
theorem J41.step {b:α→σ→(σ→Option (σ ⊕ Prop))→Option (σ ⊕ Prop)} {kx:σ→Option Prop} {l:List (Option α)} {seen:List Nat} {s:σ} {j:Nat} {e:α} (h:J41 b kx l seen s) (hj:l[j]? = some (some e)) (hs:j ∉ seen) :
  ∃ o,b e s (fun s'=>some (.inl s'))=some o∧(∀ r,o=.inr r→r)∧∀ s',o=.inl s'→J41 b kx l (seen++[j]) s':=by
 obtain⟨h1,h2⟩:=h
 obtain⟨o,o1,o2,o3⟩:=h2.step (Q2c hj) (fun hm=>by
  obtain⟨i,hi,e2⟩:=Kp.1 hm
  obtain⟨e',h0⟩:=h1 i hi
  exact hs (Q2b h0 hj e2 ▸ hi))
 refine⟨o,o1,o2,fun s' ho=>⟨fun i hi=>?_,?_⟩⟩
 ·rcases Ko.1 hi with hi | hi
  ·exact h1 i hi
  ·simp at hi; subst hi; exact⟨e,hj⟩
 ·rw [List.map_append]; exact o3 s' ho
theorem J41.done {b:α→σ→(σ→Option (σ ⊕ Prop))→Option (σ ⊕ Prop)} {kx:σ→Option Prop} {l:List (Option α)} {seen:List Nat} {s:σ} (h:J41 b kx l seen s) (ha:∀ q e,l[q]? = some (some e)→q∈seen):∃ p,kx s=some p∧p:=
 h.2.done (fun q hq=>by
  obtain⟨j,e,h1,h2⟩:=Q2a hq
  exact Kp.2 ⟨j,ha j e h1,h2⟩)
end gaps
end Go.Proofs.YtokjlondbjdlfaaGreat
