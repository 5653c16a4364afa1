/-
 Parts of slices that the call may write in place: Calls that leave objects whose versions are not known before Models of functions that range over maps: Functions that are ranged over:
-/
import Derived.Test.YtibhpogonkdiaaaGreatSortD
set_option linter.unusedVariables false
set_option linter.unusedSimpArgs false
set_option linter.unnecessarySimpa false
namespace Go.Proofs.YtibhpogonkdiaaaGreat
open Go.RowKit

theorem J28 {w:World} {β:Gu} {L:Loc} {i t k ver b off:Nat} {xs zs:List AV} {vs:Array Value} {cs:List Value} (h0:Sat w β L) (hi:lk L i=some (.vec t k ver xs)) (hb:β.at_ i=some b) (q2:w.heap[b]? = some (.cells vs t (0,0)))
  (hz:∀ z∈zs,z.cells.length=k) (h1:cs.length=zs.length*k) (h7:off+zs.length≤xs.length) (hD:∀ (j:Nat) u x,(flat zs)[j]? = some u→cs[j]? = some x→D w (Hv w β L) u x) :
  Step w β L (w.setRow b (vs.toList.take (off*k)++cs++vs.toList.drop (off*k+cs.length)).toArray) (upP β i (β.at_ i)) ((i,.vec t k ver (xs.take off++zs++xs.drop (off+zs.length)))::L) ∧
  Sat (w.setRow b (vs.toList.take (off*k)++cs++vs.toList.drop (off*k+cs.length)).toArray) (upP β i (β.at_ i)) ((i,.vec t k ver (xs.take off++zs++xs.drop (off+zs.length)))::L):=by
 obtain⟨q1,vs',q2',q3,q4⟩:=Gcb h0 hi hb
 rw [q2] at q2'; cases q2'
 have a1:off*k+zs.length*k≤xs.length*k:=by rw [← Nat.add_mul]; exact Nat.mul_le_mul_right _ h7
 have h5:=setRow_heap w b vs (vs.toList.take (off*k)++cs++vs.toList.drop (off*k+cs.length)).toArray t (0,0) q2
 have h2:(vs.toList.take (off*k)++cs++vs.toList.drop (off*k+cs.length)).toArray.size=vs.size:=by
  simp; omega
 have a2:(flat xs).length=xs.length*k:=J0 q1
 have h3:(flat zs).length=zs.length*k:=J0 hz
 have h4:(xs.take off++zs++xs.drop (off+zs.length)).length=xs.length:=by simp; omega
 have h8:∀ y∈xs.take off++zs++xs.drop (off+zs.length),y.cells.length=k:=fun y hy=>by
  simp only [Md] at hy
  rcases hy with (h | h) | h
  ·exact q1 y (List.mem_of_mem_take h)
  ·exact hz y h
  ·exact q1 y (List.mem_of_mem_drop h)
 obtain⟨st,sat⟩:=Qu (w':=w.setRow b (vs.toList.take (off*k)++cs++vs.toList.drop (off*k+cs.length)).toArray) (t:=t) (k:=k) (ver1:=ver) (xs':=xs.take off++zs++xs.drop (off+zs.length)) (ob':=β.at_ i) h0
  (.inr ⟨ver,xs,hi,M1,fun _=>⟨h4,rfl,fun b' h6=>by
   rw [hb] at h6; cases h6
   rw [World.shape?,h5,World.shape?,q2]; simp only [h2]⟩⟩) rfl rfl ⟨rfl,M1⟩ (by simp)
  (fun b' _ h9=>setRow_other w b b' _ (fun e=>h9 (by rw [inL,hi]; rfl) (by rw [hb,e])))
  (.inr (.inl ⟨by rw [inL,hi]; rfl,rfl⟩))
 refine⟨st,sat ⟨h8,.inr ⟨b,hb,_,h5,by rw [h2,h4]; exact q3,fun j u v hu hv=>?_⟩⟩⟩
 rw [G16,G16,G4c q1,Hb6 q1] at hu
 simp only [List.getElem?_toArray] at hv
 have old:∀ j',(flat xs)[j']? = some u→vs[j']? = some v→D _ _ u v:=fun j' a b=>(q4 j' u v a b).mono st.stab
 have e1:(off+zs.length)*k=off*k+zs.length*k:=Nat.add_mul _ _ _
 rw [e1] at hu
 have lu:(List.take (off*k) (flat xs)).length=off*k:=by simp; omega
 have lv:(List.take (off*k) vs.toList).length=off*k:=by simp; omega
 rcases Kq j (off*k) with hj | hj
 ·rw [List.append_assoc,M3 (by omega),M6,if_pos hj] at hu
  rw [List.append_assoc,M3 (by omega),M6,if_pos hj] at hv
  exact old j hu (by simpa using hv)
 rcases Kq j (off*k+zs.length*k) with a0 | a0
 ·rw [M3 (by rw [M8,lu,h3]; omega),M2 (by omega),lu] at hu
  rw [M3 (by rw [M8,lv,h1]; omega),M2 (by omega),lv] at hv
  exact(hD _ u v hu hv).mono st.stab
 ·rw [M2 (by rw [M8,lu,h3]; omega),M8,lu,h3,M7] at hu
  rw [M2 (by rw [M8,lv,h1]; omega),M8,lv,h1,M7] at hv
  rw [show off*k+zs.length*k+(j - (off*k+zs.length*k))=j by omega] at hu hv
  exact old j hu (by simpa using hv)

def Je1 (w:World) (S:Nat→Nat→Prop) (k:Nat) (ys:List AV) (v:Value):Prop:=
 (∀ y∈ys,y.cells.length=k)∧∃ (a:Option Addr) (cap:Nat) (cs:List Value),v=.slice a ys.length cap∧(a=none→ys=[])∧cs.length=ys.length*k∧(∀ (ad:Addr) (j:Nat) u,a=some ad→cs[j]? = some u→w.cell? (ad.add j)=some u) ∧
  ∀ (j:Nat) u x,(flat ys)[j]? = some u→cs[j]? = some x→D w S u x

theorem V.inv_vsl {w:World} {β:Gu} {L:Loc} {i ver k k' off n t:Nat} {xs:List AV} {x:Value} (hi:lk L i=some (.vec t k' ver xs)) (h:V w β L (.vsl i ver k off n) x):k=k'∧off+n≤xs.length∧Je0 (β.at_ i) k off n x:=by
 cases h with
 | data h=>cases h
 | vsl hp _=>
  obtain⟨t',ver',xs',h1,_,h3⟩:=hp
  rw [hi] at h1; cases h1
  exact⟨rfl,(h3 rfl).1,(h3 rfl).2.1⟩
theorem V.inv_vsl0 {w:World} {β:Gu} {L:Loc} {i ver k k' n t:Nat} {xs:List AV} {x:Value} (hi:lk L i=some (.vec t k' ver xs)) (h:V w β L (.vsl i ver k 0 n) x):J40 w (β.at_ i) t k n x:=by
 cases h with
 | data h=>cases h
 | vsl hp _=>
  obtain⟨t',ver',xs',h1,_,h3⟩:=hp
  rw [hi] at h1; cases h1
  exact(h3 rfl).2.2 rfl

theorem Hfa {w:World} {β:Gu} {L:Loc} {i ver k t n:Nat} {xs:List AV} {x:Value} (h0:Sat w β L) (hi:lk L i=some (.vec t k ver xs)) (hv:V w β L (.vec i ver k n) x):n=xs.length∧Je0 (β.at_ i) k 0 n x:=by
 obtain⟨rfl,_,h⟩:=G37 h0 hi hv
 refine⟨rfl,?_⟩
 rcases h with ⟨rfl,rfl,_⟩ | ⟨b,cap,vs,rfl,h1,h2,h3,_⟩
 ·exact⟨none,0,rfl,M1,Nat.zero_le _,.inl rfl⟩
 ·exact⟨_,cap,rfl,h2,h3,.inr ⟨b,h1,by rw [Nat.zero_mul]⟩⟩

theorem Jbf {w:World} {β:Gu} {L:Loc} {i ver k t off n:Nat} {xs:List AV} {x:Value} (h4:Sat w β L) (hi:lk L i=some (.vec t k ver xs)) (hn:off+n≤xs.length) (h:Je0 (β.at_ i) k off n x):Je1 w (Hv w β L) k ((xs.drop off).take n) x:=by
 obtain⟨o1,o2⟩:=h4.obj i _ hi
 have hk:∀ y∈(xs.drop off).take n,y.cells.length=k:=fun y hy=>o1 y (List.mem_of_mem_drop (List.mem_of_mem_take hy))
 have hl:((xs.drop off).take n).length=n:=by simp; omega
 refine⟨hk,?_⟩
 obtain⟨a,cap,rfl,h1,h2,h3⟩:=h
 rw [hl]
 by_cases h0:n=0
 ·subst h0
  exact⟨a,cap,[],rfl,fun _=>by simp,by simp,fun ad j u _ hu=>by simp at hu,fun j u x _ hx=>by simp at hx⟩
 ·rcases h3 with h3 | ⟨b,hb,rfl⟩
  ·exact absurd h3 h0
  ·obtain⟨q1,vs,q2,q3,q4⟩:=Gcb h4 hi hb
   have hm:off*k+n*k≤xs.length*k:=by rw [← Nat.add_mul]; exact Nat.mul_le_mul_right _ hn
   refine⟨_,cap,(vs.toList.drop (off*k)).take (n*k),rfl,(fun e=>by cases e),by simp; omega,fun ad j u e hu=>?_,fun j u x hu hx=>?_⟩
   ·cases e
    have hj:=(Kw hu).1
    rw [List.length_take] at hj
    rw [M6,if_pos (by omega),M7] at hu
    rw [Addr.add_lit]
    simp [World.cell?,q2]
    simpa using hu
   ·have hj:=(Kw hx).1
    rw [List.length_take] at hj
    rw [M6,if_pos (by omega),M7] at hx
    have h5:∀ y∈xs.drop off,y.cells.length=k:=fun y hy=>o1 y (List.mem_of_mem_drop hy)
    rw [G4c h5,Hb6 o1,M6,if_pos (by omega),M7] at hu
    exact q4 _ u x hu (by simpa using hx)

theorem R32 {w:World} {S:Nat→Nat→Prop} {k k':Nat} {ys:List AV} {x:Value} (h:D w S (.list k' ys) x) (hk:k'=k∨ys=[]):Je1 w S k ys x:=by
 obtain⟨ao,cap,rfl,_⟩:=h.len
 obtain⟨_,h1,h2,cs,h3,h4,h5⟩:=h.vals
 have h0:∀ y∈ys,y.cells.length=k:=by
  rcases hk with rfl | rfl
  ·exact h1
  ·simp
 refine⟨h0,ao,cap,cs,rfl,fun e=>Kn (h2 e),h3.trans (J0 h0),h4,fun j u x hu hx=>?_⟩
 obtain⟨x',h6,hd⟩:=h5 j u hu
 rw [hx] at h6; cases h6
 exact hd

def Ha0 (L:Loc) (k:Nat) (s:AV) (ys:List AV):Prop:=
 (∃ kx,Q0 s=some (kx,ys)∧(kx=k∨ys=[]))∨(∃ i ver n t,s=.vec i ver k n∧lk L i=some (.vec t k ver ys))∨(∃ i ver off n t zs,s=.vsl i ver k off n∧lk L i=some (.vec t k ver zs)∧ys=(zs.drop off).take n)
theorem Ha0.reads {w:World} {β:Gu} {L:Loc} {k:Nat} {s:AV} {ys:List AV} {x:Value} (h0:Sat w β L) (h:Ha0 L k s ys) (hv:V w β L s x):Je1 w (Hv w β L) k ys x:=by
 rcases h with ⟨kx,h1,h2⟩ | ⟨i,ver,n,t,rfl,hi⟩ | ⟨i,ver,off,n,t,zs,rfl,hi,rfl⟩
 ·exact R32 (hv.Q0 h1) h2
 ·obtain⟨rfl,h⟩:=Hfa h0 hi hv
  have:=Jbf h0 hi (by simp) h
  simpa using this
 ·obtain⟨_,h1,h2⟩:=hv.inv_vsl hi
  exact Jbf h0 hi h1 h2
def Qd5 (L:Loc) (k:Nat) (s:AV) (i ver off n t:Nat) (xs:List AV):Prop:=
 lk L i=some (.vec t k ver xs)∧((s=.vec i ver k n∧off=0)∨s=.vsl i ver k off n)
theorem Qd5.out {w:World} {β:Gu} {L:Loc} {k i ver off n t:Nat} {s:AV} {xs:List AV} {x:Value} (h0:Sat w β L) (h:Qd5 L k s i ver off n t xs) (hv:V w β L s x):off+n≤xs.length∧Je0 (β.at_ i) k off n x:=by
 obtain⟨hi,⟨rfl,rfl⟩ | rfl⟩:=h
 ·obtain⟨rfl,h⟩:=Hfa h0 hi hv
  exact⟨by simp,h⟩
 ·exact(hv.inv_vsl hi).2

section ops
variable {P:Program} {N:Cfg} {o:Oper} {l:Fr} {L L':Loc} {u:AV} {α:Type}

theorem Rf0 {x:Operand} {T E k i ver n lo hi:Nat} {lop h4:Option Operand} {xs:List AV} (ho:o.op=.slice T x lop h4 none) (hT:sliceB P T E k=true) (hx:ev l x=.vec i ver k n) (hL:lk L i=some (.vec E k ver xs))
  (h7:(lop=none∧lo=0)∨∃ kd p,lop=some p∧ev l p=.sc (.int kd lo)) (h8:(h4=none∧hi=xs.length)∨∃ kd p,h4=some p∧ev l p=.sc (.int kd hi)) (h1:lo≤hi) (h2:hi≤xs.length) :
  Gz P o l L (Is (.vsl i ver k lo (hi - lo)) L):=
 Hj fun a w β h5 hf=>by
  have hv:=hf.ev x
  rw [hx] at hv
  obtain⟨rfl,a',cap,he,h9,a0,h6⟩:=Hfa h5 hL hv
  refine⟨.slice (if cap=lo then a' else a'.map (·.add (lo*k))) (hi - lo) (cap - lo),?_,.vsl ⟨E,ver,xs,hL,M1,fun _=>⟨by omega,⟨_,_,rfl,by omega,by omega,?_⟩,fun h0=>?_⟩⟩ rfl⟩
  ·simp only [execOp,ho,he,Sem.run_bind,Option.map_none]
   rw [Hac hT a' xs.length cap lo hi _ _ w h1 h2 h9]
   ·rfl
   ·rcases h7 with ⟨rfl,rfl⟩ | ⟨kd,p,rfl,hp⟩
    ·exact .inl ⟨rfl,rfl⟩
    ·refine .inr ⟨kd,?_⟩
     have:=hf.ev p; rw [hp] at this
     simp [this.inv_sc]
   ·rcases h8 with ⟨rfl,rfl⟩ | ⟨kd,p,rfl,hp⟩
    ·exact .inl ⟨rfl,rfl⟩
    ·refine .inr ⟨kd,?_⟩
     have:=hf.ev p; rw [hp] at this
     simp [this.inv_sc]
  ·by_cases h0:hi - lo=0
   ·exact .inl h0
   ·right
    rcases h6 with h6 | ⟨b,hb,rfl⟩
    ·omega
    ·refine⟨b,hb,?_⟩
     rw [if_neg (by omega)]
     simp [Addr.add_lit]
  ·subst h0
   obtain⟨_,_,hc⟩:=G37 h5 hL hv
   rcases hc with ⟨e1,e2,e3⟩ | ⟨b,cap',vs,e1,e2,e3,e4,e5,e6,_⟩
   ·rw [he] at e1
    injection e1 with f1 f2 f3
    subst f1
    subst f3
    subst e2
    have h3:hi=0:=by simpa using h2
    subst h3
    exact .inl ⟨rfl,rfl,e3⟩
   ·rw [he] at e1
    injection e1 with f1 f2 f3
    subst f1
    subst f3
    refine .inr ⟨b,cap,?_,e2,by omega,e4,by simp [World.shape?,e5,e6]⟩
    split <;> simp [Addr.add_lit]

theorem H55 (z:Array Value) (n j:Nat) (hj:j < n*z.size):(Builtin.zeroCells z n).toList[j]? = some z[j % z.size]! := by
 simp [Builtin.zeroCells,hj]

theorem Y35 {d:Operand} {T E k i ver off n:Nat} {xs:List AV} {y:AV} {zs:List Value} (ho:o.op=.call { callee:=.builtin .clear,args:=#[d],argTypes:=#[T] }) (hT:sliceB P T E k=true) (hd:Qd5 L k (ev l d) i ver off n E xs)
  (hz:(P.info? E).bind (fun i=>i.zero.map Value.cells)=some zs.toArray) (h3:zs.length=k) (a4:Nat.blt 0 k=true) (h1:zs.all Value.oneCell'=true) (hy:y.cells.length=k) (hD:∀ (w:World) (S:Nat→Nat→Prop) (j:Nat) u v,y.cells[j]? = some u→zs[j]? = some v→D w S u v) :
  Gz P o l L (Is (.tup []) ((i,.vec E k ver (xs.take off++List.replicate n y++xs.drop (off+n)))::L)):=by
 intro a w β K Q h2 hf hK
 have hi:=hd.1
 have h7:0 < k:=by simpa [Nat.blt_eq] using a4
 obtain⟨h8,ad,cap,h4,a9,b0,a0⟩:=hd.out h2 (hf.ev d)
 obtain⟨t1,t2⟩:=sliceB.out hT
 by_cases h0:n=0
 ·subst h0
  have h9:(execOp a.eval o).run P w=.ok (.value (.tuple #[])) w:=by
   cases ad <;> simp [execOp,ho,resolve,invoke,builtin,h4,Builtin.clear_,run_underlying t1]
  unfold Oper.wp
  rw [h9]
  have a5:xs.take off++List.replicate 0 y++xs.drop (off+0)=xs:=by simp
  rw [a5] at hK
  have hq:G98 L ((i,Je.vec E k ver xs)::L):=fun id=>by
   rw [Gd]
   by_cases e:i=id
   ·subst e; rw [if_pos rfl,hi]
   ·rw [if_neg e]
  exact hK _ _ _ w β ⟨rfl,rfl⟩ (h2.locEq hq) ((Step.refl w β L).locEq hq) (.tup rfl (fun j u v hu=>by simp at hu))
 ·rcases a0 with a0 | ⟨b,hb,rfl⟩
  ·omega
  ·obtain⟨q1,vs,q2,q3,q4⟩:=Gcb h2 hi hb
   have h5:zs.toArray.size=k:=by simpa using h3
   have h6:(Builtin.zeroCells zs.toArray n).toList.length=n*k:=by simp [Builtin.zeroCells,h3]
   have a8:off*k+n*k≤xs.length*k:=by rw [← Nat.add_mul]; exact Nat.mul_le_mul_right _ h8
   have a1:∀ z∈List.replicate n y,z.cells.length=k:=fun z hz=>by rw [List.eq_of_mem_replicate hz]; exact hy
   have a6:∀ (j:Nat) u x,(flat (List.replicate n y))[j]? = some u→(Builtin.zeroCells zs.toArray n).toList[j]? = some x→D w (Hv w β L) u x:=fun j u x hu hx=>by
    have hj:=(Kw hx).1
    rw [h6] at hj
    rw [H55 _ _ _ (by rw [h5]; exact hj),h5] at hx
    have hm:j % k < k:=Nat.mod_lt _ h7
    have h4:j / k < n:=(Nat.div_lt_iff_lt_mul h7).2 hj
    have e:j=(j / k)*k+j % k:=by rw [Nat.mul_comm]; exact(Nat.div_add_mod j k).symm
    rw [e,G77 a1 (y:=y) (by rw [List.getElem?_replicate,if_pos h4]) hm] at hu
    refine hD w _ (j % k) u x hu ?_
    rw [← hx]
    simp [h3,hm]
   have a7:∀ v∈(Builtin.zeroCells zs.toArray n).toList,v.oneCell'=true:=fun v hv=>by
    obtain⟨j,hj⟩:=List.mem_iff_getElem?.1 hv
    have a2:=(Kw hj).1
    rw [h6] at a2
    rw [H55 _ _ _ (by rw [h5]; exact a2),h5] at hj
    have hm:j % k < zs.length:=by rw [h3]; exact Nat.mod_lt _ h7
    cases hj
    have:zs.toArray[j % k]! = zs[j % k]:=by simp [hm]
    rw [this]
    exact List.all_eq_true.1 h1 _ (List.getElem_mem hm)
   have a3:=run_storeCells_at P b (off*k) E (Builtin.zeroCells zs.toArray n).toList 0 vs w q2 (by rw [h6]; omega) a7
   obtain⟨inf,e1,e2⟩:=Option.bind_eq_some_iff.1 hz
   obtain⟨z,e3,e4⟩:=Option.map_eq_some_iff.1 e2
   simp only [Nat.add_zero] at a3
   have h9:(execOp a.eval o).run P w=.ok (.value (.tuple #[])) (w.setRow b (vs.toList.take (off*k)++(Builtin.zeroCells zs.toArray n).toList++vs.toList.drop (off*k+(Builtin.zeroCells zs.toArray n).toList.length)).toArray):=by
    obtain⟨m,rfl⟩:∃ m,n=m+1:=⟨n - 1,by omega⟩
    simp only [execOp,ho,resolve,invoke,builtin,Sem.run_bind,List.map_toArray,List.map_cons,List.map_nil,h4]
    simp [Builtin.clear_,run_underlying t1,zeroValue,typeInfo,e1,e3,e4,a3]
   unfold Oper.wp
   rw [h9]
   obtain⟨st,sat⟩:=J28 (off:=off) (zs:=List.replicate n y) (cs:=(Builtin.zeroCells zs.toArray n).toList) h2 hi hb q2 a1 (by rw [h6,List.length_replicate]) (by simpa using h8) a6
   rw [List.length_replicate] at st sat
   exact hK _ _ _ _ _ ⟨rfl,rfl⟩ sat st (.tup rfl (fun j u v hu=>by simp at hu))
end ops

/-! ### Typed elements -/
section typed
variable {P:Program} {o:Oper} {l:Fr} {L:Loc} {α:Type}
theorem Rb4 {x p:Operand} {T E k i ver n m:Nat} {kd:IntKind} {z:Int} {f:α→AV} {xs:List α} (ho:o.op=.slice T x (some p) none none) (hx:ev l x=.vec i ver k n) (hp:ev l p=.sc (.int kd z)) (hL:lk L i=some (.vec E k ver (xs.map f))) (hT:sliceB P T E k=true) (hm:z=(m:Int)∧m≤xs.length) :
  Gz P o l L (Is (.vsl i ver k m (xs.length - m)) L):=by
 obtain⟨rfl,hm⟩:=hm
 have h:=Rf0 (lo:=m) (hi:=xs.length) ho hT hx hL (.inr ⟨kd,p,rfl,hp⟩) (.inl ⟨rfl,by simp⟩) hm (by simp)
 exact h
theorem Rb5 {x p:Operand} {T E k i ver n m:Nat} {kd:IntKind} {z:Int} {f:α→AV} {xs:List α} (ho:o.op=.slice T x none (some p) none) (hx:ev l x=.vec i ver k n) (hp:ev l p=.sc (.int kd z)) (hL:lk L i=some (.vec E k ver (xs.map f))) (hT:sliceB P T E k=true) (hm:z=(m:Int)∧m≤xs.length) :
  Gz P o l L (Is (.vsl i ver k 0 m) L):=by
 obtain⟨rfl,hm⟩:=hm
 have h:=Rf0 (lo:=0) (hi:=m) ho hT hx hL (.inl ⟨rfl,rfl⟩) (.inr ⟨kd,p,rfl,hp⟩) (Nat.zero_le _) (by simpa using hm)
 exact h
def blank (xs:List α) (off n:Nat) (z:α):List α:=xs.take off++List.replicate n z++xs.drop (off+n)
theorem Y1d {k i ver off n t:Nat} {f:α→AV} {zs:List α} {u:AV} (h:u=.vsl i ver k off n) (hi:lk L i=some (.vec t k ver (zs.map f))):Ha0 L k u (((zs.drop off).take n).map f):=.inr (.inr ⟨i,ver,off,n,t,zs.map f,h,hi,by rw [List.map_take,List.map_drop]⟩)
theorem Rfc {d:Operand} {T E k i ver off n:Nat} {f:α→AV} {xs:List α} (y:α) (zs:List Value) (ho:o.op=.call { callee:=.builtin .clear,args:=#[d],argTypes:=#[T] }) (hT:sliceB P T E k=true) (hd:(ev l d=.vec i ver k n∧off=0)∨ev l d=.vsl i ver k off n) (hi:lk L i=some (.vec E k ver (xs.map f)))
  (hz:(P.info? E).bind (fun i=>i.zero.map Value.cells)=some zs.toArray) (h0:zs.length=k) (h3:Nat.blt 0 k=true) (h1:zs.all Value.oneCell'=true) (h2:ZOk (f y).cells zs) :
  Gz P o l L (Is (.tup []) ((i,.vec E k ver ((blank xs off n y).map f))::L)):=by
 have h:=Y35 (off:=off) (n:=n) (y:=f y) ho hT ⟨hi,hd⟩ hz h0 h3 h1 (by rw [h2.length,h0]) (fun w S j a b ha h4=>by
  have:=ZOk.get (w:=w) (β:=⟨fun _=>none,fun b i=>¬ S b i⟩) (L:=[]) h2 j a b ha h4
  refine(this.data_of_nil).mono fun b i hs=>⟨Classical.byContradiction fun hn=>hs.seen hn,rfl⟩)
 simp only [blank,List.map_append,List.map_take,List.map_drop,List.map_replicate]
 exact h
end typed

theorem Q2.mono {P:Program} {f:FuncId} {args:List AV} {L0:Loc} {R R':AV→Loc→Prop} (h:Q2 P f args L0 R) (hr:∀ u L,R u L→R' u L):Q2 P f args L0 R':=fun w β vs a b c=>
 (h w β vs a b c).mono fun e w' hh=>by
  obtain⟨v,r,β',L',h1,h2,h3,h4,h5⟩:=hh
  exact⟨v,r,β',L',h1,h2,h3,h4,hr _ _ h5⟩
theorem Pure.monoP {P:Program} {f:FuncId} {args:List AV} {R R':AV→Prop} (h:Pure P f args R) (hr:∀ u,R u→R' u):Pure P f args R':=Q2.mono h (fun u L hh=>⟨hh.1,hr u hh.2⟩)
def R36:Loc→List Nat→Bool
 | [],_=>true
 | (i,_)::r,B=>B.any (Nat.beq i)&&R36 r B
theorem H91 {B:List Nat}:∀ {L0:Loc},R36 L0 B=true→∀ id,(lk L0 id).isSome=true→id∈B
 | [],_,id,h=>by simp [lk] at h
 | (i,o)::r,hb,id,h=>by
  simp only [R36,Ma,List.any_eq_true] at hb
  rw [Gd] at h
  by_cases e:i=id
  ·obtain⟨x,hx,h0⟩:=hb.1
   rw [← e,Ko h0]; exact hx
  ·rw [if_neg e] at h; exact H91 hb.2 id h

theorem Q75 {P:Program} {N:Cfg} {c:Code} {Q:Post} {l:Fr} {L:Loc} (s:Nat) {i ver k n E:Nat} {xs:List AV} (h1:look l s=.vec i ver k n) (hi:lk L i=some (.vec E k ver xs)) (h:n=xs.length→JC P N c Q l L):JC P N c Q l L:=fun n w0 β0 L0 a w β hs=>
 h (by
  have hv:=hs.frame.tmp s
  rw [h1] at hv
  exact(G37 hs.sat hi hv).1) n w0 β0 L0 a w β hs
section calls
variable {P:Program} {o:Oper} {l:Fr} {L:Loc} {γ:Type}
theorem Jdb {f:FuncId} {vs:Array Value} {args:List AV} {L0:Loc} {u:γ→AV} {Lr:γ→Loc} {a:Act} {w:World} {β:Gu} {K:Act→World→Prop} {Q:Exit→Act→World→Prop} (hc:Q2 P f args L0 (fun r L'=>∃ p,r=u p∧L'=Lr p)) (h0:Sat w β L)
  (h4:Q04 L L0) (h6:closedIn (inL L0) L0=true) (h5:∀ p,Gee L L0 (Lr p)=true) (hl:vs.size=args.length)
  (hv:∀ (j:Nat) u v,args[j]? = some u→vs[j]? = some v→V w β L u v∧u.refs (inL L0)=true)
  (hK:∀ u' L' v w' β',(∃ p,u'=u p∧L'=Lr p++H47 L L0)→Sat w' β' L'→Step w β L w' β' L'→V w' β' L' u' v→K (a.put o.dst v) w') :
  Calls P f vs w fun
   | .returned v,w''=>K (a.put o.dst v) w''
   | .panicked chain,w''=>Q (.panic chain) a w''
   | .outgrown,_=>LetsOut Q:=by
 refine(Jcd hc h0 (fun id ob h=>h4.get h) (fun id ob h=>closedIn.get h6 h) hl hv (fun r L' hR id h=>by obtain⟨p,_,rfl⟩:=hR; exact Gee.get (h5 p) h)).mono fun e w' h=>?_
 obtain⟨v,r,β',L',rfl,⟨p,rfl,rfl⟩,h1,h2,h3⟩:=h
 exact hK _ _ v w' _ ⟨p,rfl,rfl⟩ h1 h2 h3

theorem Qde {f:FuncId} {xs:List Operand} {args:List AV} {ts:Array TypeId} {L0:Loc} {u:γ→AV} {Lr:γ→Loc} (ho:o.op=.call { callee:=.value (.func f),args:=xs.toArray,argTypes:=ts }) (hc:Q2 P f args L0 (fun r L'=>∃ p,r=u p∧L'=Lr p)) (hB:Hh P f=true) (ha:Ha8 l L0 xs args)
  (h0:Q04 L L0) (h5:closedIn (inL L0) L0=true) (h3:∀ p,Gee L L0 (Lr p)=true):Gz P o l L (fun u' L''=>∃ p,u'=u p∧L''=Lr p++H47 L L0):=by
 intro a w β K Q h4 hf hK
 have hr:(execOp a.eval o).run P w=.ok (.enter f (xs.toArray.map a.eval)) w:=by
  simp [execOp,ho,resolve,Act.eval,Deferred.ofValue,invoke,Hh.out hB]
 unfold Oper.wp
 rw [hr]
 refine Jdb hc h4 h0 h5 h3 (by simp [ha.length]) (fun j u v hu hv=>?_) hK
 simp only [Array.getElem?_map,List.getElem?_toArray,Option.map_eq_some_iff] at hv
 obtain⟨x,hx,rfl⟩:=hv
 obtain⟨h1,h2⟩:=ha.get hx hu
 refine⟨?_,h2⟩
 rcases h1 with h1 | h1
 ·rw [← h1]; exact hf.ev x
 ·rw [← h1]; exact(hf.ev x).plain

end calls

section rel
variable {α β σ R:Type} {r:R}
def Rel (r:R) (m:Option Prop) (d:Option R):Prop:=d=some r→∃ p:Prop,m=some p∧p
theorem J08 {e:R}:Rel r (some (e=r)) (some e):=fun h=>⟨_,rfl,Ky h⟩
theorem H8d {m:Option Prop}:Rel r m none:=fun h=>by cases h
theorem H62 {m:Option α} {k:α→Option Prop} {k':α→Option R} (h:∀ x,Rel r (k x) (k' x)):Rel r (bnd m k) (bnd m k'):=by
 cases m with
 | none=>exact H8d
 | some x=>exact h x
theorem Gce {c:Bool} {x y:Option Prop} {x' y':Option R} (h1:c=true→Rel r x x') (h2:c=false→Rel r y y'):Rel r (bif c then x else y) (bif c then x' else y'):=by
 cases c with
 | true=>exact h1 rfl
 | false=>exact h2 rfl
theorem J88 {z:Int} {k:Int→Option Prop} {k':Int→Option R} (h:∀ x,Rel r (k x) (k' x)):Rel r (chk z k) (chk z k'):=by
 unfold chk; exact Gce (fun _=>h z) (fun _=>H8d)
theorem Rcf {m:(α→Option Prop)→Option Prop} {m':(α→Option R)→Option R} {k:α→Option Prop} {k':α→Option R} (h:∀ K K',(∀ a,Rel r (K a) (K' a))→Rel r (m K) (m' K')) (hk:∀ a,Rel r (k a) (k' a)):Rel r (jp m k) (jp m' k'):=h k k' hk
theorem J09 {b:α→Nat→σ→(σ→Option Prop)→Option Prop} {b':α→Nat→σ→(σ→Option R)→Option R} {kx:σ→Option Prop} {kx':σ→Option R}
  (h:∀ x i s nx nx',(∀ s,Rel r (nx s) (nx' s))→Rel r (b x i s nx) (b' x i s nx')) (hk:∀ s,Rel r (kx s) (kx' s)):∀ {xs:List α} {i:Nat} {s:σ},Rel r (each b kx xs i s) (each b' kx' xs i s)
 | [],_,s=>hk s
 | x::_,i,s=>h x i s _ _ (fun _=>J09 h hk)
theorem J06 {c:α→Bool} {e e':β}:∀ (l:List α) (s:Unit),J07 (fun x (_:Unit) nx=>bif c x then lft (some e) else nx ()) (fun _=>some e') l s=some (bif l.any c then e else e')
 | [],_=>rfl
 | x::l,s=>by
  rw [J07]
  cases hc:c x with
  | true=>simp [lft,hc]
  | false=>simp [hc,J06 l]
theorem Y0a {c:α→Bool} {e e':R} {l:List α}:Rel r (Q39 (fun x (_:Unit) nx=>bif c x then lft (some (e=r)) else nx ()) (fun _=>some (e'=r)) l ()) (J07 (fun x (_:Unit) nx=>bif c x then lft (some e) else nx ()) (fun _=>some e') l ()):=fun h=>by
 refine⟨_,rfl,fun q hq=>?_⟩
 rw [J06] at h
 refine⟨_,J06 q (),?_⟩
 have h0:q.any c=l.any c:=by
  rw [Bool.eq_iff_iff,List.any_eq_true,List.any_eq_true]
  exact⟨fun⟨x,h1,h2⟩=>⟨x,hq.mem_iff.1 h1,h2⟩,fun⟨x,h1,h2⟩=>⟨x,hq.mem_iff.2 h1,h2⟩⟩
 rw [h0]
 have:=Ky h
 cases hc:l.any c <;> rw [hc] at this <;> exact this
end rel

structure R40 (X:Nat→Prop) (W W':World):Prop where
 os:W'.os=W.os
 tape:W'.tape=W.tape
 output:W'.output=W.output∧W.drawn≤W'.drawn
 size:W.heap.size≤W'.heap.size
 keep:∀ b,b < W.heap.size→¬ X b→W'.heap[b]? = W.heap[b]?

structure G0b (κ:Type) where
 W0:World
 fr:Nat→Prop
 S:Nat→Nat→Prop
 lp:Nat
 J:κ→(Nat→Prop)→(Nat→Nat→Prop)→World→Prop
 nx:κ→List AV→κ→Prop
 gv:Option (Nat×Nat):=none
def Given (gv:Option (Nat×Nat)) (W:World) (S:Nat→Nat→Prop) (G:Nat→Prop) (us:List AV) (vs:Array Value):Prop:=
 match gv with
 | none=>∀ b,¬ G b
 | some (t,k)=>∃ xs v ob,us=[.list k xs]∧vs=#[v]∧v.oneCell'=true∧J40 W ob t k xs.length v∧(∀ b,G b ↔ ob=some b)∧(∀ x∈xs,x.cells.length=k)∧((ob=none∧xs=[])∨∃ b,ob=some b∧∃ cs:Array Value,W.heap[b]? = some (.cells cs t (0,0))∧xs.length*k≤cs.size∧∀ (j:Nat) u v,(flat xs)[j]? = some u→cs[j]? = some v→D W S u v)
theorem Given.mono {gv:Option (Nat×Nat)} {W:World} {S S':Nat→Nat→Prop} {G:Nat→Prop} {us:List AV} {vs:Array Value} (h:Given gv W S G us vs) (hs:∀ b i,S b i→S' b i):Given gv W S' G us vs:=by
 cases gv with
 | none=>exact h
 | some q=>
  obtain⟨xs,v,ob,h1,h2,h3,h4,h5,h6,h7⟩:=h
  refine⟨xs,v,ob,h1,h2,h3,h4,h5,h6,h7.imp_right ?_⟩
  rintro⟨b,g1,cs,g2,g3,g4⟩
  exact⟨b,g1,cs,g2,g3,fun j u v hu hv=>(g4 j u v hu hv).mono fun b i h=>⟨hs b i h,rfl⟩⟩
def G0b.After {κ:Type} (E:G0b κ) (k':κ) (X:Nat→Prop) (T:Nat→Nat→Prop) (W:World) (e:Ending) (W':World):Prop:=
 e=.returned (.bool true)∧∃ X':Nat→Prop,E.J k' X' T W'∧R40 X W W'∧(∀ b,b < W.heap.size→(X' b ↔ X b))∧(∀ b,X' b→b < W'.heap.size)∧∀ b i,E.S b i→Qy W' b i=Qy W b i
structure G0b.Ok {κ:Type} (E:G0b κ) (P:Program):Prop where
 sees:∀ b i,E.S b i→b < E.W0.heap.size
 frW:∀ b,E.W0.heap.size≤b→E.fr b
 frS:∀ b i,E.fr b→¬ E.S b i
 abide:∀ k X T W W',E.J k X T W→R40 (fun b=>E.fr b∧¬ X b) W W'→(∀ b i,T b i→Qy W' b i=Qy W b i)→E.J k X T W'
 round:∀ (m:Nat) (k k':κ) us X T (T':Nat→Nat→Prop) (G:Nat→Prop) W (vs:Array Value),E.nx k us k'→E.J k X T W→(∀ b i,T b i→T' b i)→(∀ b i,T' b i→¬ T b i→E.fr b∧¬ X b∧b < W.heap.size)→vs.size=us.length →
  (∀ (j:Nat) u v,us[j]? = some u→vs[j]? = some v→D W (fun b i=>E.S b i∨T' b i∨G b) u v)→(∀ b,G b→E.fr b∧¬ X b∧b < W.heap.size∧∀ i,¬ T' b i)→Given E.gv W (fun b i=>E.S b i∨T' b i) G us vs →
  YieldAt Fence.wide m P E.lp vs W (E.After k' (fun b=>X b∨G b) T' W)
theorem G0b.Ok.round0 {κ:Type} {E:G0b κ} {P:Program} (hE:E.Ok P) (m:Nat) (k k':κ) (us:List AV) (X:Nat→Prop) (T T':Nat→Nat→Prop) (W:World) (vs:Array Value) (hy:E.nx k us k'∧E.gv=none) (hJ:E.J k X T W) (h1:∀ b i,T b i→T' b i) (h2:∀ b i,T' b i→¬ T b i→E.fr b∧¬ X b∧b < W.heap.size) (hs:vs.size=us.length)
  (hD:∀ (j:Nat) u v,us[j]? = some u→vs[j]? = some v→D W (fun b i=>E.S b i∨T' b i) u v):YieldAt Fence.wide m P E.lp vs W (E.After k' X T' W):=by
 have h:=hE.round m k k' us X T T' (fun _=>False) W vs hy.1 hJ h1 h2 hs (fun j u v a b=>(hD j u v a b).mono fun b i h=>⟨h.imp_right .inl,rfl⟩) (fun _ h=>h.elim) (by rw [hy.2]; exact fun _ h=>h)
 have e:(fun b=>X b∨False)=X:=by funext b; simp
 rwa [e] at h

def Jf1 (P:Program) (g:FuncId) (caps:List AV) (gv:Option (Nat×Nat)) {κ:Type} (k0:κ) (nx:κ→List AV→κ→Prop) (fin:κ→Prop):Prop:=
 ∀ (n:Nat) (E:G0b κ) (lb:Array Value) (X0:Nat→Prop),E.Ok P→E.nx=nx∧E.gv=gv→lb.size=caps.length→(∀ (j:Nat) u v,caps[j]? = some u→lb[j]? = some v→D E.W0 E.S u v)→(∀ b,X0 b→b < E.W0.heap.size) →
  E.J k0 X0 (fun _ _=>False) E.W0→CallsIn Fence.wide n P g (#[.func (.yield E.lp) #[] #[]]++lb) E.W0 fun e W'=>(∃ v,e=.returned v)∧∃ k X T,fin k∧E.J k X T W'
abbrev Y48 (P:Program) (g:FuncId) (caps:List AV) {κ:Type} (k0:κ) (nx:κ→List AV→κ→Prop) (fin:κ→Prop):Prop:=Jf1 P g caps none k0 nx fin
def J6f (ys:List (List AV)):Nat→List AV→Nat→Prop:=fun k us k'=>ys[k]? = some us∧k'=k+1
def Iter (P:Program) (g:FuncId) (caps:List AV) (ys:List (List AV)):Prop:=Y48 P g caps 0 (J6f ys) (fun k=>k=ys.length)
def Q43 (P:Program) (g:FuncId) (caps:List AV) (t k:Nat) (ys:List (List AV)):Prop:=Jf1 P g caps (some (t,k)) 0 (J6f ys) (fun k=>k=ys.length)

structure StI {κ:Type} (E:G0b κ) (N:Cfg) (a:Act) (w:World) (β:Gu) (l:Fr) (L:Loc) (k:κ):Prop where
 sat:Sat w β L
 frame:Jt a w β L l
 size:N.n≤a.tmps.size
 defers:G54 N.ro E.W0.heap.size w β L a.defers
 old:E.W0.heap.size≤w.heap.size
 own:∀ id b,(lk L id).isSome=true→β id=some b→E.fr b
 gh:∃ X T,E.J k X T w∧(∀ b,X b→b < w.heap.size∧∀ i,¬ E.S b i→β.hid b i)∧(∀ b i,T b i→Hv w β L b i)∧(∀ id b,(lk L id).isSome=true→β id=some b→¬ X b)∧∀ d∈a.defers,∀ D,d={ target:=.collected D,args:=#[] }→¬ X D
 vis:∀ b i,Hv w β L b i→E.S b i∨E.fr b

structure G5a (κ:Type) where
 norm:Fr→Loc→κ→Prop
 ret:Fr→Loc→κ→Prop
 exit:Nat→Fr→Loc→κ→Prop
def G5a.seq {κ:Type} (Q:G5a κ) (K:Fr→Loc→κ→Prop):G5a κ:=⟨K,Q.ret,Q.exit⟩
def G5a.blk {κ:Type} (Q:G5a κ) (i:Nat):G5a κ:=⟨Q.norm,Q.ret,fun j l L k=>bif Nat.beq j i then Q.norm l L k else Q.exit j l L k⟩
def G5a.out {κ:Type} (Q:G5a κ) (E:G0b κ) (N:Cfg):Exit→Act→World→Prop
 | .normal,a,w=>∃ β l L k,StI E N a w β l L k∧Q.norm l L k
 | .ret,a,w=>∃ β l L k,StI E N a w β l L k∧Q.ret l L k
 | .exit i,a,w=>∃ β l L k,StI E N a w β l L k∧Q.exit i l L k
 | _,_,_=>False
def JI {κ:Type} (E:G0b κ) (P:Program) (N:Cfg) (c:Code) (Q:G5a κ) (l:Fr) (L:Loc) (k:κ):Prop:=
 ∀ (n:Nat) a w β,StI E N a w β l L k→c.wpIn (FR N.ro) n P (Q.out E N) a w
def JIL {κ:Type} (E:G0b κ) (P:Program) (N:Cfg) (ops:Array Oper) (rest:List Oper) (Q:G5a κ) (l:Fr) (L:Loc) (k:κ):Prop:=
 ∀ (n:Nat) a w β,StI E N a w β l L k→wpListIn (FR N.ro) n P ops (Q.out E N) rest a w

theorem G54.turn {ro:Option Nat} {B:Nat} {w w':World} {β:Gu} {h':Nat→Nat→Prop} {L:Loc} {ds:List Deferred} {X:Nat→Prop} (h:G54 ro B w β L ds) (ht:R40 X w w') (hX:∀ d∈ds,∀ D,d={ target:=.collected D,args:=#[] }→¬ X D):G54 ro B w' ⟨β.at_,h'⟩ L ds:=
 ⟨h.top,h.nodup,fun d hd=>by
  obtain⟨D,e,h1,h2,h3⟩:=h.each d hd
  exact⟨D,e,h1,(ht.keep D (Kk h2).1 (hX d hd D e)).trans h2,h3⟩⟩
theorem G54.notX {ro:Option Nat} {B:Nat} {w:World} {β:Gu} {L:Loc} {ds:List Deferred} {X X':Nat→Prop} (h:G54 ro B w β L ds) (hX:∀ d∈ds,∀ D,d={ target:=.collected D,args:=#[] }→¬ X D) (h0:∀ b,b < w.heap.size→(X' b ↔ X b)):∀ d∈ds,∀ D,d={ target:=.collected D,args:=#[] }→¬ X' D:=fun d hd D e hx=>by
 obtain⟨D',e',_,h2,_⟩:=h.each d hd
 have:D'=D:=by rw [e] at e'; injection e' with e3; injection e3 with e4; exact e4.symm
 subst this
 exact hX d hd D' e ((h0 D' (Kk h2).1).1 hx)
theorem StI.visStep {κ:Type} {E:G0b κ} {P:Program} {N:Cfg} {a:Act} {w w':World} {β β':Gu} {l:Fr} {L L':Loc} {k:κ} (hE:E.Ok P) (h:StI E N a w β l L k) (h0:Step w β L w' β' L') {b i:Nat} (hn:Hv w' β' L' b i):E.S b i∨E.fr b:=by
 have old':=h.old
 rcases Kq b w.heap.size with hb | hb
 ·by_cases ho:∃ id,(lk L id).isSome=true∧β id=some b
  ·obtain⟨id,h1,h2⟩:=ho
   exact .inr (h.own id b h1 h2)
  ·exact h.vis b i ⟨hb,fun hh=>hn.seen ((h0.hid b i hb).2 hh),fun id o h1 h2=>(ho ⟨id,by rw [h1]; rfl,h2⟩).elim⟩
 ·exact .inr (hE.frW b (by omega))
theorem StI.visFits {κ:Type} {E:G0b κ} {N:Cfg} {a:Act} {w:World} {β:Gu} {l:Fr} {L L':Loc} {k:κ} (h:StI E N a w β l L k) (hd:Hc2 L L') {b i:Nat} (hn:Hv w β L' b i):E.S b i∨E.fr b:=by
 by_cases ho:∃ id,(lk L id).isSome=true∧β id=some b
 ·obtain⟨id,h1,h2⟩:=ho
  exact .inr (h.own id b h1 h2)
 ·exact h.vis b i ⟨hn.lt,hn.seen,fun id o h1 h2=>(ho ⟨id,by rw [h1]; rfl,h2⟩).elim⟩
theorem StI.step {κ:Type} {E:G0b κ} {P:Program} {N:Cfg} {a a':Act} {w w':World} {β β':Gu} {l l':Fr} {L L':Loc} {k:κ} (hE:E.Ok P) (h:StI E N a w β l L k) (h0:Step w β L w' β' L') (h6:Sat w' β' L') (hf:Jt a' w' β' L' l') (h7:a'.tmps.size=a.tmps.size) (hd:a'.defers=a.defers):StI E N a' w' β' l' L' k:=by
 have old':=h.old
 refine⟨h6,hf,by rw [h7]; exact h.size,by rw [hd]; exact h.defers.step h0,Nat.le_trans h.old h0.size,fun id b h1 h2=>?_,?_,fun b i hn=>h.visStep hE h0 hn⟩
 ·rcases Kq b w.heap.size with hb | hb
  ·refine Classical.byContradiction fun hn=>?_
   have:∀ id0,(lk L id0).isSome=true→β id0≠some b:=fun id0 h3 h4=>hn (h.own id0 b h3 h4)
   exact(h0.far b hb this).2 id h1 h2
  ·exact hE.frW b (by omega)
 ·obtain⟨X,T,hJ,hX,hT,h5,h8⟩:=h.gh
  refine⟨X,T,hE.abide k X T w w' hJ ⟨h0.os,h0.tape,h0.output,h0.size,fun b hb hn=>(h0.far b hb fun id h1 h2=>?_).1⟩ (fun b i h=>(h0.stab b i (hT b i h)).2),fun b hb=>⟨Km (hX b hb).1 h0.size,fun i hn=>(h0.hid b i (hX b hb).1).2 ((hX b hb).2 i hn)⟩,fun b i h=>(h0.stab b i (hT b i h)).1,fun id b h1 h2 hx=>?_,by rw [hd]; exact h8⟩
  ·exact hn ⟨h.own id b h1 h2,fun hx=>h5 id b h1 h2 hx⟩
  ·exact(h0.far b (hX b hx).1 fun id0 h3 h4=>h5 id0 b h3 h4 hx).2 id h1 h2

theorem Sat.fits {B:List Nat} {w:World} {β:Gu} {l l':Fr} {L L':Loc} (hs:Sat w β L) (h:Fits B l L l' L'):Sat w β L':=by
 have hd:=h.drop
 refine⟨hs.hid,fun id b hid hb=>hs.bnd id b (hd.some hid) hb,fun id b j hid hb=>hs.apart id b j (hd.some hid) hb,fun id id' b h1 h2=>hs.inj id id' b (hd.some h1) (hd.some h2),fun id o' h6=>?_⟩
 obtain⟨o,ho,hc⟩:=h.loc.get h6
 have h0:=hs.obj id o ho
 cases hc with
 | same=>exact h0
 | map=>
  obtain⟨b,h1,h2⟩:=h0
  exact⟨b,h1,h2.mono rfl fun h=>h.mono fun b i hs=>⟨hd.stab hs,rfl⟩⟩
 | vec=>
  obtain⟨h7,h0⟩:=h0
  refine⟨h7,?_⟩
  rcases h0 with h0 | ⟨b,h1,vs,h2,h3,h4⟩
  ·exact .inl h0
  ·exact .inr ⟨b,h1,vs,h2,h3,fun j u v hu hv=>(h4 j u v hu hv).mono fun b i hs=>⟨hd.stab hs,rfl⟩⟩
 | pin=>
  obtain⟨h1,vs,h2,h3,h4⟩:=h0
  exact⟨h1,vs,h2,h3,fun j u v hu hv=>(h4 j u v hu hv).mono fun b i hs=>⟨hd.stab hs,rfl⟩⟩
 | iter hm=>
  obtain⟨b,h1,bm,h2,h4⟩:=h0
  exact⟨b,h1,bm,h2.drop hd hm,h4⟩
 | box hl hc=>
  obtain⟨b,h1,vs,h2,h3,h4⟩:=h0
  refine⟨b,h1,vs,h2,h3.trans hl,fun j u' v h5 hv=>?_⟩
  rename_i cs cs'
  have hj:j < cs.length:=by
   rcases Kq j cs'.length with h | h
   ·omega
   ·simp [List.getElem?_eq_none h] at h5
  exact(h4 j cs[j] v (by simp [hj]) hv).conv hd (hc j _ _ (by simp [hj]) h5)
theorem StI.fits {κ:Type} {E:G0b κ} {N:Cfg} {a:Act} {w:World} {β:Gu} {l l':Fr} {L L':Loc} {k:κ} (h:StI E N a w β l L k) (h0:Fits N.base l L l' L'):StI E N a w β l' L' k:=
 ⟨h.sat.fits h0,⟨fun t=>(h.frame.tmp t).conv h0.drop (h0.fr.get t)⟩,h.size,h.defers.sub fun id D h1 h2=>⟨id,h0.drop.some h1,h2⟩,h.old,fun id b h1 h2=>h.own id b (h0.drop.some h1) h2,(by obtain⟨X,T,h1,h2,h3,h4,h5⟩:=h.gh; exact⟨X,T,h1,h2,fun b i h=>h0.drop.stab (h3 b i h),fun id b h=>h4 id b (h0.drop.some h),h5⟩),fun b i hn=>h.visFits h0.drop hn⟩

section code
variable {κ:Type} {E:G0b κ} {P:Program} {N:Cfg} {Q:G5a κ} {l:Fr} {L:Loc} {k:κ}

theorem Qg {x y:Code} (h:∀ K:Fr→Loc→κ→Prop,(∀ l L k,JI E P N y Q l L k→K l L k)→JI E P N x (Q.seq K) l L k):JI E P N (.seq x y) Q l L k:=
 fun n a w β hs=>wpIn_seq (Code.wpIn_mono (fun e a' w' q=>by
  cases e with
  | normal=>obtain⟨β',l',L',k',h0,hq⟩:=q; exact hq n a' w' β' h0
  | exit i=>exact q
  | ret=>exact q
  | goto l=>exact q
  | panic c=>exact q
  | outgrown=>exact q) (h (fun l L k=>JI E P N y Q l L k) (fun _ _ _ h=>h) n a w β hs))
theorem Gb5 (h:Q.norm l L k):JI E P N .skip Q l L k:=fun _ _ _ β hs=>wpIn_skip ⟨β,l,L,k,hs,h⟩
theorem Y6b (h:Q.ret l L k):JI E P N .ret Q l L k:=fun _ _ _ β hs=>wpIn_ret ⟨β,l,L,k,hs,h⟩
theorem H6c {i:Nat} (h:Q.exit i l L k):JI E P N (.exit i) Q l L k:=fun _ _ _ β hs=>wpIn_exit ⟨β,l,L,k,hs,h⟩
theorem Gd4 {c:Operand} {x y:Code} {b:Bool} (hc:ev l c=.sc (.bool b)) (ht:b=true→JI E P N x Q l L k) (hf:b=false→JI E P N y Q l L k):JI E P N (.cond c x y) Q l L k:=
 fun n a w β hs=>by
  have hv:=hs.frame.ev c
  rw [hc] at hv
  exact wpIn_cond_split hv.inv_sc (fun e=>ht e n a w β hs) (fun e=>hf e n a w β hs)
theorem G1b {i:Nat} {c:Code} (h:JI E P N c (Q.blk i) l L k):JI E P N (.block i c) Q l L k:=
 fun n a w β hs=>wpIn_block (Code.wpIn_mono (fun e a' w' q=>by
  cases e with
  | normal=>exact q
  | exit j=>
   obtain⟨β',l',L',k',h0,hq⟩:=q
   simp only [Exit.inBlock]
   by_cases e:j=i
   ·subst e
    simp only [if_true]
    exact⟨β',l',L',k',h0,by simpa [G5a.blk] using hq⟩
   ·have hb:Nat.beq j i=false:=by
     cases hb:Nat.beq j i with
     | false=>rfl
     | true=>exact absurd (Ko hb) e
    simp only [if_neg e]
    exact⟨β',l',L',k',h0,by simpa [G5a.blk,e] using hq⟩
  | ret=>exact q
  | goto l=>exact q
  | panic c=>exact q
  | outgrown=>exact q) (h n a w β hs))
theorem Jp {id:Nat} {ops:List Oper} (h:JIL E P N ops.toArray ops Q l L k):JI E P N (.region id ops.toArray false) Q l L k:=
 fun n a w β hs=>wpIn_region_lit (h n a w β hs)
theorem Qe {ops:Array Oper} (h:Q.norm l L k):JIL E P N ops [] Q l L k:=fun _ _ _ β hs=>⟨β,l,L,k,hs,h⟩

theorem R6a {c:Code} {l':Fr} {L':Loc} (h:Fits N.base l L l' L') (hk:JI E P N c Q l' L' k):JI E P N c Q l L k:=
 fun n a w β hs=>hk n a w β (hs.fits h)

theorem Y20 {body:Code} {X:Type} (I:X→Prop) (F:X→Fr) (M:X→Loc) (kf:X→κ) (μ:X→Nat) (x0:X) (h0:I x0) (hf:Fits N.base l L (F x0) (M x0)) (hk:k=kf x0)
  (hr:∀ x,I x→∀ K:Fr→Loc→κ→Prop,(∀ l L x',I x'→μ x' < μ x→Fits N.base l L (F x') (M x')→K l L (kf x'))→JI E P N body (Q.seq K) (F x) (M x) (kf x)):JI E P N (.loop body) Q l L k:=by
 subst hk
 intro n a w β hs b kk cs h8 h6 h5
 have key:∀ m x a w β,μ x=m→I x→StI E N a w β (F x) (M x) (kf x) →
   ∃ e a' w',Q.out E N e a' w'∧ArrivesIn (Machine.fenced P (FR N.ro)) P (lone (b.atR a (.code body::.inLoop body::kk)) cs w) b kk cs e a' w':=by
  intro m
  induction m using Nat.strongRecOn with
  | _ m ih=>
   intro x a w β hn hI hs
   obtain⟨e,a₁,w₁,hq,h4⟩:=hr x hI (fun l L q=>∃ x',I x'∧μ x' < μ x∧Fits N.base l L (F x') (M x')∧q=kf x') (fun l L x' h1 h2 h3=>⟨x',h1,h2,h3,rfl⟩) n a w β hs b (.inLoop body::kk) cs h8 h6 h5
   cases e with
   | normal=>
    obtain⟨β',l',L',q,h9,x',a0,a1,h7,rfl⟩:=hq
    obtain⟨e₂,a₂,w₂,hq₂,harr₂⟩:=ih (μ x') (hn ▸ a1) x' a₁ w₁ β' rfl a0 (h9.fits h7)
    exact⟨e₂,a₂,w₂,hq₂,.of_steps (StepsIn.trans h4 (.one (fenced_calm h6 h5 rfl) stepR_inLoop)) harr₂⟩
   | exit id=>exact⟨.exit id,a₁,w₁,hq,.pass (x:=.inLoop body) rfl (fun _ _=>.inl (by simp)) h4⟩
   | goto l=>exact hq.elim
   | ret=>exact⟨.ret,a₁,w₁,hq,.pass (x:=.inLoop body) rfl (fun _ _=>.inl (by simp)) h4⟩
   | panic ch=>exact hq.elim
   | outgrown=>exact hq.elim
 obtain⟨e,a',w',hq,h4⟩:=key _ x0 a w β rfl h0 (hs.fits hf)
 exact⟨e,a',w',hq,.of_steps (.one (fenced_calm h6 h5 rfl) stepR_loop) h4⟩
end code

section ops
variable {κ:Type} {E:G0b κ} {P:Program} {N:Cfg} {Q:G5a κ} {l:Fr} {L L':Loc} {k:κ} {ops:Array Oper} {o:Oper} {rest:List Oper} {u:AV}

theorem Re9 {d:Nat} (hE:E.Ok P) (hg:o.guard=none) (hd:o.dst=some d) (hn:Nat.blt d N.n=true) {R:AV→Loc→Prop} (h:Gz P o l L R)
  (hk:∀ u L',R u L'→JIL E P N ops rest Q ((d,u)::l) L' k) (h2:Zn o=true:=by rfl):JIL E P N ops (o::rest) Q l L k:=by
 intro n a w β hs
 refine G8f (ro:=N.ro) hg h2 fun K hK=>h a w β K _ hs.sat hs.frame ?_
 intro u L' v w' β' hr h1 h0 hv
 have h3:d < a.tmps.size:=Km (by simpa [Nat.blt_eq] using hn) hs.size
 rw [hd]
 exact hK _ _ (hk u L' hr n _ w' β' (hs.step hE h0 h1 ((hs.frame.step h0).put h3 hv) (Act.put_size ..) (Act.put_defers' ..)))
theorem Hx {d:Nat} (hE:E.Ok P) (h:Gz P o l L (Is u L')) (hk:JIL E P N ops rest Q ((d,u)::l) L' k) (hg:o.guard=none) (hd:o.dst=some d) (hn:Nat.blt d N.n=true) (h2:Zn o=true):JIL E P N ops (o::rest) Q l L k:=by
 intro n a w β hs
 refine G8f (ro:=N.ro) hg h2 fun K hK=>h a w β K _ hs.sat hs.frame ?_
 intro u' L'' v w' β' hr h1 h0 hv
 obtain⟨rfl,rfl⟩:=hr
 have h3:d < a.tmps.size:=Km (by simpa [Nat.blt_eq] using hn) hs.size
 rw [hd]
 exact hK _ _ (hk n _ w' β' (hs.step hE h0 h1 ((hs.frame.step h0).put h3 hv) (Act.put_size ..) (Act.put_defers' ..)))
theorem Q74 (hE:E.Ok P) (h:Gz P o l L (Is u L')) (hk:JIL E P N ops rest Q l L' k) (hg:o.guard=none) (hd:o.dst=none) (h2:Zn o=true):JIL E P N ops (o::rest) Q l L k:=by
 intro n a w β hs
 refine G8f (ro:=N.ro) hg h2 fun K hK=>h a w β K _ hs.sat hs.frame ?_
 intro u' L'' v w' β' hr h1 h0 hv
 obtain⟨rfl,rfl⟩:=hr
 rw [hd]
 exact hK _ _ (hk n _ w' β' (hs.step hE h0 h1 (hs.frame.step h0) rfl rfl))

theorem StI.round {L:Loc} {w w':World} {β:Gu} {X X':Nat→Prop} {T:Nat→Nat→Prop} (h0:Sat w β L) (hX:∀ b,X b→b < w.heap.size∧∀ i,¬ T b i→β.hid b i) (notX:∀ id b,(lk L id).isSome=true→β id=some b→¬ X b) (ht:R40 X w w')
  (hT:∀ b i,T b i→X b→Qy w' b i=Qy w b i) (h4:∀ b,b < w.heap.size→(X' b ↔ X b)) (h3:∀ b,X' b→b < w'.heap.size) :
  let β':Gu:=⟨β.at_,fun b i=>β.hid b i∨(w.heap.size≤b∧b < w'.heap.size)⟩
  Sat w' β' L∧Gba w β L w' β' L∧∀ b,X' b→b < w'.heap.size∧∀ i,¬ T b i→β'.hid b i:=by
 intro β'
 have same:∀ id b,(lk L id).isSome=true→β id=some b→w'.heap[b]? = w.heap[b]? := fun id b h1 h2=>ht.keep b (h0.bnd id b h1 h2) (notX id b h1 h2)
 have stab:∀ b i,Hv w β L b i→Hv w' β' L b i:=fun b i hs=>⟨Km hs.lt ht.size,fun h=>h.elim hs.seen (fun h=>by have:=hs.lt; omega),hs.kept⟩
 have cell:∀ b i,Hv w β L b i→Qy w' b i=Qy w b i:=fun b i hs=>by
  by_cases hx:X b
  ·by_cases h:T b i
   ·exact hT b i h hx
   ·exact(hs.seen ((hX b hx).2 i h)).elim
  ·exact Jh (w:=w) (ht.keep b hs.lt hx)
 have stw:Gba w β L w' β' L:=⟨fun b i hs=>⟨stab b i hs,cell b i hs⟩,fun _ _ cs h=>⟨rfl,cs,h⟩,fun _ _ es h=>⟨rfl,es,h⟩,fun _ _ n es h=>⟨rfl,n,es,h⟩,
  fun id _ _ ver xs h=>⟨ver,xs,h,M1,fun _=>⟨rfl,rfl,fun b hb=>G03 (same id b (by rw [h]; rfl) hb)⟩⟩,
  fun id _ _ ver hw h=>⟨ver,hw,h,M1,fun _=>⟨rfl,rfl,fun b hb=>same id b (by rw [h]; rfl) hb⟩⟩⟩
 refine⟨⟨fun b i h=>h.elim (fun h=>Km (h0.hid b i h) ht.size) (fun h=>h.2),fun id b h1 h2=>Km (h0.bnd id b h1 h2) ht.size,fun id b j h1 h2 h=>h.elim (h0.apart id b j h1 h2) (fun h=>by have:=h0.bnd id b h1 h2; omega),h0.inj,
  fun id o ho=>(h0.obj id o ho).stepW stw (fun b hb=>same id b (by rw [ho]; rfl) hb)⟩,stw,fun b hb=>⟨h3 b hb,fun i hn=>?_⟩⟩
 rcases Kq b w.heap.size with h | h
 ·exact .inl ((hX b ((h4 b h).1 hb)).2 i hn)
 ·exact .inr ⟨h,h3 b hb⟩

def J25 (l:Fr):List Operand→List AV→Prop
 | [],[]=>True
 | x::r,u::s=>(ev l x=u∨(ev l x=.sc (.slice none 0 0)∧∃ k,u=.list k []))∧u.isData=true∧J25 l r s
 | _,_=>False
theorem J25.length {l:Fr}:∀ {xs:List Operand} {us:List AV},J25 l xs us→xs.length=us.length
 | [],[],_=>rfl
 | _::_,_::_,h=>by simp [J25.length h.2.2]
 | [],_::_,h=>h.elim
 | _::_,[],h=>h.elim
theorem J25.get {l:Fr}:∀ {xs:List Operand} {us:List AV},J25 l xs us→∀ {j:Nat} {x:Operand} {u:AV},xs[j]? = some x→us[j]? = some u→(ev l x=u∨(ev l x=.sc (.slice none 0 0)∧∃ k,u=.list k []))∧u.isData=true
 | _::_,_::_,h,0,x,u,hx,hu=>by simp at hx hu; subst hx; subst hu; exact⟨h.1,h.2.1⟩
 | _::_,_::_,h,j+1,x,u,hx,hu=>J25.get h.2.2 (by simpa using hx) (by simpa using hu)
 | [],[],_,j,x,u,hx,_=>by simp at hx
 | [],_::_,h,_,_,_,_,_=>h.elim
 | _::_,[],h,_,_,_,_,_=>h.elim

theorem Q42 {k':κ} {d:Nat} {x:Operand} {xs:List Operand} {us:List AV} {ts:Array TypeId} (hE:E.Ok P) (ho:o.op=.call { callee:=.value x,args:=xs.toArray,argTypes:=ts }) (hx:ev l x=.sc (.func (.yield E.lp) #[] #[]))
  (ha:J25 l xs us) (hy:E.nx k us k'∧E.gv=none) (hk:JIL E P N ops rest Q ((d,BL true)::l) L k') (hg:o.guard=none) (hd:o.dst=some d) (hn:Nat.blt d N.n=true):JIL E P N ops (o::rest) Q l L k:=by
 intro n a w β hs
 obtain⟨X,T,hJ,hX,hT,h8,h9⟩:=hs.gh
 have a2:d < a.tmps.size:=Km (by simpa [Nat.blt_eq] using hn) hs.size
 have hv:=hs.frame.ev x
 rw [hx] at hv
 have a3:=hv.inv_sc
 obtain⟨fn,tmps,assign,body,hr,hR⟩:=hE.round0 (n - 1) k k' us X T (fun b i=>T b i∨(E.fr b∧¬ X b∧Hv w β L b i)) w (xs.toArray.map a.eval) hy hJ (fun b i h=>.inl h) (fun b i h hn=>h.elim (fun h=>(hn h).elim) fun h=>⟨h.1,h.2.1,h.2.2.lt⟩) (by simp [ha.length]) (fun j u v hu hv=>by
  simp only [Array.getElem?_map,List.getElem?_toArray,Option.map_eq_some_iff] at hv
  obtain⟨y,hy,rfl⟩:=hv
  obtain⟨h1,h2⟩:=ha.get hy hu
  have this:=hs.frame.ev y
  have hD:D w (Hv w β L) u (a.eval y):=by
   rcases h1 with h1 | ⟨h1,k0,rfl⟩
   ·rw [h1] at this; exact this.toD h2
   ·rw [h1] at this; rw [this.inv_sc]; exact .nil (Nat.zero_le _)
  exact hD.mono fun b i h6=>⟨(Classical.em (E.S b i)).elim .inl fun hn=>.inr (.inr ⟨(hs.vis b i h6).elim (fun h=>(hn h).elim) (fun h=>h),fun hx=>h6.seen ((hX b hx).2 i hn),h6⟩),rfl⟩)
 refine wpListIn_plain hg fun K hK=>?_
 refine⟨fun _ _=>trivial,?_⟩
 have a0:(execOp a.eval o).run P w=.ok (.round E.lp fn tmps assign body) w:=by
  have h0:(execOp a.eval o).run P w=(Instr.yield E.lp (xs.toArray.map a.eval)).run P w:=by
   simp [execOp,ho,resolve,a3,Deferred.ofValue,invoke]
   done
  rw [h0,hr]
 rw [show o.semAt (FR N.ro).round a.eval=execOp a.eval o from Oper.semAt_eq _ _ _ (by rw [ho]; intro c hc; cases hc),a0,Oper.uponIn_round]
 refine⟨fun e=>(by cases e),RoundIn.mono (show RoundIn (FR N.ro) _ _ _ _ _ _ _ _ _ from hR) fun e w' h=>?_⟩
 obtain⟨rfl,X',a4,ht,h7,a1,a5⟩:=h
 have a6:∀ b i,(T b i∨(E.fr b∧¬ X b∧Hv w β L b i))→Hv w β L b i:=fun b i h=>h.elim (hT b i) (·.2.2)
 obtain⟨h1,h2,h3⟩:=StI.round (T:=E.S) hs.sat hX h8 ht (fun b i h _=>a5 b i h) h7 a1
 rw [hd]
 refine hK _ _ (hk n _ w' _ ⟨h1,(hs.frame.stepW h2).put a2 .sc,by rw [Act.put_size]; exact hs.size,by rw [Act.put_defers']; exact hs.defers.turn ht h9,Nat.le_trans hs.old ht.size,hs.own,⟨X',_,a4,h3,fun b i h=>(h2.stab b i (a6 b i h)).1,fun id b h4 h5 hx=>h8 id b h4 h5 ((h7 b (hs.sat.bnd id b h4 h5)).1 hx),by rw [Act.put_defers']; exact hs.defers.notX h9 h7⟩,fun b i hn=>hs.vis b i ⟨Nat.lt_of_not_le fun h=>hn.seen (.inr ⟨h,hn.lt⟩),fun h=>hn.seen (.inl h),hn.kept⟩⟩)

theorem StI.give {a:Act} {w:World} {β:Gu} {i t kk ver:Nat} {xs:List AV} (hs:StI E N a w β l L k) (hi:lk L i=some (.vec t kk ver xs)) {X:Nat→Prop} {T:Nat→Nat→Prop} (hX:∀ b,X b→b < w.heap.size∧∀ i,¬ E.S b i→β.hid b i) (hT:∀ b i,T b i→Hv w β L b i) (h7:∀ id b,(lk L id).isSome=true→β id=some b→¬ X b) (hE:E.Ok P) :
  ∃ β':Gu,Sat w β' ((i,.vec t kk (ver+1) [])::L)∧Gba w β L w β' ((i,.vec t kk (ver+1) [])::L)∧(∀ b,(X b∨β i=some b)→b < w.heap.size∧∀ i,¬ E.S b i→β'.hid b i)∧(∀ id b,(lk ((i,Je.vec t kk (ver+1) [])::L) id).isSome=true→β' id=some b→(lk L id).isSome=true∧β id=some b∧¬ (X b∨β i=some b))∧∀ b j,Hv w β' ((i,.vec t kk (ver+1) [])::L) b j→Hv w β L b j:=by
 have h0:∀ id,i≠id→(lk ((i,Je.vec t kk (ver+1) [])::L) id)=lk L id:=fun id e=>by rw [Gd,if_neg e]
 have h5:(lk L i).isSome=true:=by rw [hi]; rfl
 have own:∀ id b,(lk ((i,Je.vec t kk (ver+1) [])::L) id).isSome=true→(upP β i none) id=some b→i≠id∧(lk L id).isSome=true∧β id=some b∧β i≠some b:=fun id b h1 h2=>by
  by_cases e:i=id
  ·subst e; simp [upP] at h2
  ·rw [h0 id e] at h1
   have h6:β id=some b:=by simpa only [upP,if_neg (Ne.symm e)] using h2
   exact⟨e,h1,h6,fun h3=>e (hs.sat.inj i id b h5 h1 h3 h6)⟩
 have nS:∀ b j,Hv w β L b j→β i≠some b:=fun b j h hb=>h.kept i _ hi hb
 have stab:∀ b j,Hv w β L b j→Hv w ⟨(upP β i none).at_,fun b j=>β.hid b j∨(β i=some b)⟩ ((i,.vec t kk (ver+1) [])::L) b j:=fun b j h=>⟨h.lt,fun hh=>hh.elim h.seen (nS b j h),fun id o ho hb=>by
  obtain⟨e,h1,h2,h3⟩:=own id b (by rw [ho]; rfl) hb
  rw [h0 id e] at ho
  exact h.kept id o ho h2⟩
 have stw:Gba w β L w ⟨(upP β i none).at_,fun b j=>β.hid b j∨(β i=some b)⟩ ((i,.vec t kk (ver+1) [])::L):=by
  refine⟨fun b j h=>⟨stab b j h,rfl⟩,fun id t' cs h=>?_,fun id t' es h=>?_,fun id t' n es h=>?_,fun id t' k' ver' xs' h=>?_,fun id t' k' ver' h8 h=>?_⟩
  ·have e:i≠id:=fun e=>by subst e; rw [hi] at h; cases h
   exact⟨by simp [upP,Ne.symm e],cs,by rw [h0 id e]; exact h⟩
  ·have e:i≠id:=fun e=>by subst e; rw [hi] at h; cases h
   exact⟨by simp [upP,Ne.symm e],es,by rw [h0 id e]; exact h⟩
  ·have e:i≠id:=fun e=>by subst e; rw [hi] at h; cases h
   exact⟨by simp [upP,Ne.symm e],n,es,by rw [h0 id e]; exact h⟩
  ·by_cases e:i=id
   ·subst e
    rw [hi] at h; cases h
    exact⟨ver+1,[],by rw [Gd,if_pos rfl],Nat.le_succ _,fun h=>by omega⟩
   ·exact⟨ver',xs',by rw [h0 id e]; exact h,M1,fun _=>⟨rfl,by simp [upP,Ne.symm e],fun _ _=>rfl⟩⟩
  ·have e:i≠id:=fun e=>by subst e; rw [hi] at h; cases h
   exact⟨ver',h8,by rw [h0 id e]; exact h,M1,fun _=>⟨rfl,by simp [upP,Ne.symm e],fun _ _=>rfl⟩⟩
 refine⟨⟨(upP β i none).at_,fun b j=>β.hid b j∨(β i=some b)⟩,⟨fun b j h=>h.elim (hs.sat.hid b j) (fun h=>hs.sat.bnd i b h5 h),fun id b h1 h2=>?_,fun id b j h1 h2 hh=>?_,fun id id' b h1 h2 h3 h4=>?_,fun id o ho=>?_⟩,stw,fun b h=>?_,fun id b h1 h2=>?_,fun b j h=>⟨h.lt,fun hh=>h.seen (.inl hh),fun id o ho hb=>?_⟩⟩
 ·obtain⟨e,g1,g2,g3⟩:=own id b h1 h2
  exact hs.sat.bnd id b g1 g2
 ·obtain⟨e,g1,g2,g3⟩:=own id b h1 h2
  exact hh.elim (hs.sat.apart id b j g1 g2) g3
 ·obtain⟨e,g1,g2,g3⟩:=own id b h1 h3
  obtain⟨e',g1',g2',g3'⟩:=own id' b h2 h4
  exact hs.sat.inj id id' b g1 g1' g2 g2'
 ·by_cases e:i=id
  ·subst e
   rw [Gd,if_pos rfl] at ho; cases ho
   exact⟨fun x hx=>(M0 hx).elim,.inl ⟨by simp [upP],rfl⟩⟩
  ·rw [h0 id e] at ho
   have:=(hs.sat.obj id o ho).stepW stw (fun b hb=>rfl)
   have eb:(⟨(upP β i none).at_,fun b j=>β.hid b j∨(β i=some b)⟩:Gu) id=β id:=by simp [upP,Ne.symm e]
   rw [eb]; exact this
 ·rcases h with h | h
  ·exact⟨(hX b h).1,fun j hn=>.inl ((hX b h).2 j hn)⟩
  ·exact⟨hs.sat.bnd i b h5 h,fun j _=>.inr h⟩
 ·obtain⟨e,g1,g2,g3⟩:=own id b h1 h2
  exact⟨g1,g2,fun h=>h.elim (h7 id b g1 g2) g3⟩
 ·by_cases e:i=id
  ·subst e; exact(h.seen (.inr hb)).elim
  ·exact h.kept id o (by rw [h0 id e]; exact ho) (by simpa only [upP,if_neg (Ne.symm e)] using hb)
theorem R46 {k':κ} {d:Nat} {x xo:Operand} {i t kk ver m:Nat} {xs:List AV} {ts:Array TypeId} (hE:E.Ok P) (ho:o.op=.call { callee:=.value x,args:=#[xo],argTypes:=ts }) (hx:ev l x=.sc (.func (.yield E.lp) #[] #[]))
  (hv:ev l xo=.vec i ver kk m) (hi:lk L i=some (.vec t kk ver xs)) (hy:E.nx k [.list kk xs] k'∧E.gv=some (t,kk)) (hk:JIL E P N ops rest Q ((d,BL true)::l) ((i,.vec t kk (ver+1) [])::L) k') (hg:o.guard=none) (hd:o.dst=some d) (hn:Nat.blt d N.n=true):JIL E P N ops (o::rest) Q l L k:=by
 intro n a w β hs
 obtain⟨X,T,hJ,hX,hT,a5,b5⟩:=hs.gh
 have h8:d < a.tmps.size:=Km (by simpa [Nat.blt_eq] using hn) hs.size
 have a6:=hs.frame.ev x
 rw [hx] at a6
 have b6:=a6.inv_sc
 obtain⟨β',g1,g2,g3,g4,g5⟩:=hs.give hi hX hT a5 hE
 have a0:=hs.frame.ev xo
 rw [hv] at a0
 have b1:(a.eval xo).oneCell'=true:=by
  cases a0 with
  | data h=>cases h
  | vec hp h=>exact h
 obtain⟨hm,a1,a2⟩:=G37 hs.sat hi a0
 have h9:(lk L i).isSome=true:=by rw [hi]; rfl
 have nS:∀ b j,Hv w β L b j→β i≠some b:=fun b j h hb=>h.kept i _ hi hb
 have a7:∀ b j,Hv w β L b j→E.S b j∨(T b j∨(E.fr b∧¬ X b∧Hv w β L b j)):=fun b j a3=>(Classical.em (E.S b j)).elim .inl fun hn=>.inr (.inr ⟨(hs.vis b j a3).elim (fun h=>(hn h).elim) (fun h=>h),fun hx=>a3.seen ((hX b hx).2 j hn),a3⟩)
 have a8:∀ b j,(T b j∨(E.fr b∧¬ X b∧Hv w β L b j))→Hv w β L b j:=fun b j h=>h.elim (hT b j) (·.2.2)
 obtain⟨fn,tmps,assign,body,hr,hR⟩:=hE.round (n - 1) k k' [.list kk xs] X T (fun b j=>T b j∨(E.fr b∧¬ X b∧Hv w β L b j)) (fun b=>β i=some b) w #[a.eval xo] hy.1 hJ (fun b j h=>.inl h) (fun b j h hn=>h.elim (fun h=>(hn h).elim) fun h=>⟨h.1,h.2.1,h.2.2.lt⟩) rfl (fun j u v hu hv=>by
  cases j with
  | succ j=>simp at hu
  | zero=>
   simp at hu hv
   subst hu
   subst hv
   rcases a2 with ⟨h1,rfl,_⟩ | ⟨b,cap,vs,h1,h2,h3,h4,h5,h6,h7⟩
   ·rw [h1]; exact .nil (Nat.zero_le _)
   ·rw [h1]
    have b2:(flat xs).length=xs.length*kk:=J0 a1
    have h8:∀ j,j < (flat xs).length→j < vs.size:=fun j hj=>by rw [h6]; exact Km (by rw [b2] at hj; exact hj) (Nat.mul_le_mul_right _ h3)
    refine .list (fun j=>vs.getD j undef) h3 h4 a1 (fun j hj=>⟨.inr (.inr h2),?_⟩) (fun j u hu=>?_)
    ·have:=h8 j hj
     simp [World.cell?,h5,this]
    ·have hj:=(Kw hu).1
     have hv:=h8 j hj
     refine(h7 j u _ hu (by simp [hv])).mono fun b j h=>⟨(a7 b j h).imp_right .inl,rfl⟩)
  (fun b hb=>⟨hs.own i b h9 hb,a5 i b h9 hb,hs.sat.bnd i b h9 hb,fun j h=>nS b j (a8 b j h) hb⟩) (by
   rw [hy.2]
   refine⟨xs,a.eval xo,β i,rfl,rfl,b1,?_,fun b=>Iff.rfl,a1,?_⟩
   ·rcases a2 with ⟨h1,rfl,h2⟩ | ⟨b,cap,vs,h1,h2,h3,h4,h5,h6,h7⟩
    ·exact .inl ⟨h1,rfl,h2⟩
    ·exact .inr ⟨b,cap,h1,h2,h3,h4,by simp [World.shape?,h5,h6]⟩
   ·rcases a2 with ⟨h1,h0,h2⟩ | ⟨b,cap,vs,h1,h2,h3,h4,h5,h6,h7⟩
    ·exact .inl ⟨h2,h0⟩
    ·exact .inr ⟨b,h2,vs,h5,by rw [h6]; exact Nat.mul_le_mul_right _ h3,fun j u v hu hv=>(h7 j u v hu hv).mono fun b j h=>⟨a7 b j h,rfl⟩⟩)
 refine wpListIn_plain hg fun K hK=>?_
 refine⟨fun _ _=>trivial,?_⟩
 have b3:(execOp a.eval o).run P w=.ok (.round E.lp fn tmps assign body) w:=by
  have h0:(execOp a.eval o).run P w=(Instr.yield E.lp #[a.eval xo]).run P w:=by
   simp [execOp,ho,resolve,b6,Deferred.ofValue,invoke]
   done
  rw [h0,hr]
 rw [show o.semAt (FR N.ro).round a.eval=execOp a.eval o from Oper.semAt_eq _ _ _ (by rw [ho]; intro c hc; cases hc),b3,Oper.uponIn_round]
 refine⟨fun e=>(by cases e),RoundIn.mono (show RoundIn (FR N.ro) _ _ _ _ _ _ _ _ _ from hR) fun e w' h=>?_⟩
 obtain⟨rfl,X',b7,ht,a4,b4,b8⟩:=h
 obtain⟨h1,h2,h3⟩:=StI.round (T:=E.S) g1 g3 (fun id b h1 h2=>(g4 id b h1 h2).2.2) ht (fun b j h _=>b8 b j h) a4 b4
 have a9:∀ d∈a.defers,∀ D,d={ target:=.collected D,args:=#[] }→¬ (X D∨β i=some D):=fun d hd D e h=>by
  rcases h with h | h
  ·exact b5 d hd D e h
  ·obtain⟨D',e2,_,_,h3⟩:=hs.defers.each d hd
   have:D'=D:=by rw [e] at e2; injection e2 with e3; injection e3 with e4; exact e4.symm
   subst this
   exact h3 i h9 h
 have b0:G54 N.ro E.W0.heap.size w β' ((i,.vec t kk (ver+1) [])::L) a.defers:=⟨hs.defers.top,hs.defers.nodup,fun d hd=>by
  obtain⟨D,e,q1,q2,q3⟩:=hs.defers.each d hd
  exact⟨D,e,q1,q2,fun id h4 h5=>q3 id (g4 id D h4 h5).1 (g4 id D h4 h5).2.1⟩⟩
 rw [hd]
 refine hK _ _ (hk n _ w' _ ⟨h1,((hs.frame.stepW g2).stepW h2).put h8 .sc,by rw [Act.put_size]; exact hs.size,by rw [Act.put_defers']; exact b0.turn ht a9,Nat.le_trans hs.old ht.size,fun id b h4 h5=>hs.own id b (g4 id b h4 h5).1 (g4 id b h4 h5).2.1,⟨X',_,b7,h3,fun b j h=>(h2.stab b j (g2.stab b j (a8 b j h)).1).1,fun id b h4 h5 hx=>(g4 id b h4 h5).2.2 ((a4 b (g1.bnd id b h4 h5)).1 hx),by rw [Act.put_defers']; exact b0.notX a9 a4⟩,fun b j hn=>hs.vis b j (g5 b j ⟨Nat.lt_of_not_le fun h=>hn.seen (.inr ⟨h,hn.lt⟩),fun h=>hn.seen (.inl h),hn.kept⟩)⟩)
theorem R47 {k':κ} {d:Nat} {x xo:Operand} {t kk:Nat} {ts:Array TypeId} (hE:E.Ok P) (ho:o.op=.call { callee:=.value x,args:=#[xo],argTypes:=ts }) (hx:ev l x=.sc (.func (.yield E.lp) #[] #[]))
  (hv:ev l xo=.sc (.slice none 0 0)) (hy:E.nx k [.list kk []] k'∧E.gv=some (t,kk)) (hk:JIL E P N ops rest Q ((d,BL true)::l) L k') (hg:o.guard=none) (hd:o.dst=some d) (hn:Nat.blt d N.n=true):JIL E P N ops (o::rest) Q l L k:=by
 intro n a w β hs
 obtain⟨X,T,hJ,hX,hT,h8,h9⟩:=hs.gh
 have a4:d < a.tmps.size:=Km (by simpa [Nat.blt_eq] using hn) hs.size
 have a0:=hs.frame.ev x
 rw [hx] at a0
 have a5:=a0.inv_sc
 have a1:=hs.frame.ev xo
 rw [hv] at a1
 have h6:=a1.inv_sc
 obtain⟨fn,tmps,assign,body,hr,hR⟩:=hE.round (n - 1) k k' [.list kk []] X T (fun b i=>T b i∨(E.fr b∧¬ X b∧Hv w β L b i)) (fun _=>False) w #[a.eval xo] hy.1 hJ (fun b i h=>.inl h) (fun b i h hn=>h.elim (fun h=>(hn h).elim) fun h=>⟨h.1,h.2.1,h.2.2.lt⟩) rfl (fun j u v hu hv=>by
  cases j with
  | succ j=>simp at hu
  | zero=>
   simp at hu hv
   subst hu
   subst hv
   rw [h6]; exact .nil (Nat.zero_le _)) (fun _ h=>h.elim) (by
   rw [hy.2]
   exact⟨[],a.eval xo,none,rfl,rfl,by rw [h6]; rfl,.inl ⟨h6,rfl,rfl⟩,fun b=>⟨fun h=>h.elim,fun h=>by cases h⟩,fun x hx=>(M0 hx).elim,.inl ⟨rfl,rfl⟩⟩)
 have eX:(fun b=>X b∨False)=X:=by funext b; simp
 rw [eX] at hR
 refine wpListIn_plain hg fun K hK=>?_
 refine⟨fun _ _=>trivial,?_⟩
 have a2:(execOp a.eval o).run P w=.ok (.round E.lp fn tmps assign body) w:=by
  have h0:(execOp a.eval o).run P w=(Instr.yield E.lp #[a.eval xo]).run P w:=by
   simp [execOp,ho,resolve,a5,Deferred.ofValue,invoke]
   done
  rw [h0,hr]
 rw [show o.semAt (FR N.ro).round a.eval=execOp a.eval o from Oper.semAt_eq _ _ _ (by rw [ho]; intro c hc; cases hc),a2,Oper.uponIn_round]
 refine⟨fun e=>(by cases e),RoundIn.mono (show RoundIn (FR N.ro) _ _ _ _ _ _ _ _ _ from hR) fun e w' h=>?_⟩
 obtain⟨rfl,X',a6,ht,h7,a3,a7⟩:=h
 have a8:∀ b i,(T b i∨(E.fr b∧¬ X b∧Hv w β L b i))→Hv w β L b i:=fun b i h=>h.elim (hT b i) (·.2.2)
 obtain⟨h1,h2,h3⟩:=StI.round (T:=E.S) hs.sat hX h8 ht (fun b i h _=>a7 b i h) h7 a3
 rw [hd]
 refine hK _ _ (hk n _ w' _ ⟨h1,(hs.frame.stepW h2).put a4 .sc,by rw [Act.put_size]; exact hs.size,by rw [Act.put_defers']; exact hs.defers.turn ht h9,Nat.le_trans hs.old ht.size,hs.own,⟨X',_,a6,h3,fun b i h=>(h2.stab b i (a8 b i h)).1,fun id b h4 h5 hx=>h8 id b h4 h5 ((h7 b (hs.sat.bnd id b h4 h5)).1 hx),by rw [Act.put_defers']; exact hs.defers.notX h9 h7⟩,fun b i hn=>hs.vis b i ⟨Nat.lt_of_not_le fun h=>hn.seen (.inr ⟨h,hn.lt⟩),fun h=>hn.seen (.inl h),hn.kept⟩⟩)
theorem StI.leaves {κ:Type} {E:G0b κ} {F:Fence} {n:Nat} {P:Program} {fn:Func} {R:Ending→World→Prop} {N:Cfg} {β:Gu} {L:Loc} {l:Fr} {k:κ} {tmps:Array Value} (hE:E.Ok P) :
  ∀ {ds:List Deferred} {w:World},StI E N { tmps:=tmps,defers:=ds } w β l L k→(∀ w'',StI E N { tmps:=tmps,defers:=[] } w'' β l L k→LeavesIn F n P fn tmps R [] .returning w'')→LeavesInM F n P fn tmps R ds .returning w
 | [],w,hs,h=>h w hs
 | d::ds,w,hs,h=>by
  obtain⟨D,rfl,hB,hD,hL⟩:=hs.defers.each d (List.mem_cons_self ..)
  refine⟨by simp,.inl ⟨D,w.putObj D (.deferred none),rfl,run_takeDeferred hD,StI.leaves hE ?_ h⟩⟩
  have hn:=List.nodup_cons.1 hs.defers.nodup
  obtain⟨X,T,hJ,hX,hT,h2,h1⟩:=hs.gh
  have ndX:=h1 _ (List.mem_cons_self ..) D rfl
  have sw:=G10 (β:=β) (L:=L) (o':=.deferred none) hD (by simp) (by simp) hL
  refine⟨Gc2 hD (by simp) (by simp) hL hs.sat,⟨fun t=>(hs.frame.tmp t).stepW sw⟩,hs.size,⟨fun h=>(by have:=hs.defers.top h; cases this),hn.2,fun d' h0=>?_⟩,by rw [World.putObj_size]; exact hs.old,hs.own,
   ⟨X,T,hE.abide k X T w _ hJ ⟨rfl,rfl,⟨rfl,M1⟩,by rw [World.putObj_size]; exact M1,fun b _ hb=>World.putObj_heap_other fun e=>hb ⟨hE.frW b (by rw [e]; exact hB),by rw [e]; exact ndX⟩⟩ (fun b i _=>G92 hD (by simp) (by simp) b i),fun b hb=>⟨by rw [World.putObj_size]; exact(hX b hb).1,(hX b hb).2⟩,fun b i h=>(sw.stab b i (hT b i h)).1,h2,fun d' h0=>h1 d' (List.mem_cons_of_mem _ h0)⟩,fun b i hn=>hs.vis b i ⟨by have:=hn.lt; rwa [World.putObj_size] at this,hn.seen,hn.kept⟩⟩
  obtain⟨D',rfl,h3,h4,h5⟩:=hs.defers.each d' (List.mem_cons_of_mem _ h0)
  exact⟨D',rfl,h3,(World.putObj_heap_other (fun e=>hn.1 (by rw [← e]; exact h0))).trans h4,h5⟩
theorem Qd3 {g:FuncId} {fn:Func} {c:Code} {caps:List AV} {κ:Type} {gv:Option (Nat×Nat)} {k0:κ} {nx:κ→List AV→κ→Prop} {fi:κ→Prop} (hf:P.funcs[g]? = some fn) (hb:fn.body=some c) (h2:fn.results=#[])
  (h:∀ E:G0b κ,E.Ok P→E.nx=nx∧E.gv=gv→JI E P ⟨fn.ntmps,[],none⟩ c ⟨fun _ _ k=>fi k,fun _ _ k=>fi k,fun _ _ _ _=>False⟩ (Ga9 0 (.sc (.func (.yield E.lp) #[] #[])::caps)) [] k0):Jf1 P g caps gv k0 nx fi:=by
 intro n E lb X0 hE h4 hl h3 h0 hJ
 have h5:(#[Value.func (.yield E.lp) #[] #[]]++lb).size=(AV.sc (.func (.yield E.lp) #[] #[])::caps).length:=by simp [hl]; omega
 refine callsIn_of_wp_marks (F:=Fence.wide) hf hb trivial (Code.wpIn_mono (fun e a' w' q=>?_) (h E hE h4 n _ E.W0 ⟨fun _=>none,fun b i=>¬ E.S b i∧b < E.W0.heap.size⟩ ⟨⟨fun b i h=>h.2,fun id b h=>by simp [lk] at h,fun id b j h=>by simp [lk] at h,fun id id' b h=>by simp [lk] at h,fun id o h=>by simp [lk] at h⟩,⟨fun t=>?_⟩,?_,.nil,M1,fun id b h=>by simp [lk] at h,⟨X0,_,hJ,fun b hb=>⟨h0 b hb,fun i hn=>⟨hn,h0 b hb⟩⟩,fun _ _ h=>h.elim,fun id b h=>by simp [lk] at h,fun d hd=>(M0 hd).elim⟩,fun b i hn=>Classical.byContradiction fun h=>hn.seen ⟨fun h'=>h (.inl h'),hn.lt⟩⟩))
 ·have fin:(∃ β' l' L' k',StI E ⟨fn.ntmps,[],none⟩ a' w' β' l' L' k'∧fi k')→LeavesInM Fence.wide n P fn a'.tmps (fun e w'=>(∃ v',e=.returned v')∧∃ k X T,fi k∧E.J k X T w') a'.defers .returning w':=by
   rintro⟨β',l',L',k',hs,h6⟩
   refine StI.leaves hE (tmps:=a'.tmps) (ds:=a'.defers) hs fun w'' h7=>?_
   obtain⟨X,T,hX,_⟩:=h7.gh
   exact⟨_,results_none h2 _ _ _,⟨_,rfl⟩,k',X,T,h6,hX⟩
  cases e with
  | normal=>exact fin q
  | ret=>exact fin q
  | exit i=>obtain⟨_,_,_,_,_,hq⟩:=q; exact hq.elim
  | goto l=>exact q.elim
  | panic c=>exact q.elim
  | outgrown=>exact q.elim
 ·rw [H90]
  simp only [Nat.zero_le,if_true,Nat.sub_zero]
  cases hu:(AV.sc (.func (.yield E.lp) #[] #[])::caps)[t]? with
  | none=>exact .junk
  | some u=>
   have ht:t < (#[Value.func (.yield E.lp) #[] #[]]++lb).size:=by rw [h5]; exact(Kw hu).1
   have e:((#[Value.func (.yield E.lp) #[] #[]]++lb)++Array.replicate (fn.ntmps - (#[Value.func (.yield E.lp) #[] #[]]++lb).size) undef).getD t undef=(#[Value.func (.yield E.lp) #[] #[]]++lb)[t]:=by
    rw [Array.getD_eq_getD_getElem?,Array.getElem?_append_left ht,Array.getElem?_eq_getElem ht]; rfl
   rw [e]
   cases t with
   | zero=>simp at hu; subst hu; simp; exact .sc
   | succ t=>
    have h1:caps[t]? = some u:=by simpa using hu
    have h8:t < lb.size:=by rw [hl]; exact(Kw h1).1
    have hv:=h3 t u lb[t] h1 (by simp [h8])
    have ev:(#[Value.func (.yield E.lp) #[] #[]]++lb)[t+1]=lb[t]:=by simp
    rw [ev]
    exact .data (hv.mono fun b i hs=>⟨⟨hE.sees b i hs,fun h=>h.1 hs,fun id o h=>by simp [lk] at h⟩,rfl⟩)
 ·simp; omega
theorem R6d {g:FuncId} {fn:Func} {c:Code} {caps:List AV} {ys:List (List AV)} (hf:P.funcs[g]? = some fn) (hb:fn.body=some c) (h0:fn.results=#[])
  (h:∀ E:G0b Nat,E.Ok P→E.nx=J6f ys∧E.gv=none→JI E P ⟨fn.ntmps,[],none⟩ c ⟨fun _ _ k=>k=ys.length,fun _ _ k=>k=ys.length,fun _ _ _ _=>False⟩ (Ga9 0 (.sc (.func (.yield E.lp) #[] #[])::caps)) [] 0):Iter P g caps ys:=Qd3 hf hb h0 h
theorem Rec {g:FuncId} {fn:Func} {c:Code} {caps:List AV} {t kk:Nat} {ys:List (List AV)} (hf:P.funcs[g]? = some fn) (hb:fn.body=some c) (h0:fn.results=#[])
  (h:∀ E:G0b Nat,E.Ok P→E.nx=J6f ys∧E.gv=some (t,kk)→JI E P ⟨fn.ntmps,[],none⟩ c ⟨fun _ _ k=>k=ys.length,fun _ _ k=>k=ys.length,fun _ _ _ _=>False⟩ (Ga9 0 (.sc (.func (.yield E.lp) #[] #[])::caps)) [] 0):Q43 P g caps t kk ys:=Qd3 hf hb h0 h
end ops

section code
variable {κ:Type} {E:G0b κ} {P:Program} {N:Cfg} {Q:G5a κ} {l:Fr} {L:Loc} {k:κ}
theorem H50 {body:Code} {σ:Type} (I:Nat→σ→Prop) (F:Nat→σ→Fr) (M:Nat→σ→Loc) (kf:Nat→σ→κ) (μ:Nat→Nat) (i0:Nat) (s0:σ) (h0:I i0 s0) (hf:Fits N.base l L (F i0 s0) (M i0 s0)) (hk:k=kf i0 s0)
  (hr:∀ i s,I i s→∀ K:Fr→Loc→κ→Prop,(∀ l L i' s' k',I i' s'→μ i' < μ i→Fits N.base l L (F i' s') (M i' s')→k'=kf i' s'→K l L k')→JI E P N body (Q.seq K) (F i s) (M i s) (kf i s)):JI E P N (.loop body) Q l L k:=
 Y20 (fun x:Nat×σ=>I x.1 x.2) (fun x=>F x.1 x.2) (fun x=>M x.1 x.2) (fun x=>kf x.1 x.2) (fun x=>μ x.1) (i0,s0) h0 hf hk
  (fun x hi K hK=>hr x.1 x.2 hi K (fun l L i' s' k' h1 h2 h3 h4=>h4 ▸ hK l L (i',s') h1 h2 h3))
theorem Jed {c:Operand} {x y:Code} (hc:ev l c=.sc (.bool false)) (hf:JI E P N y Q l L k):JI E P N (.cond c x y) Q l L k:=Gd4 hc (fun e=>by cases e) (fun _=>hf)
theorem Y22 {ops:Array Oper} {o:Oper} {rest:List Oper} {T Et k' d kk:Nat} {x:Operand} {xs:List AV} (hE:E.Ok P) (hT:sliceB P T Et k'=true) (hk:xs.length≤maxLen→JIL E P N ops rest Q ((d,I64 (xs.length:Int))::l) L k) (ho:o.op=.call { callee:=.builtin .len,args:=#[x],argTypes:=#[T] }) (hx:Q0 (ev l x)=some (kk,xs))
  (hg:o.guard=none) (hd:o.dst=some d) (hn:Nat.blt d N.n=true):JIL E P N ops (o::rest) Q l L k:=by
 intro n a w β hs
 obtain⟨ao,cap,h1,h2,h3⟩:=((hs.frame.ev x).Q0 hx).len
 exact Hx hE (Rf9 hT ho hx) (hk (Nat.le_trans h2 h3)) hg hd hn (by unfold Zn; rw [ho]) n a w β hs
theorem H51 {ops:Array Oper} {o:Oper} {rest:List Oper} {x:Operand} {T Et kk k' d:Nat} {α:Type} {f:α→AV} {xs:List α} (hE:E.Ok P) (hT:sliceB P T Et k'=true) (ho:o.op=.call { callee:=.builtin .len,args:=#[x],argTypes:=#[T] }) (hx:Q0 (ev l x)=some (kk,xs.map f))
  (hk:xs.length≤maxLen→JIL E P N ops rest Q ((d,I64 (xs.length:Int))::l) L k) (hg:o.guard=none) (hd:o.dst=some d) (hn:Nat.blt d N.n=true):JIL E P N ops (o::rest) Q l L k:=
 Y22 hE hT (fun hm=>by simp only [Mc] at hm ⊢; exact hk hm) ho hx hg hd hn
theorem J8e {E:G0b Nat} {k:Nat} {α:Type} [DecidableEq α] {f:α→List AV} {ys:List α} {x:α} {gv:Option (Nat×Nat)} (h0:E.nx=J6f (ys.map f)∧E.gv=gv) (h:decide (ys[k]? = some x)=true):E.nx k (f x) (k+1)∧E.gv=gv:=by
 rw [h0.1]; exact⟨⟨by rw [M5,Ks h]; rfl,rfl⟩,h0.2⟩
theorem J83 {k:Nat} {α:Type} {f:α→List AV} {ys:List α} (h:decide (k=ys.length)=true):k=(ys.map f).length:=by
 rw [Mc]; exact Ks h
theorem R5d {α β:Type} {f:α→β} {ys:List α} {k:Nat} {u:β} (h:(ys.map f)[k]? = some u):∃ hk:k < ys.length,u=f ys[k]:=by
 rw [M5] at h
 cases hy:ys[k]? with
 | none=>rw [hy] at h; cases h
 | some y=>
  rw [hy] at h
  obtain⟨hk,e⟩:=Kw hy
  exact⟨hk,by rw [e]; exact(Ky h).symm⟩
end code
section frz
variable {κ:Type} {E:G0b κ} {P:Program} {N:Cfg} {Q:G5a κ} {l l':Fr} {L L':Loc} {k:κ}
theorem StI.freeze {a:Act} {w:World} {β:Gu} (hs:StI E N a w β l L k) (i:Nat) {t:TypeId} {cs:List AV} (hi:lk L i=some (.box t cs)) (hd:Qn (fun _=>false) cs=true)
  (h2:lk L' i=none) (hl:G53 (fun j=>(lk L' j).isSome) L L') (hb:allIn L' N.base=true) (hf:Q13 i cs (fun j=>(lk L' j).isSome) l l'):StI E N a w β l' L' k:=by
 have h0:Fits N.base l L [] L':=⟨trivial,hl,hb⟩
 have h1:=hs.fits h0
 refine⟨h1.sat,⟨fun t'=>?_⟩,h1.size,h1.defers,h1.old,h1.own,h1.gh,h1.vis⟩
 have hv:=hs.frame.tmp t'
 generalize hu:look l t'=u at hv
 have hz:=hf.get t'
 rw [hu] at hz
 generalize look l' t'=u' at hz
 cases hz with
 | conv hc=>exact hv.conv h0.drop hc
 | ptr=>exact hv.freeze hs.sat hi hd h0.drop h2
theorem StI.vfreeze {a:Act} {w:World} {β:Gu} (hs:StI E N a w β l L k) (i:Nat) {t ver kk:Nat} {xs:List AV} (hi:lk L i=some (.vec t kk ver xs))
  (h2:lk L' i=none) (hl:G53 (fun j=>(lk L' j).isSome) L L') (hb:allIn L' N.base=true) (hf:Hd2 i ver kk xs (fun j=>(lk L' j).isSome) l l'):StI E N a w β l' L' k:=by
 have h0:Fits N.base l L [] L':=⟨trivial,hl,hb⟩
 have h1:=hs.fits h0
 refine⟨h1.sat,⟨fun t'=>?_⟩,h1.size,h1.defers,h1.old,h1.own,h1.gh,h1.vis⟩
 have hv:=hs.frame.tmp t'
 generalize hu:look l t'=u at hv
 have hz:=hf.get t'
 rw [hu] at hz
 generalize look l' t'=u' at hz
 cases hz with
 | conv hc=>exact hv.conv h0.drop hc
 | vec=>exact hv.vfreeze hs.sat hi h0.drop h2
theorem Q41 {c:Code} (l':Fr) (L':Loc) (i:Nat) {t:TypeId} {cs:List AV} (hi:lk L i=some (.box t cs)) (hd:Qn (fun _=>false) cs=true)
  (h0:lk L' i=none) (hl:G53 (fun j=>(lk L' j).isSome) L L') (hb:allIn L' N.base=true) (hf:Q13 i cs (fun j=>(lk L' j).isSome) l l') (hk:JI E P N c Q l' L' k):JI E P N c Q l L k:=
 fun n a w β hs=>hk n a w β (hs.freeze i hi hd h0 hl hb hf)
theorem R45 {c:Code} (l':Fr) (L':Loc) (i:Nat) {t ver kk:Nat} {xs:List AV} (hi:lk L i=some (.vec t kk ver xs)) (h0:lk L' i=none) (hl:G53 (fun j=>(lk L' j).isSome) L L') (hb:allIn L' N.base=true)
  (hf:Hd2 i ver kk xs (fun j=>(lk L' j).isSome) l l') (hk:JI E P N c Q l' L' k):JI E P N c Q l L k:=fun n a w β hs=>hk n a w β (hs.vfreeze i hi h0 hl hb hf)
end frz
end Go.Proofs.YtibhpogonkdiaaaGreat
