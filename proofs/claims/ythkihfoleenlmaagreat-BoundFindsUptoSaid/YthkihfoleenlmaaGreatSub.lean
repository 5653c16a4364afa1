/- Parts of slices that the call may write in place: -/
import Derived.Test.YthkihfoleenlmaaGreatDraw2
namespace Go.Proofs.YthkihfoleenlmaaGreat
open Go.RowKit

theorem zI {w:World} {β:Gx} {L:Loc} {i t k ver b off:Nat} {xs zs:List AV} {vs:Array Value} {cs:List Value} (h0:Sat w β L) (hi:lk L i=some (.vec t k ver xs)) (hb:β.at_ i=some b) (q2:w.heap[b]? = some (.cells vs t (0,0)))
  (hz:∀ z∈zs,z.cells.length=k) (h1:cs.length=zs.length*k) (h7:off+zs.length≤xs.length) (hD:∀ (j:Nat) u x,(flat zs)[j]? = some u→cs[j]? = some x→D w (Jc w β L) u x) :
  Step w β L (w.setRow b (vs.toList.take (off*k)++cs++vs.toList.drop (off*k+cs.length)).toArray) (upP β i (β.at_ i)) ((i,.vec t k ver (xs.take off++zs++xs.drop (off+zs.length)))::L) ∧
  Sat (w.setRow b (vs.toList.take (off*k)++cs++vs.toList.drop (off*k+cs.length)).toArray) (upP β i (β.at_ i)) ((i,.vec t k ver (xs.take off++zs++xs.drop (off+zs.length)))::L):=by
 obtain⟨q1,vs',q2',q3,q4⟩:=kL h0 hi hb
 rw [q2] at q2'; cases q2'
 have a1:off*k+zs.length*k≤xs.length*k:=by rw [← Nat.add_mul]; exact Nat.mul_le_mul_right _ h7
 have h5:=setRow_heap w b vs (vs.toList.take (off*k)++cs++vs.toList.drop (off*k+cs.length)).toArray t (0,0) q2
 have h2:(vs.toList.take (off*k)++cs++vs.toList.drop (off*k+cs.length)).toArray.size=vs.size:=by
  simp; omega
 have a2:(flat xs).length=xs.length*k:=J3 q1
 have h3:(flat zs).length=zs.length*k:=J3 hz
 have h4:(xs.take off++zs++xs.drop (off+zs.length)).length=xs.length:=by simp; omega
 have h8:∀ y∈xs.take off++zs++xs.drop (off+zs.length),y.cells.length=k:=fun y hy=>by
  simp only [Pa] at hy
  rcases hy with (h | h) | h
  ·exact q1 y (List.mem_of_mem_take h)
  ·exact hz y h
  ·exact q1 y (List.mem_of_mem_drop h)
 obtain⟨st,sat⟩:=Ys (w':=w.setRow b (vs.toList.take (off*k)++cs++vs.toList.drop (off*k+cs.length)).toArray) (t:=t) (k:=k) (ver1:=ver) (xs':=xs.take off++zs++xs.drop (off+zs.length)) (ob':=β.at_ i) h0
  (.inr ⟨ver,xs,hi,Ny,fun _=>⟨h4,rfl,fun b' h6=>by
   rw [hb] at h6; cases h6
   rw [World.shape?,h5,World.shape?,q2]; simp only [h2]⟩⟩) rfl rfl ⟨rfl,Ny⟩ (by simp)
  (fun b' _ h9=>setRow_other w b b' _ (fun e=>h9 (by rw [inL,hi]; rfl) (by rw [hb,e])))
  (.inr (.inl ⟨by rw [inL,hi]; rfl,rfl⟩))
 refine⟨st,sat ⟨h8,.inr ⟨b,hb,_,h5,by rw [h2,h4]; exact q3,fun j u v hu hv=>?_⟩⟩⟩
 rw [cP,cP,eU q1,vE q1] at hu
 simp only [List.getElem?_toArray] at hv
 have old:∀ j',(flat xs)[j']? = some u→vs[j']? = some v→D _ _ u v:=fun j' a b=>(q4 j' u v a b).mono st.stab
 have e1:(off+zs.length)*k=off*k+zs.length*k:=Nat.add_mul _ _ _
 rw [e1] at hu
 have lu:(List.take (off*k) (flat xs)).length=off*k:=by simp; omega
 have lv:(List.take (off*k) vs.toList).length=off*k:=by simp; omega
 rcases Nm j (off*k) with hj | hj
 ·rw [List.append_assoc,P0 (by omega),P3,if_pos hj] at hu
  rw [List.append_assoc,P0 (by omega),P3,if_pos hj] at hv
  exact old j hu (by simpa using hv)
 rcases Nm j (off*k+zs.length*k) with a0 | a0
 ·rw [P0 (by rw [P5,lu,h3]; omega),Nz (by omega),lu] at hu
  rw [P0 (by rw [P5,lv,h1]; omega),Nz (by omega),lv] at hv
  exact(hD _ u v hu hv).mono st.stab
 ·rw [Nz (by rw [P5,lu,h3]; omega),P5,lu,h3,P4] at hu
  rw [Nz (by rw [P5,lv,h1]; omega),P5,lv,h1,P4] at hv
  rw [show off*k+zs.length*k+(j - (off*k+zs.length*k))=j by omega] at hu hv
  exact old j hu (by simpa using hv)

def YU (w:World) (S:Nat→Nat→Prop) (k:Nat) (ys:List AV) (v:Value):Prop:=
 (∀ y∈ys,y.cells.length=k)∧∃ (a:Option Addr) (cap:Nat) (cs:List Value),v=.slice a ys.length cap∧(a=none→ys=[])∧cs.length=ys.length*k∧(∀ (ad:Addr) (j:Nat) u,a=some ad→cs[j]? = some u→w.cell? (ad.add j)=some u) ∧
  ∀ (j:Nat) u x,(flat ys)[j]? = some u→cs[j]? = some x→D w S u x

theorem V.inv_vsl {w:World} {β:Gx} {L:Loc} {i ver k k' off n t:Nat} {xs:List AV} {x:Value} (hi:lk L i=some (.vec t k' ver xs)) (h:V w β L (.vsl i ver k off n) x):k=k'∧off+n≤xs.length∧YT (β.at_ i) k off n x:=by
 cases h with
 | data h=>cases h
 | vsl hp _=>
  obtain⟨t',ver',xs',h1,_,h3⟩:=hp
  rw [hi] at h1; cases h1
  exact⟨rfl,(h3 rfl).1,(h3 rfl).2.1⟩
theorem xH {w:World} {β:Gx} {L:Loc} {i ver k t n:Nat} {xs:List AV} {x:Value} (h0:Sat w β L) (hi:lk L i=some (.vec t k ver xs)) (hv:V w β L (.vec i ver k n) x):n=xs.length∧YT (β.at_ i) k 0 n x:=by
 obtain⟨rfl,_,h⟩:=eW h0 hi hv
 refine⟨rfl,?_⟩
 rcases h with ⟨rfl,rfl,_⟩ | ⟨b,cap,vs,rfl,h1,h2,h3,_⟩
 ·exact⟨none,0,rfl,Ny,Nat.zero_le _,.inl rfl⟩
 ·exact⟨_,cap,rfl,h2,h3,.inr ⟨b,h1,by rw [Nat.zero_mul]⟩⟩

theorem RZ {w:World} {β:Gx} {L:Loc} {i ver k t off n:Nat} {xs:List AV} {x:Value} (h4:Sat w β L) (hi:lk L i=some (.vec t k ver xs)) (hn:off+n≤xs.length) (h:YT (β.at_ i) k off n x):YU w (Jc w β L) k ((xs.drop off).take n) x:=by
 obtain⟨o1,o2⟩:=h4.obj i _ hi
 have hk:∀ y∈(xs.drop off).take n,y.cells.length=k:=fun y hy=>o1 y (List.mem_of_mem_drop (List.mem_of_mem_take hy))
 have hl:((xs.drop off).take n).length=n:=by simp; omega
 refine⟨hk,?_⟩
 obtain⟨a,cap,rfl,h1,h2,h3⟩:=h
 rw [hl]
 by_cases h0:n=0
 ·subst h0
  exact⟨a,cap,[],rfl,fun _=>by simp,by simp,fun ad j u _ hu=>by simp at hu,fun j u x _ hx=>by simp at hx⟩
 ·rcases h3 with h3 | ⟨b,hb,rfl⟩
  ·exact absurd h3 h0
  ·obtain⟨q1,vs,q2,q3,q4⟩:=kL h4 hi hb
   have hm:off*k+n*k≤xs.length*k:=by rw [← Nat.add_mul]; exact Nat.mul_le_mul_right _ hn
   refine⟨_,cap,(vs.toList.drop (off*k)).take (n*k),rfl,(fun e=>by cases e),by simp; omega,fun ad j u e hu=>?_,fun j u x hu hx=>?_⟩
   ·cases e
    have hj:=(Nt hu).1
    rw [List.length_take] at hj
    rw [P3,if_pos (by omega),P4] at hu
    rw [Addr.add_lit]
    simp [World.cell?,q2]
    simpa using hu
   ·have hj:=(Nt hx).1
    rw [List.length_take] at hj
    rw [P3,if_pos (by omega),P4] at hx
    have h5:∀ y∈xs.drop off,y.cells.length=k:=fun y hy=>o1 y (List.mem_of_mem_drop hy)
    rw [eU h5,vE o1,P3,if_pos (by omega),P4] at hu
    exact q4 _ u x hu (by simpa using hx)

theorem H2f {w:World} {S:Nat→Nat→Prop} {k k':Nat} {ys:List AV} {x:Value} (h:D w S (.list k' ys) x) (hk:k'=k∨ys=[]):YU w S k ys x:=by
 obtain⟨ao,cap,rfl,_⟩:=h.len
 obtain⟨_,h1,h2,cs,h3,h4,h5⟩:=h.vals
 have h0:∀ y∈ys,y.cells.length=k:=by
  rcases hk with rfl | rfl
  ·exact h1
  ·simp
 refine⟨h0,ao,cap,cs,rfl,fun e=>Ni (h2 e),h3.trans (J3 h0),h4,fun j u x hu hx=>?_⟩
 obtain⟨x',h6,hd⟩:=h5 j u hu
 rw [hx] at h6; cases h6
 exact hd

def uM (L:Loc) (k:Nat) (s:AV) (ys:List AV):Prop:=
 (∃ kx,Jt s=some (kx,ys)∧(kx=k∨ys=[]))∨(∃ i ver n t,s=.vec i ver k n∧lk L i=some (.vec t k ver ys))∨(∃ i ver off n t zs,s=.vsl i ver k off n∧lk L i=some (.vec t k ver zs)∧ys=(zs.drop off).take n)
theorem uM.reads {w:World} {β:Gx} {L:Loc} {k:Nat} {s:AV} {ys:List AV} {x:Value} (h0:Sat w β L) (h:uM L k s ys) (hv:V w β L s x):YU w (Jc w β L) k ys x:=by
 rcases h with ⟨kx,h1,h2⟩ | ⟨i,ver,n,t,rfl,hi⟩ | ⟨i,ver,off,n,t,zs,rfl,hi,rfl⟩
 ·exact H2f (hv.Jt h1) h2
 ·obtain⟨rfl,h⟩:=xH h0 hi hv
  have:=RZ h0 hi (by simp) h
  simpa using this
 ·obtain⟨_,h1,h2⟩:=hv.inv_vsl hi
  exact RZ h0 hi h1 h2
def Ge0 (L:Loc) (k:Nat) (s:AV) (i ver off n t:Nat) (xs:List AV):Prop:=
 lk L i=some (.vec t k ver xs)∧((s=.vec i ver k n∧off=0)∨s=.vsl i ver k off n)
theorem Ge0.out {w:World} {β:Gx} {L:Loc} {k i ver off n t:Nat} {s:AV} {xs:List AV} {x:Value} (h0:Sat w β L) (h:Ge0 L k s i ver off n t xs) (hv:V w β L s x):off+n≤xs.length∧YT (β.at_ i) k off n x:=by
 obtain⟨hi,⟨rfl,rfl⟩ | rfl⟩:=h
 ·obtain⟨rfl,h⟩:=xH h0 hi hv
  exact⟨by simp,h⟩
 ·exact(hv.inv_vsl hi).2

section ops
variable {P:Program} {N:Cfg} {o:Oper} {l:Fr} {L L':Loc} {u:AV} {α:Type}

theorem Hdf {x:Operand} {T E k i ver n lo hi:Nat} {lop h4:Option Operand} {xs:List AV} (ho:o.op=.slice T x lop h4 none) (hT:sliceB P T E k=true) (hx:ev l x=.vec i ver k n) (hL:lk L i=some (.vec E k ver xs))
  (h7:(lop=none∧lo=0)∨∃ kd p,lop=some p∧ev l p=.sc (.int kd lo)) (h8:(h4=none∧hi=xs.length)∨∃ kd p,h4=some p∧ev l p=.sc (.int kd hi)) (h1:lo≤hi) (h2:hi≤xs.length) :
  Gv P o l L (Is (.vsl i ver k lo (hi - lo)) L):=
 Hb fun a w β h5 hf=>by
  have hv:=hf.ev x
  rw [hx] at hv
  obtain⟨rfl,a',cap,he,h9,a0,h6⟩:=xH h5 hL hv
  refine⟨.slice (if cap=lo then a' else a'.map (·.add (lo*k))) (hi - lo) (cap - lo),?_,.vsl ⟨E,ver,xs,hL,Ny,fun _=>⟨by omega,⟨_,_,rfl,by omega,by omega,?_⟩,fun h0=>?_⟩⟩ rfl⟩
  ·simp only [execOp,ho,he,Sem.run_bind,Option.map_none]
   rw [mW hT a' xs.length cap lo hi _ _ w h1 h2 h9]
   ·rfl
   ·rcases h7 with ⟨rfl,rfl⟩ | ⟨kd,p,rfl,hp⟩
    ·exact .inl ⟨rfl,rfl⟩
    ·refine .inr ⟨kd,?_⟩
     have:=hf.ev p; rw [hp] at this
     simp [this.inv_sc]
   ·rcases h8 with ⟨rfl,rfl⟩ | ⟨kd,p,rfl,hp⟩
    ·exact .inl ⟨rfl,rfl⟩
    ·refine .inr ⟨kd,?_⟩
     have:=hf.ev p; rw [hp] at this
     simp [this.inv_sc]
  ·by_cases h0:hi - lo=0
   ·exact .inl h0
   ·right
    rcases h6 with h6 | ⟨b,hb,rfl⟩
    ·omega
    ·refine⟨b,hb,?_⟩
     rw [if_neg (by omega)]
     simp [Addr.add_lit]
  ·subst h0
   obtain⟨_,_,hc⟩:=eW h5 hL hv
   rcases hc with ⟨e1,e2,e3⟩ | ⟨b,cap',vs,e1,e2,e3,e4,e5,e6,_⟩
   ·rw [he] at e1
    injection e1 with f1 f2 f3
    subst f1
    subst f3
    subst e2
    have h3:hi=0:=by simpa using h2
    subst h3
    exact .inl ⟨rfl,rfl,e3⟩
   ·rw [he] at e1
    injection e1 with f1 f2 f3
    subst f1
    subst f3
    refine .inr ⟨b,cap,?_,e2,by omega,e4,by simp [World.shape?,e5,e6]⟩
    split <;> simp [Addr.add_lit]

theorem H7e {T E k:Nat} (hT:sliceB P T E k=true) {T2 ty:Nat} (w:World) (a s:Option Addr) (n cap m cap2:Nat) (cs:List Value) (hs:s=none→m=0) (h4:cs.length=min m n*k) (h5:∀ (ad:Addr) (j:Nat) u,s=some ad→cs[j]? = some u→w.cell? (ad.add j)=some u) :
  (Builtin.copy_ #[T,T2] ty #[.slice a n cap,.slice s m cap2]).run P w=(match a with | some ad=>((storeCells ad cs).run P w).andThen fun _ w=>.ok (goInt ((min m n:Nat):Int)) w | none=>.ok (goInt ((min m n:Nat):Int)) w):=by
 obtain⟨h1,h2⟩:=sliceB.out hT
 have h3:=Q2 h2 w
 have h0:Nat.min m n=min m n:=rfl
 cases s with
 | none=>
  have hm:=hs rfl
  subst hm
  have:cs=[]:=Ni (by rw [h4]; simp)
  subst this
  cases a <;> simp [Builtin.copy_,run_underlying h1,Builtin.lenOf,Builtin.firstCells,h3,h0,storeCells,Result.andThen]
 | some ad=>
  have hl:=run_loadCells_list (P:=P) w ad cs (fun j v h=>h5 ad j v rfl h)
  rw [h4] at hl
  cases a with
  | none=>simp [Builtin.copy_,run_underlying h1,Builtin.lenOf,Builtin.firstCells,h3,h0,hl]
  | some a2=>
   simp [Builtin.copy_,run_underlying h1,Builtin.lenOf,Builtin.firstCells,h3,h0,hl]

theorem Heb {d x:Operand} {T T2 E k i ver off n:Nat} {xs ys:List AV} (ho:o.op=.call { callee:=.builtin .copy,args:=#[d,x],argTypes:=#[T,T2] }) (hT:sliceB P T E k=true) (hd:Ge0 L k (ev l d) i ver off n E xs) (hs:uM L k (ev l x) ys) (hc:∀ y∈ys.take (min ys.length n),y.flatOk=true) :
  Gv P o l L (Is (I64 ((min ys.length n:Nat):Int)) ((i,.vec E k ver (xs.take off++ys.take (min ys.length n)++xs.drop (off+min ys.length n)))::L)):=by
 intro a w β K Q h1 hf hK
 have hi:=hd.1
 obtain⟨b3,ad,cap,a4,b5,b6,h8⟩:=hd.out h1 (hf.ev d)
 obtain⟨h4,asx,cap2,cs,a5,a6,a7,h6,a8⟩:=hs.reads h1 (hf.ev x)
 have b7:(flat ys).length=ys.length*k:=J3 h4
 have b8:min ys.length n*k≤ys.length*k:=Nat.mul_le_mul_right _ (Nat.min_le_left _ _)
 have h2:(cs.take (min ys.length n*k)).length=min ys.length n*k:=by rw [List.length_take,a7]; omega
 have hr:=H7e (P:=P) hT (T2:=T2) (ty:=o.type) w ad asx n cap ys.length cap2 (cs.take (min ys.length n*k)) (fun e=>by rw [a6 e]; rfl) h2 (fun ad' j u e hu=>by
  have hj:=(Nt hu).1
  rw [P3,if_pos (by omega)] at hu
  exact h6 ad' j u e hu)
 have a9:(execOp a.eval o).run P w=((Builtin.copy_ #[T,T2] o.type #[.slice ad n cap,.slice asx ys.length cap2]).run P w).andThen fun v w=>.ok (.value v) w:=by
  simp [execOp,ho,resolve,invoke,builtin,a4,a5]
  try rfl
 have h5:∀ y∈ys.take (min ys.length n),y.cells.length=k:=fun y hy=>h4 y (List.mem_of_mem_take hy)
 have h3:(ys.take (min ys.length n)).length=min ys.length n:=by rw [List.length_take]; omega
 unfold Oper.wp
 rw [a9,hr]
 by_cases h0:min ys.length n=0
 ·-- nothing is written
  have a3:cs.take (min ys.length n*k)=[]:=Ni (by rw [h2,h0,Nat.zero_mul])
  rw [a3]
  have b0:(match ad with | some a2=>((storeCells a2 []).run P w).andThen fun _ w=>Result.ok (goInt ((min ys.length n:Nat):Int)) w | none=>Result.ok (goInt ((min ys.length n:Nat):Int)) w)=Result.ok (goInt ((min ys.length n:Nat):Int)) w:=by
   cases ad <;> simp [storeCells,Result.andThen]
  rw [b0]
  have b1:xs.take off++ys.take (min ys.length n)++xs.drop (off+min ys.length n)=xs:=by rw [h0]; simp
  rw [b1] at hK
  have hq:jA L ((i,Jn.vec E k ver xs)::L):=fun id=>by
   rw [Gf]
   by_cases e:i=id
   ·subst e; rw [if_pos rfl,hi]
   ·rw [if_neg e]
  exact hK _ _ _ w β ⟨rfl,rfl⟩ (h1.locEq hq) ((Step.refl w β L).locEq hq) .sc
 ·rcases h8 with h8 | ⟨b,hb,rfl⟩
  ·omega
  ·obtain⟨q1,vs,q2,q3,q4⟩:=kL h1 hi hb
   have h7:off+(ys.take (min ys.length n)).length≤xs.length:=by rw [h3]; omega
   have b4:off*k+min ys.length n*k≤xs.length*k:=by rw [← Nat.add_mul]; exact Nat.mul_le_mul_right _ (by omega)
   have h9:∀ (j:Nat) u x,(flat (ys.take (min ys.length n)))[j]? = some u→(cs.take (min ys.length n*k))[j]? = some x→D w (Jc w β L) u x:=fun j u x hu hx=>by
    have hj:=(Nt hx).1
    rw [h2] at hj
    rw [P3,if_pos hj] at hx
    rw [eU h4,P3,if_pos hj] at hu
    exact a8 j u x hu hx
   have b2:∀ v∈cs.take (min ys.length n*k),v.oneCell'=true:=fun v hv=>by
    obtain⟨j,hj⟩:=List.mem_iff_getElem?.1 hv
    have a0:=(Nt hj).1
    rw [h2] at a0
    have hu:(flat (ys.take (min ys.length n)))[j]? = some ((flat (ys.take (min ys.length n)))[j]'(by rw [J3 h5,h3]; exact a0)):=Nu _
    exact(V.data (h9 j _ v hu hj)).cell (iN hc (Nw hu))
   have a1:=run_storeCells_at P b (off*k) E (cs.take (min ys.length n*k)) 0 vs w q2 (by rw [h2]; omega) b2
   simp only [Nat.add_zero] at a1
   simp only [a1,Result.andThen]
   obtain⟨st,sat⟩:=zI (off:=off) (zs:=ys.take (min ys.length n)) (cs:=cs.take (min ys.length n*k)) h1 hi hb q2 h5 (by rw [h2,h3]) h7 h9
   rw [h3] at st sat
   exact hK _ _ _ _ _ ⟨rfl,rfl⟩ sat st .sc
theorem rF (z:Array Value) (n j:Nat) (hj:j < n*z.size):(Builtin.zeroCells z n).toList[j]? = some z[j % z.size]! := by
 simp [Builtin.zeroCells,hj]

theorem J40 {d:Operand} {T E k i ver off n:Nat} {xs:List AV} {y:AV} {zs:List Value} (ho:o.op=.call { callee:=.builtin .clear,args:=#[d],argTypes:=#[T] }) (hT:sliceB P T E k=true) (hd:Ge0 L k (ev l d) i ver off n E xs)
  (hz:(P.info? E).bind (fun i=>i.zero.map Value.cells)=some zs.toArray) (h3:zs.length=k) (a4:Nat.blt 0 k=true) (h1:zs.all Value.oneCell'=true) (hy:y.cells.length=k) (hD:∀ (w:World) (S:Nat→Nat→Prop) (j:Nat) u v,y.cells[j]? = some u→zs[j]? = some v→D w S u v) :
  Gv P o l L (Is (.tup []) ((i,.vec E k ver (xs.take off++List.replicate n y++xs.drop (off+n)))::L)):=by
 intro a w β K Q h2 hf hK
 have hi:=hd.1
 have h7:0 < k:=by simpa [Nat.blt_eq] using a4
 obtain⟨h8,ad,cap,h4,a9,b0,a0⟩:=hd.out h2 (hf.ev d)
 obtain⟨t1,t2⟩:=sliceB.out hT
 by_cases h0:n=0
 ·subst h0
  have h9:(execOp a.eval o).run P w=.ok (.value (.tuple #[])) w:=by
   cases ad <;> simp [execOp,ho,resolve,invoke,builtin,h4,Builtin.clear_,run_underlying t1]
  unfold Oper.wp
  rw [h9]
  have a5:xs.take off++List.replicate 0 y++xs.drop (off+0)=xs:=by simp
  rw [a5] at hK
  have hq:jA L ((i,Jn.vec E k ver xs)::L):=fun id=>by
   rw [Gf]
   by_cases e:i=id
   ·subst e; rw [if_pos rfl,hi]
   ·rw [if_neg e]
  exact hK _ _ _ w β ⟨rfl,rfl⟩ (h2.locEq hq) ((Step.refl w β L).locEq hq) (.tup rfl (fun j u v hu=>by simp at hu))
 ·rcases a0 with a0 | ⟨b,hb,rfl⟩
  ·omega
  ·obtain⟨q1,vs,q2,q3,q4⟩:=kL h2 hi hb
   have h5:zs.toArray.size=k:=by simpa using h3
   have h6:(Builtin.zeroCells zs.toArray n).toList.length=n*k:=by simp [Builtin.zeroCells,h3]
   have a8:off*k+n*k≤xs.length*k:=by rw [← Nat.add_mul]; exact Nat.mul_le_mul_right _ h8
   have a1:∀ z∈List.replicate n y,z.cells.length=k:=fun z hz=>by rw [List.eq_of_mem_replicate hz]; exact hy
   have a6:∀ (j:Nat) u x,(flat (List.replicate n y))[j]? = some u→(Builtin.zeroCells zs.toArray n).toList[j]? = some x→D w (Jc w β L) u x:=fun j u x hu hx=>by
    have hj:=(Nt hx).1
    rw [h6] at hj
    rw [rF _ _ _ (by rw [h5]; exact hj),h5] at hx
    have hm:j % k < k:=Nat.mod_lt _ h7
    have h4:j / k < n:=(Nat.div_lt_iff_lt_mul h7).2 hj
    have e:j=(j / k)*k+j % k:=by rw [Nat.mul_comm]; exact(Nat.div_add_mod j k).symm
    rw [e,gI a1 (y:=y) (by rw [List.getElem?_replicate,if_pos h4]) hm] at hu
    refine hD w _ (j % k) u x hu ?_
    rw [← hx]
    simp [h3,hm]
   have a7:∀ v∈(Builtin.zeroCells zs.toArray n).toList,v.oneCell'=true:=fun v hv=>by
    obtain⟨j,hj⟩:=List.mem_iff_getElem?.1 hv
    have a2:=(Nt hj).1
    rw [h6] at a2
    rw [rF _ _ _ (by rw [h5]; exact a2),h5] at hj
    have hm:j % k < zs.length:=by rw [h3]; exact Nat.mod_lt _ h7
    cases hj
    have:zs.toArray[j % k]! = zs[j % k]:=by simp [hm]
    rw [this]
    exact List.all_eq_true.1 h1 _ (List.getElem_mem hm)
   have a3:=run_storeCells_at P b (off*k) E (Builtin.zeroCells zs.toArray n).toList 0 vs w q2 (by rw [h6]; omega) a7
   obtain⟨inf,e1,e2⟩:=Option.bind_eq_some_iff.1 hz
   obtain⟨z,e3,e4⟩:=Option.map_eq_some_iff.1 e2
   simp only [Nat.add_zero] at a3
   have h9:(execOp a.eval o).run P w=.ok (.value (.tuple #[])) (w.setRow b (vs.toList.take (off*k)++(Builtin.zeroCells zs.toArray n).toList++vs.toList.drop (off*k+(Builtin.zeroCells zs.toArray n).toList.length)).toArray):=by
    obtain⟨m,rfl⟩:∃ m,n=m+1:=⟨n - 1,by omega⟩
    simp only [execOp,ho,resolve,invoke,builtin,Sem.run_bind,List.map_toArray,List.map_cons,List.map_nil,h4]
    simp [Builtin.clear_,run_underlying t1,zeroValue,typeInfo,e1,e3,e4,a3]
   unfold Oper.wp
   rw [h9]
   obtain⟨st,sat⟩:=zI (off:=off) (zs:=List.replicate n y) (cs:=(Builtin.zeroCells zs.toArray n).toList) h2 hi hb q2 a1 (by rw [h6,List.length_replicate]) (by simpa using h8) a6
   rw [List.length_replicate] at st sat
   exact hK _ _ _ _ _ ⟨rfl,rfl⟩ sat st (.tup rfl (fun j u v hu=>by simp at hu))
theorem J37 {x p:Operand} {T E k i ver n hi:Nat} {kd:IntKind} {z:Int} {xs:List AV} (ho:o.op=.slice T x none (some p) none) (hT:sliceB P T E k=true) (hx:ev l x=.vec i ver k n) (hp:ev l p=.sc (.int kd z)) (hL:lk L i=some (.vec E k ver xs)) (hz:z=(hi:Int)) (h2:hi≤xs.length) :
  Gv P o l L (Is (.vec i (ver+1) k hi) ((i,.vec E k (ver+1) (xs.take hi))::L)):=by
 subst hz
 intro a w β K Q h0 hf hK
 have hv:=hf.ev x
 rw [hx] at hv
 have h4:=hf.ev p
 rw [hp] at h4
 obtain⟨rfl,q1,h⟩:=eW h0 hL hv
 have h5:(xs.take hi).length=hi:=by rw [List.length_take]; omega
 have hk:∀ y∈xs.take hi,y.cells.length=k:=fun y hy=>q1 y (List.mem_of_mem_take hy)
 obtain⟨st,sat⟩:=Ys (w':=w) (t:=E) (k:=k) (ver1:=ver+1) (xs':=xs.take hi) (ob':=β.at_ i) h0 (.inr ⟨ver,xs,hL,by omega,fun e=>by omega⟩) rfl rfl ⟨rfl,Ny⟩ (Ny) (fun _ _ _=>rfl) (.inr (.inl ⟨by rw [inL,hL]; rfl,rfl⟩))
 have h6:lk ((i,Jn.vec E k (ver+1) (xs.take hi))::L) i=some (.vec E k (ver+1) (xs.take hi)):=by rw [Gf,if_pos rfl]
 unfold Oper.wp
 rcases h with ⟨h1,h3,hb⟩ | ⟨b,cap,vs,h1,hb,c1,c2,c3,c4,c5⟩
 ·subst h3
  have:hi=0:=by simpa using h2
  subst this
  have hr:(execOp a.eval o).run P w=.ok (.value (.slice none 0 0)) w:=by
   simp only [execOp,ho,h1,Sem.run_bind,Option.map_none,Option.map_some,h4.inv_sc]
   rw [mW hT none 0 0 0 0 _ _ w (Ny) (Ny) (Ny) (.inl ⟨rfl,rfl⟩) (.inr ⟨kd,rfl⟩)]
   rfl
  rw [hr]
  exact hK _ _ _ _ _ ⟨rfl,rfl⟩ (sat ⟨hk,.inl ⟨hb,by simp⟩⟩) st (.vec ⟨E,ver+1,_,h6,Ny,fun _=>⟨by simp,.inl ⟨rfl,rfl,by simp [upP,hb]⟩⟩⟩ rfl)
 ·have hr:(execOp a.eval o).run P w=.ok (.value (.slice (some ⟨b,0,none⟩) hi cap)) w:=by
   simp only [execOp,ho,h1,Sem.run_bind,Option.map_none,Option.map_some,h4.inv_sc]
   rw [mW hT (some ⟨b,0,none⟩) xs.length cap 0 hi _ _ w (Nat.zero_le _) h2 c1 (.inl ⟨rfl,rfl⟩) (.inr ⟨kd,rfl⟩)]
   simp [Addr.add_lit]
  rw [hr]
  refine hK _ _ _ _ _ ⟨rfl,rfl⟩ (sat ⟨hk,.inr ⟨b,hb,vs,c3,by rw [h5,c4]; exact Nat.mul_le_mul_right _ (by omega),fun j u v hu hv=>?_⟩⟩) st (.vec ⟨E,ver+1,_,h6,Ny,fun _=>⟨h5.symm,.inr ⟨b,cap,rfl,by simp [upP,hb],by omega,c2,by simp [World.shape?,c3,c4]⟩⟩⟩ rfl)
  rw [eU q1] at hu
  have hj:=(Nt hu).1
  rw [List.length_take] at hj
  rw [P3,if_pos (by omega)] at hu
  exact(c5 j u v hu hv).mono st.stab
end ops

/-! ### Typed elements -/
section typed
variable {P:Program} {o:Oper} {l:Fr} {L:Loc} {α:Type}
theorem GR {x p:Operand} {T E k i ver n m:Nat} {kd:IntKind} {z:Int} {f:α→AV} {xs:List α} (ho:o.op=.slice T x (some p) none none) (hx:ev l x=.vec i ver k n) (hp:ev l p=.sc (.int kd z)) (hL:lk L i=some (.vec E k ver (xs.map f))) (hT:sliceB P T E k=true) (hm:z=(m:Int)∧m≤xs.length) :
  Gv P o l L (Is (.vsl i ver k m (xs.length - m)) L):=by
 obtain⟨rfl,hm⟩:=hm
 have h:=Hdf (lo:=m) (hi:=xs.length) ho hT hx hL (.inr ⟨kd,p,rfl,hp⟩) (.inl ⟨rfl,by simp⟩) hm (by simp)
 exact h
theorem G43 {x p:Operand} {T E k i ver n m:Nat} {kd:IntKind} {z:Int} {f:α→AV} {xs:List α} (ho:o.op=.slice T x none (some p) none) (hx:ev l x=.vec i ver k n) (hp:ev l p=.sc (.int kd z)) (hL:lk L i=some (.vec E k ver (xs.map f))) (hT:sliceB P T E k=true) (hm:z=(m:Int)∧m≤xs.length) :
  Gv P o l L (Is (.vsl i ver k 0 m) L):=by
 obtain⟨rfl,hm⟩:=hm
 have h:=Hdf (lo:=0) (hi:=m) ho hT hx hL (.inl ⟨rfl,rfl⟩) (.inr ⟨kd,p,rfl,hp⟩) (Nat.zero_le _) (by simpa using hm)
 exact h
theorem Hde {x p:Operand} {T E k i ver n m:Nat} {kd:IntKind} {z:Int} {f:α→AV} {xs:List α} (ho:o.op=.slice T x none (some p) none) (hx:ev l x=.vec i ver k n) (hp:ev l p=.sc (.int kd z)) (hL:lk L i=some (.vec E k ver (xs.map f))) (hT:sliceB P T E k=true) (hm:z=(m:Int)∧m≤xs.length) :
  Gv P o l L (Is (.vec i (ver+1) k (xs.take m).length) ((i,.vec E k (ver+1) ((xs.take m).map f))::L)):=by
 have h:=J37 (hi:=m) ho hT hx hp hL hm.1 (by simpa using hm.2)
 rw [List.map_take,show (xs.take m).length=m by rw [List.length_take]; omega]
 exact h
def overlay (xs:List α) (off:Nat) (ys:List α) (n:Nat):List α:=xs.take off++ys.take (min ys.length n)++xs.drop (off+min ys.length n)
def blank (xs:List α) (off n:Nat) (z:α):List α:=xs.take off++List.replicate n z++xs.drop (off+n)
theorem Gd4 {k kx:Nat} {f:α→AV} {ys:List α} {u:AV} (h:Jt u=some (kx,ys.map f)) (hk:kx=k∨ys=[]):uM L k u (ys.map f):=.inl ⟨kx,h,hk.imp id (fun e=>by rw [e]; rfl)⟩
theorem H68 {k i ver off n t:Nat} {f:α→AV} {zs:List α} {u:AV} (h:u=.vsl i ver k off n) (hi:lk L i=some (.vec t k ver (zs.map f))):uM L k u (((zs.drop off).take n).map f):=.inr (.inr ⟨i,ver,off,n,t,zs.map f,h,hi,by rw [List.map_take,List.map_drop]⟩)
theorem zG {d x:Operand} {T T2 E k i ver off n:Nat} {f:α→AV} {xs ys:List α} (ho:o.op=.call { callee:=.builtin .copy,args:=#[d,x],argTypes:=#[T,T2] }) (hT:sliceB P T E k=true) (hd:(ev l d=.vec i ver k n∧off=0)∨ev l d=.vsl i ver k off n) (hi:lk L i=some (.vec E k ver (xs.map f))) (hs:uM L k (ev l x) (ys.map f)) (hc:∀ y,(f y).flatOk=true) :
  Gv P o l L (Is (I64 ((min ys.length n:Nat):Int)) ((i,.vec E k ver ((overlay xs off ys n).map f))::L)):=by
 have h:=Heb (off:=off) (n:=n) ho hT ⟨hi,hd⟩ hs (fun y hy=>by
  obtain⟨z,_,rfl⟩:=Pb.1 (List.mem_of_mem_take hy)
  exact hc z)
 simp only [overlay,List.map_append,List.map_take,List.map_drop]
 simpa only [P9] using h
theorem Hec {d:Operand} {T E k i ver off n:Nat} {f:α→AV} {xs:List α} (y:α) (zs:List Value) (ho:o.op=.call { callee:=.builtin .clear,args:=#[d],argTypes:=#[T] }) (hT:sliceB P T E k=true) (hd:(ev l d=.vec i ver k n∧off=0)∨ev l d=.vsl i ver k off n) (hi:lk L i=some (.vec E k ver (xs.map f)))
  (hz:(P.info? E).bind (fun i=>i.zero.map Value.cells)=some zs.toArray) (h0:zs.length=k) (h3:Nat.blt 0 k=true) (h1:zs.all Value.oneCell'=true) (h2:ZOk (f y).cells zs) :
  Gv P o l L (Is (.tup []) ((i,.vec E k ver ((blank xs off n y).map f))::L)):=by
 have h:=J40 (off:=off) (n:=n) (y:=f y) ho hT ⟨hi,hd⟩ hz h0 h3 h1 (by rw [h2.length,h0]) (fun w S j a b ha h4=>by
  have:=ZOk.get (w:=w) (β:=⟨fun _=>none,fun b i=>¬ S b i⟩) (L:=[]) h2 j a b ha h4
  refine(this.data_of_nil).mono fun b i hs=>⟨Classical.byContradiction fun hn=>hs.seen hn,rfl⟩)
 simp only [blank,List.map_append,List.map_take,List.map_drop,List.map_replicate]
 exact h
def Q9 (k:IntKind) (m n:Int):Int:=k.wrap (BitVec.ofInt k.bits m &&& BitVec.ofInt k.bits n).toNat
def Qg (k:IntKind) (m:Int) (s:Nat):Int:=m.fdiv (2 ^ (min s k.bits))
theorem H4d {T T':Nat} {x y:Operand} {k:IntKind} {m n:Int} (ho:o.op=.binOp .and T x y T') (hx:ev l x=.sc (.int k m)) (hy:ev l y=.sc (.int k n)):Gv P o l L (Is (.sc (.int k (Q9 k m n))) L):=
 oP (fun P w=>by simp [eqGuard,binOp,Op.intBits,Q9]) hx hy ho
theorem xD {T T':Nat} {x y:Operand} {k k':IntKind} {m n:Int} {s:Nat} (hn:n=(s:Int)) (ho:o.op=.binOp .shr T x y T') (hx:ev l x=.sc (.int k m)) (hy:ev l y=.sc (.int k' n)):Gv P o l L (Is (.sc (.int k (Qg k m s))) L):=
 Jd2 hn rfl ho hx hy
end typed
end Go.Proofs.YthkihfoleenlmaaGreat
