/-
 Parts of slices that the call may write in place: slicing,copy,clear. Calls that leave objects whose versions are not known beforehand. Models of functions that range over maps: from the model that fixes the order of each range to the one that holds for every order. Functions that are ranged over: their contract,and how it is shown: a walk in which each call of yield hands the memory to the loop's body and takes it back. A range over a function,the caller's side: its rounds are walked like the rounds of any loop. More steps: cells of boxes that hold slices which the call may write in place. Slices that begin as an empty literal and are appended to; appends of whole lists to an own slice; the least of three numbers. Is a slice nil: known alone of one that has elements. Appending to a part from the front of a slice of the call's own,within what it holds: the cells behind are written over. A slice of slices of the call's own,whose last slice still grows. Drawn orders whose last operation,behind all the others,is given apart. The typed steps of slices of slices whose last slice grows. Slices with known cells behind them: made,cut,read beyond their length; values said in other words.
-/
import Derived.Test.YthcpolfodgjekaaGreatSortI
namespace Go.Proofs.YthcpolfodgjekaaGreat
open Go.RowKit

theorem J8f {w:World} {β:Hd} {L:Loc} {i t k ver b off:Nat} {xs zs:List AV} {vs:Array Value} {cs:List Value} (hsat:Sat w β L) (hi:lk L i=some (.vec t k ver xs)) (hb:β.at_ i=some b) (q2:w.heap[b]? = some (.cells vs t (0,0)))
  (hz:∀ z∈zs,z.cells.length=k) (hcl:cs.length=zs.length*k) (hfit:off+zs.length≤xs.length) (hD:∀ (j:Nat) u x,(flat zs)[j]? = some u→cs[j]? = some x→D w (Qd w β L) u x) :
  Step w β L (w.setRow b (vs.toList.take (off*k)++cs++vs.toList.drop (off*k+cs.length)).toArray) (upP β i (β.at_ i)) ((i,.vec t k ver (xs.take off++zs++xs.drop (off+zs.length)))::L) ∧
  Sat (w.setRow b (vs.toList.take (off*k)++cs++vs.toList.drop (off*k+cs.length)).toArray) (upP β i (β.at_ i)) ((i,.vec t k ver (xs.take off++zs++xs.drop (off+zs.length)))::L):=by
 obtain⟨q1,vs',q2',q3,q4⟩:=H14 hsat hi hb
 rw [q2] at q2'; cases q2'
 have hmul:off*k+zs.length*k≤xs.length*k:=by rw [← Nat.add_mul]; exact Nat.mul_le_mul_right _ hfit
 have hb2:=setRow_heap w b vs (vs.toList.take (off*k)++cs++vs.toList.drop (off*k+cs.length)).toArray t (0,0) q2
 have hsz2:(vs.toList.take (off*k)++cs++vs.toList.drop (off*k+cs.length)).toArray.size=vs.size:=by
  simp; omega
 have hxl:(flat xs).length=xs.length*k:=Jm q1
 have hzl:(flat zs).length=zs.length*k:=Jm hz
 have hlen:(xs.take off++zs++xs.drop (off+zs.length)).length=xs.length:=by simp; omega
 have hxs:∀ y∈xs.take off++zs++xs.drop (off+zs.length),y.cells.length=k:=fun y hy=>by
  simp only [Kt] at hy
  rcases hy with (h | h) | h
  ·exact q1 y (List.mem_of_mem_take h)
  ·exact hz y h
  ·exact q1 y (List.mem_of_mem_drop h)
 obtain⟨st,sat⟩:=G07 (w':=w.setRow b (vs.toList.take (off*k)++cs++vs.toList.drop (off*k+cs.length)).toArray) (t:=t) (k:=k) (ver1:=ver) (xs':=xs.take off++zs++xs.drop (off+zs.length)) (ob':=β.at_ i) hsat
  (.inr ⟨ver,xs,hi,Kn,fun _=>⟨hlen,rfl,fun b' hb'=>by
   rw [hb] at hb'; cases hb'
   rw [World.shape?,hb2,World.shape?,q2]; simp only [hsz2]⟩⟩) rfl rfl ⟨rfl,Kn⟩ (by simp)
  (fun b' _ hne=>setRow_other w b b' _ (fun e=>hne (by rw [inL,hi]; rfl) (by rw [hb,e])))
  (.inr (.inl ⟨by rw [inL,hi]; rfl,rfl⟩))
 refine⟨st,sat ⟨hxs,.inr ⟨b,hb,_,hb2,by rw [hsz2,hlen]; exact q3,fun j u v hu hv=>?_⟩⟩⟩
 rw [G60,G60,G85 q1,J1e q1] at hu
 simp only [List.getElem?_toArray] at hv
 have old:∀ j',(flat xs)[j']? = some u→vs[j']? = some v→D _ _ u v:=fun j' a b=>(q4 j' u v a b).mono st.stab
 have e1:(off+zs.length)*k=off*k+zs.length*k:=Nat.add_mul _ _ _
 rw [e1] at hu
 have lu:(List.take (off*k) (flat xs)).length=off*k:=by simp; omega
 have lv:(List.take (off*k) vs.toList).length=off*k:=by simp; omega
 rcases Nat.lt_or_ge j (off*k) with hj | hj
 ·rw [List.append_assoc,List.getElem?_append_left (by omega),List.getElem?_take,if_pos hj] at hu
  rw [List.append_assoc,List.getElem?_append_left (by omega),List.getElem?_take,if_pos hj] at hv
  exact old j hu (by simpa using hv)
 rcases Nat.lt_or_ge j (off*k+zs.length*k) with hj2 | hj2
 ·rw [List.getElem?_append_left (by rw [Ko,lu,hzl]; omega),List.getElem?_append_right (by omega),lu] at hu
  rw [List.getElem?_append_left (by rw [Ko,lv,hcl]; omega),List.getElem?_append_right (by omega),lv] at hv
  exact(hD _ u v hu hv).mono st.stab
 ·rw [List.getElem?_append_right (by rw [Ko,lu,hzl]; omega),Ko,lu,hzl,List.getElem?_drop] at hu
  rw [List.getElem?_append_right (by rw [Ko,lv,hcl]; omega),Ko,lv,hcl,List.getElem?_drop] at hv
  rw [show off*k+zs.length*k+(j - (off*k+zs.length*k))=j by omega] at hu hv
  exact old j hu (by simpa using hv)

def Q4d (w:World) (S:Nat→Nat→Prop) (k:Nat) (ys:List AV) (v:Value):Prop:=
 (∀ y∈ys,y.cells.length=k)∧∃ (a:Option Addr) (cap:Nat) (cs:List Value),v=.slice a ys.length cap∧(a=none→ys=[])∧cs.length=ys.length*k∧(∀ (ad:Addr) (j:Nat) u,a=some ad→cs[j]? = some u→w.cell? (ad.add j)=some u) ∧
  ∀ (j:Nat) u x,(flat ys)[j]? = some u→cs[j]? = some x→D w S u x

theorem V.inv_vsl {w:World} {β:Hd} {L:Loc} {i ver k k' off n t:Nat} {xs:List AV} {x:Value} (hi:lk L i=some (.vec t k' ver xs)) (h:V w β L (.vsl i ver k off n) x):k=k'∧off+n≤xs.length∧Q4c (β.at_ i) k off n x:=by
 cases h with
 | data h=>cases h
 | vsl hp _=>
  obtain⟨t',ver',xs',h1,_,h3⟩:=hp
  rw [hi] at h1; cases h1
  exact⟨rfl,(h3 rfl).1,(h3 rfl).2.1⟩
theorem V.inv_vsl0 {w:World} {β:Hd} {L:Loc} {i ver k k' n t:Nat} {xs:List AV} {x:Value} (hi:lk L i=some (.vec t k' ver xs)) (h:V w β L (.vsl i ver k 0 n) x):R98 w (β.at_ i) t k n x:=by
 cases h with
 | data h=>cases h
 | vsl hp _=>
  obtain⟨t',ver',xs',h1,_,h3⟩:=hp
  rw [hi] at h1; cases h1
  exact(h3 rfl).2.2 rfl

theorem J63 {w:World} {β:Hd} {L:Loc} {i ver k t n:Nat} {xs:List AV} {x:Value} (hsat:Sat w β L) (hi:lk L i=some (.vec t k ver xs)) (hv:V w β L (.vec i ver k n) x):n=xs.length∧Q4c (β.at_ i) k 0 n x:=by
 obtain⟨rfl,_,h⟩:=Ge7 hsat hi hv
 refine⟨rfl,?_⟩
 rcases h with ⟨rfl,rfl,_⟩ | ⟨b,cap,vs,rfl,h1,h2,h3,_⟩
 ·exact⟨none,0,rfl,Kn,Nat.zero_le _,.inl rfl⟩
 ·exact⟨_,cap,rfl,h2,h3,.inr ⟨b,h1,by rw [Nat.zero_mul]⟩⟩

theorem Q30 {w:World} {β:Hd} {L:Loc} {i ver k t off n:Nat} {xs:List AV} {x:Value} (hsat:Sat w β L) (hi:lk L i=some (.vec t k ver xs)) (hn:off+n≤xs.length) (h:Q4c (β.at_ i) k off n x):Q4d w (Qd w β L) k ((xs.drop off).take n) x:=by
 obtain⟨o1,o2⟩:=hsat.obj i _ hi
 have hk:∀ y∈(xs.drop off).take n,y.cells.length=k:=fun y hy=>o1 y (List.mem_of_mem_drop (List.mem_of_mem_take hy))
 have hl:((xs.drop off).take n).length=n:=by simp; omega
 refine⟨hk,?_⟩
 obtain⟨a,cap,rfl,h1,h2,h3⟩:=h
 rw [hl]
 by_cases h0:n=0
 ·subst h0
  exact⟨a,cap,[],rfl,fun _=>by simp,by simp,fun ad j u _ hu=>by simp at hu,fun j u x _ hx=>by simp at hx⟩
 ·rcases h3 with h3 | ⟨b,hb,rfl⟩
  ·exact absurd h3 h0
  ·obtain⟨q1,vs,q2,q3,q4⟩:=H14 hsat hi hb
   have hm:off*k+n*k≤xs.length*k:=by rw [← Nat.add_mul]; exact Nat.mul_le_mul_right _ hn
   refine⟨_,cap,(vs.toList.drop (off*k)).take (n*k),rfl,(fun e=>by cases e),by simp; omega,fun ad j u e hu=>?_,fun j u x hu hx=>?_⟩
   ·cases e
    have hj:=(Kh hu).1
    rw [List.length_take] at hj
    rw [List.getElem?_take,if_pos (by omega),List.getElem?_drop] at hu
    rw [Addr.add_lit]
    simp [World.cell?,q2]
    simpa using hu
   ·have hj:=(Kh hx).1
    rw [List.length_take] at hj
    rw [List.getElem?_take,if_pos (by omega),List.getElem?_drop] at hx
    have hk2:∀ y∈xs.drop off,y.cells.length=k:=fun y hy=>o1 y (List.mem_of_mem_drop hy)
    rw [G85 hk2,J1e o1,List.getElem?_take,if_pos (by omega),List.getElem?_drop] at hu
    exact q4 _ u x hu (by simpa using hx)

theorem R8f {w:World} {S:Nat→Nat→Prop} {k k':Nat} {ys:List AV} {x:Value} (h:D w S (.list k' ys) x) (hk:k'=k∨ys=[]):Q4d w S k ys x:=by
 obtain⟨ao,cap,rfl,_⟩:=h.len
 obtain⟨_,h1,h2,cs,h3,h4,h5⟩:=h.vals
 have hk2:∀ y∈ys,y.cells.length=k:=by
  rcases hk with rfl | rfl
  ·exact h1
  ·simp
 refine⟨hk2,ao,cap,cs,rfl,fun e=>List.eq_nil_of_length_eq_zero (h2 e),h3.trans (Jm hk2),h4,fun j u x hu hx=>?_⟩
 obtain⟨x',hx',hd⟩:=h5 j u hu
 rw [hx] at hx'; cases hx'
 exact hd

def J05 (L:Loc) (k:Nat) (s:AV) (ys:List AV):Prop:=
 (∃ kx,Qj s=some (kx,ys)∧(kx=k∨ys=[]))∨(∃ i ver n t,s=.vec i ver k n∧lk L i=some (.vec t k ver ys))∨(∃ i ver off n t zs,s=.vsl i ver k off n∧lk L i=some (.vec t k ver zs)∧ys=(zs.drop off).take n)
theorem J05.reads {w:World} {β:Hd} {L:Loc} {k:Nat} {s:AV} {ys:List AV} {x:Value} (hsat:Sat w β L) (h:J05 L k s ys) (hv:V w β L s x):Q4d w (Qd w β L) k ys x:=by
 rcases h with ⟨kx,h1,h2⟩ | ⟨i,ver,n,t,rfl,hi⟩ | ⟨i,ver,off,n,t,zs,rfl,hi,rfl⟩
 ·exact R8f (hv.Qj h1) h2
 ·obtain⟨rfl,h⟩:=J63 hsat hi hv
  have:=Q30 hsat hi (by simp) h
  simpa using this
 ·obtain⟨_,h1,h2⟩:=hv.inv_vsl hi
  exact Q30 hsat hi h1 h2
def R45 (L:Loc) (k:Nat) (s:AV) (i ver off n t:Nat) (xs:List AV):Prop:=
 lk L i=some (.vec t k ver xs)∧((s=.vec i ver k n∧off=0)∨s=.vsl i ver k off n)
theorem R45.out {w:World} {β:Hd} {L:Loc} {k i ver off n t:Nat} {s:AV} {xs:List AV} {x:Value} (hsat:Sat w β L) (h:R45 L k s i ver off n t xs) (hv:V w β L s x):off+n≤xs.length∧Q4c (β.at_ i) k off n x:=by
 obtain⟨hi,⟨rfl,rfl⟩ | rfl⟩:=h
 ·obtain⟨rfl,h⟩:=J63 hsat hi hv
  exact⟨by simp,h⟩
 ·exact(hv.inv_vsl hi).2

section ops
variable {P:Program} {N:Cfg} {o:Oper} {l:Fr} {L L':Loc} {u:AV} {α:Type}

theorem Y3a {x:Operand} {T E k i ver n lo hi:Nat} {lop hip:Option Operand} {xs:List AV} (ho:o.op=.slice T x lop hip none) (hT:sliceB P T E k=true) (hx:ev l x=.vec i ver k n) (hL:lk L i=some (.vec E k ver xs))
  (hlo:(lop=none∧lo=0)∨∃ kd p,lop=some p∧ev l p=.sc (.int kd lo)) (hhi:(hip=none∧hi=xs.length)∨∃ kd p,hip=some p∧ev l p=.sc (.int kd hi)) (h1:lo≤hi) (h2:hi≤xs.length) :
  H5 P o l L (Is (.vsl i ver k lo (hi - lo)) L):=
 Hx fun a w β hsat hf=>by
  have hv:=hf.ev x
  rw [hx] at hv
  obtain⟨rfl,a',cap,he,hc1,hc2,hc3⟩:=J63 hsat hL hv
  refine⟨.slice (if cap=lo then a' else a'.map (·.add (lo*k))) (hi - lo) (cap - lo),?_,.vsl ⟨E,ver,xs,hL,Kn,fun _=>⟨by omega,⟨_,_,rfl,by omega,by omega,?_⟩,fun h0=>?_⟩⟩ rfl⟩
  ·simp only [execOp,ho,he,Sem.run_bind,Option.map_none]
   rw [J13 hT a' xs.length cap lo hi _ _ w h1 h2 hc1]
   ·rfl
   ·rcases hlo with ⟨rfl,rfl⟩ | ⟨kd,p,rfl,hp⟩
    ·exact .inl ⟨rfl,rfl⟩
    ·refine .inr ⟨kd,?_⟩
     have:=hf.ev p; rw [hp] at this
     simp [this.inv_sc]
   ·rcases hhi with ⟨rfl,rfl⟩ | ⟨kd,p,rfl,hp⟩
    ·exact .inl ⟨rfl,rfl⟩
    ·refine .inr ⟨kd,?_⟩
     have:=hf.ev p; rw [hp] at this
     simp [this.inv_sc]
  ·by_cases h0:hi - lo=0
   ·exact .inl h0
   ·right
    rcases hc3 with hc3 | ⟨b,hb,rfl⟩
    ·omega
    ·refine⟨b,hb,?_⟩
     rw [if_neg (by omega)]
     simp [Addr.add_lit]
  ·subst h0
   obtain⟨_,_,hc⟩:=Ge7 hsat hL hv
   rcases hc with ⟨e1,e2,e3⟩ | ⟨b,cap',vs,e1,e2,e3,e4,e5,e6,_⟩
   ·rw [he] at e1
    injection e1 with f1 f2 f3
    subst f1
    subst f3
    subst e2
    have h3:hi=0:=by simpa using h2
    subst h3
    exact .inl ⟨rfl,rfl,e3⟩
   ·rw [he] at e1
    injection e1 with f1 f2 f3
    subst f1
    subst f3
    refine .inr ⟨b,cap,?_,e2,by omega,e4,by simp [World.shape?,e5,e6]⟩
    split <;> simp [Addr.add_lit]

theorem Re4 {T E k:Nat} (hT:sliceB P T E k=true) {T2 ty:Nat} (w:World) (a s:Option Addr) (n cap m cap2:Nat) (cs:List Value) (hs:s=none→m=0) (hcs:cs.length=min m n*k) (hsrc:∀ (ad:Addr) (j:Nat) u,s=some ad→cs[j]? = some u→w.cell? (ad.add j)=some u) :
  (Builtin.copy_ #[T,T2] ty #[.slice a n cap,.slice s m cap2]).run P w=(match a with | some ad=>((storeCells ad cs).run P w).andThen fun _ w=>.ok (goInt ((min m n:Nat):Int)) w | none=>.ok (goInt ((min m n:Nat):Int)) w):=by
 obtain⟨h1,h2⟩:=sliceB.out hT
 have h3:=Qw h2 w
 have hmin:Nat.min m n=min m n:=rfl
 cases s with
 | none=>
  have hm:=hs rfl
  subst hm
  have:cs=[]:=List.eq_nil_of_length_eq_zero (by rw [hcs]; simp)
  subst this
  cases a <;> simp [Builtin.copy_,run_underlying h1,Builtin.lenOf,Builtin.firstCells,h3,hmin,storeCells,Result.andThen]
 | some ad=>
  have hl:=run_loadCells_list (P:=P) w ad cs (fun j v h=>hsrc ad j v rfl h)
  rw [hcs] at hl
  cases a with
  | none=>simp [Builtin.copy_,run_underlying h1,Builtin.lenOf,Builtin.firstCells,h3,hmin,hl]
  | some a2=>
   simp [Builtin.copy_,run_underlying h1,Builtin.lenOf,Builtin.firstCells,h3,hmin,hl]

theorem Qdf {d x:Operand} {T T2 E k i ver off n:Nat} {xs ys:List AV} (ho:o.op=.call { callee:=.builtin .copy,args:=#[d,x],argTypes:=#[T,T2] }) (hT:sliceB P T E k=true) (hd:R45 L k (ev l d) i ver off n E xs) (hs:J05 L k (ev l x) ys) (hc:∀ y∈ys.take (min ys.length n),y.flatOk=true) :
  H5 P o l L (Is (I64 ((min ys.length n:Nat):Int)) ((i,.vec E k ver (xs.take off++ys.take (min ys.length n)++xs.drop (off+min ys.length n)))::L)):=by
 intro a w β K Q hsat hf hK
 have hi:=hd.1
 obtain⟨hfit,ad,cap,hdv,hc1,hc2,hc3⟩:=hd.out hsat (hf.ev d)
 obtain⟨hyk,asx,cap2,cs,hsv,hs0,hcl,hcell,hcD⟩:=hs.reads hsat (hf.ev x)
 have hyl:(flat ys).length=ys.length*k:=Jm hyk
 have hmk:min ys.length n*k≤ys.length*k:=Nat.mul_le_mul_right _ (Nat.min_le_left _ _)
 have hcs:(cs.take (min ys.length n*k)).length=min ys.length n*k:=by rw [List.length_take,hcl]; omega
 have hr:=Re4 (P:=P) hT (T2:=T2) (ty:=o.type) w ad asx n cap ys.length cap2 (cs.take (min ys.length n*k)) (fun e=>by rw [hs0 e]; rfl) hcs (fun ad' j u e hu=>by
  have hj:=(Kh hu).1
  rw [List.getElem?_take,if_pos (by omega)] at hu
  exact hcell ad' j u e hu)
 have hex:(execOp a.eval o).run P w=((Builtin.copy_ #[T,T2] o.type #[.slice ad n cap,.slice asx ys.length cap2]).run P w).andThen fun v w=>.ok (.value v) w:=by
  simp [execOp,ho,resolve,invoke,builtin,hdv,hsv]
  try rfl
 have hyk':∀ y∈ys.take (min ys.length n),y.cells.length=k:=fun y hy=>hyk y (List.mem_of_mem_take hy)
 have hzl:(ys.take (min ys.length n)).length=min ys.length n:=by rw [List.length_take]; omega
 unfold Oper.wp
 rw [hex,hr]
 by_cases h0:min ys.length n=0
 ·-- nothing is written
  have hnil:cs.take (min ys.length n*k)=[]:=List.eq_nil_of_length_eq_zero (by rw [hcs,h0,Nat.zero_mul])
  rw [hnil]
  have hgo:(match ad with | some a2=>((storeCells a2 []).run P w).andThen fun _ w=>Result.ok (goInt ((min ys.length n:Nat):Int)) w | none=>Result.ok (goInt ((min ys.length n:Nat):Int)) w)=Result.ok (goInt ((min ys.length n:Nat):Int)) w:=by
   cases ad <;> simp [storeCells,Result.andThen]
  rw [hgo]
  have hxs:xs.take off++ys.take (min ys.length n)++xs.drop (off+min ys.length n)=xs:=by rw [h0]; simp
  rw [hxs] at hK
  have hq:H73 L ((i,Jt.vec E k ver xs)::L):=fun id=>by
   rw [Gs]
   by_cases e:i=id
   ·subst e; rw [if_pos rfl,hi]
   ·rw [if_neg e]
  exact hK _ _ _ w β ⟨rfl,rfl⟩ (hsat.locEq hq) ((Step.refl w β L).locEq hq) .sc
 ·rcases hc3 with hc3 | ⟨b,hb,rfl⟩
  ·omega
  ·obtain⟨q1,vs,q2,q3,q4⟩:=H14 hsat hi hb
   have hfit2:off+(ys.take (min ys.length n)).length≤xs.length:=by rw [hzl]; omega
   have hmul:off*k+min ys.length n*k≤xs.length*k:=by rw [← Nat.add_mul]; exact Nat.mul_le_mul_right _ (by omega)
   have hDz:∀ (j:Nat) u x,(flat (ys.take (min ys.length n)))[j]? = some u→(cs.take (min ys.length n*k))[j]? = some x→D w (Qd w β L) u x:=fun j u x hu hx=>by
    have hj:=(Kh hx).1
    rw [hcs] at hj
    rw [List.getElem?_take,if_pos hj] at hx
    rw [G85 hyk,List.getElem?_take,if_pos hj] at hu
    exact hcD j u x hu hx
   have h1c:∀ v∈cs.take (min ys.length n*k),v.oneCell'=true:=fun v hv=>by
    obtain⟨j,hj⟩:=List.mem_iff_getElem?.1 hv
    have hjl:=(Kh hj).1
    rw [hcs] at hjl
    have hu:(flat (ys.take (min ys.length n)))[j]? = some ((flat (ys.take (min ys.length n)))[j]'(by rw [Jm hyk',hzl]; exact hjl)):=Ki _
    exact(V.data (hDz j _ v hu hj)).cell (Ha0 hc (Kk hu))
   have hst:=run_storeCells_at P b (off*k) E (cs.take (min ys.length n*k)) 0 vs w q2 (by rw [hcs]; omega) h1c
   simp only [Nat.add_zero] at hst
   simp only [hst,Result.andThen]
   obtain⟨st,sat⟩:=J8f (off:=off) (zs:=ys.take (min ys.length n)) (cs:=cs.take (min ys.length n*k)) hsat hi hb q2 hyk' (by rw [hcs,hzl]) hfit2 hDz
   rw [hzl] at st sat
   exact hK _ _ _ _ _ ⟨rfl,rfl⟩ sat st .sc
theorem Hae (z:Array Value) (n j:Nat) (hj:j < n*z.size):(Builtin.zeroCells z n).toList[j]? = some z[j % z.size]! := by
 simp [Builtin.zeroCells,hj]

end ops

/-! ### Typed elements -/
section typed
variable {P:Program} {o:Oper} {l:Fr} {L:Loc} {α:Type}
theorem H4e {x p:Operand} {T E k i ver n m:Nat} {kd:IntKind} {z:Int} {f:α→AV} {xs:List α} (ho:o.op=.slice T x (some p) none none) (hx:ev l x=.vec i ver k n) (hp:ev l p=.sc (.int kd z)) (hL:lk L i=some (.vec E k ver (xs.map f))) (hT:sliceB P T E k=true) (hm:z=(m:Int)∧m≤xs.length) :
  H5 P o l L (Is (.vsl i ver k m (xs.length - m)) L):=by
 obtain⟨rfl,hm⟩:=hm
 have h:=Y3a (lo:=m) (hi:=xs.length) ho hT hx hL (.inr ⟨kd,p,rfl,hp⟩) (.inl ⟨rfl,by simp⟩) hm (by simp)
 exact h
def overlay (xs:List α) (off:Nat) (ys:List α) (n:Nat):List α:=xs.take off++ys.take (min ys.length n)++xs.drop (off+min ys.length n)
def blank (xs:List α) (off n:Nat) (z:α):List α:=xs.take off++List.replicate n z++xs.drop (off+n)
theorem R39 {k kx:Nat} {f:α→AV} {ys:List α} {u:AV} (h:Qj u=some (kx,ys.map f)) (hk:kx=k∨ys=[]):J05 L k u (ys.map f):=.inl ⟨kx,h,hk.imp id (fun e=>by rw [e]; rfl)⟩
theorem Rc4 {k i ver off n t:Nat} {f:α→AV} {zs:List α} {u:AV} (h:u=.vsl i ver k off n) (hi:lk L i=some (.vec t k ver (zs.map f))):J05 L k u (((zs.drop off).take n).map f):=.inr (.inr ⟨i,ver,off,n,t,zs.map f,h,hi,by rw [List.map_take,List.map_drop]⟩)
theorem Y6f {d x:Operand} {T T2 E k i ver off n:Nat} {f:α→AV} {xs ys:List α} (ho:o.op=.call { callee:=.builtin .copy,args:=#[d,x],argTypes:=#[T,T2] }) (hT:sliceB P T E k=true) (hd:(ev l d=.vec i ver k n∧off=0)∨ev l d=.vsl i ver k off n) (hi:lk L i=some (.vec E k ver (xs.map f))) (hs:J05 L k (ev l x) (ys.map f)) (hc:∀ y,(f y).flatOk=true) :
  H5 P o l L (Is (I64 ((min ys.length n:Nat):Int)) ((i,.vec E k ver ((overlay xs off ys n).map f))::L)):=by
 have h:=Qdf (off:=off) (n:=n) ho hT ⟨hi,hd⟩ hs (fun y hy=>by
  obtain⟨z,_,rfl⟩:=Ku.1 (List.mem_of_mem_take hy)
  exact hc z)
 simp only [overlay,List.map_append,List.map_take,List.map_drop]
 simpa only [Ks] using h
def Y12 (k:IntKind) (m:Int) (s:Nat):Int:=m.fdiv (2 ^ (min s k.bits))
theorem Y96 {T T':Nat} {x y:Operand} {k k':IntKind} {m n:Int} {s:Nat} (hn:n=(s:Int)) (ho:o.op=.binOp .shr T x y T') (hx:ev l x=.sc (.int k m)) (hy:ev l y=.sc (.int k' n)):H5 P o l L (Is (.sc (.int k (Y12 k m s))) L):=
 Yc6 hn rfl ho hx hy
end typed
set_option linter.unusedVariables false

theorem Ym.mono {P:Program} {f:FuncId} {args:List AV} {L0:Loc} {R R':AV→Loc→Prop} (h:Ym P f args L0 R) (hr:∀ u L,R u L→R' u L):Ym P f args L0 R':=fun w β vs a b c=>
 (h w β vs a b c).mono fun e w' hh=>by
  obtain⟨v,r,β',L',h1,h2,h3,h4,h5⟩:=hh
  exact⟨v,r,β',L',h1,h2,h3,h4,hr _ _ h5⟩
theorem Pure.monoP {P:Program} {f:FuncId} {args:List AV} {R R':AV→Prop} (h:Pure P f args R) (hr:∀ u,R u→R' u):Pure P f args R':=Ym.mono h (fun u L hh=>⟨hh.1,hr u hh.2⟩)
def R92:Loc→List Nat→Bool
 | [],_=>true
 | (i,_)::r,B=>B.any (Nat.beq i)&&R92 r B
theorem Qa8 {B:List Nat}:∀ {L0:Loc},R92 L0 B=true→∀ id,(lk L0 id).isSome=true→id∈B
 | [],_,id,h=>by simp [lk] at h
 | (i,o)::r,hb,id,h=>by
  simp only [R92,Kq,List.any_eq_true] at hb
  rw [Gs] at h
  by_cases e:i=id
  ·obtain⟨x,hx,hxi⟩:=hb.1
   rw [← e,Nat.eq_of_beq_eq_true hxi]; exact hx
  ·rw [if_neg e] at h; exact Qa8 hb.2 id h

theorem Jf3 {P:Program} {N:Cfg} {c:Code} {Q:Post} {l:Fr} {L:Loc} (s:Nat) {i ver k n E:Nat} {xs:List AV} (h1:look l s=.vec i ver k n) (hi:lk L i=some (.vec E k ver xs)) (h:n=xs.length→JC P N c Q l L):JC P N c Q l L:=fun n w0 β0 L0 a w β hs=>
 h (by
  have hv:=hs.frame.tmp s
  rw [h1] at hv
  exact(Ge7 hs.sat hi hv).1) n w0 β0 L0 a w β hs
section calls
variable {P:Program} {o:Oper} {l:Fr} {L:Loc} {γ:Type}
end calls

section rel
variable {α β σ R:Type} {r:R}
def Rel (r:R) (m:Option Prop) (d:Option R):Prop:=d=some r→∃ p:Prop,m=some p∧p
theorem H5c {e:R}:Rel r (some (e=r)) (some e):=fun h=>⟨_,rfl,Kj h⟩
theorem Hf5 {m:Option Prop}:Rel r m none:=fun h=>by cases h
theorem G8d {m:Option α} {k:α→Option Prop} {k':α→Option R} (h:∀ x,Rel r (k x) (k' x)):Rel r (bnd m k) (bnd m k'):=by
 cases m with
 | none=>exact Hf5
 | some x=>exact h x
theorem Gcb {c:Bool} {x y:Option Prop} {x' y':Option R} (h1:c=true→Rel r x x') (h2:c=false→Rel r y y'):Rel r (bif c then x else y) (bif c then x' else y'):=by
 cases c with
 | true=>exact h1 rfl
 | false=>exact h2 rfl
theorem Qc4 {z:Int} {k:Int→Option Prop} {k':Int→Option R} (h:∀ x,Rel r (k x) (k' x)):Rel r (chk z k) (chk z k'):=by
 unfold chk; exact Gcb (fun _=>h z) (fun _=>Hf5)
theorem Y17 {m:(α→Option Prop)→Option Prop} {m':(α→Option R)→Option R} {k:α→Option Prop} {k':α→Option R} (h:∀ K K',(∀ a,Rel r (K a) (K' a))→Rel r (m K) (m' K')) (hk:∀ a,Rel r (k a) (k' a)):Rel r (jp m k) (jp m' k'):=h k k' hk
theorem H5d {b:α→Nat→σ→(σ→Option Prop)→Option Prop} {b':α→Nat→σ→(σ→Option R)→Option R} {kx:σ→Option Prop} {kx':σ→Option R}
  (h:∀ x i s nx nx',(∀ s,Rel r (nx s) (nx' s))→Rel r (b x i s nx) (b' x i s nx')) (hk:∀ s,Rel r (kx s) (kx' s)):∀ {xs:List α} {i:Nat} {s:σ},Rel r (each b kx xs i s) (each b' kx' xs i s)
 | [],_,s=>hk s
 | x::_,i,s=>h x i s _ _ (fun _=>H5d h hk)
theorem J6f {c:α→Bool} {e e':β}:∀ (l:List α) (s:Unit),J4f (fun x (_:Unit) nx=>bif c x then lft (some e) else nx ()) (fun _=>some e') l s=some (bif l.any c then e else e')
 | [],_=>rfl
 | x::l,s=>by
  rw [J4f]
  cases hc:c x with
  | true=>simp [lft,hc]
  | false=>simp [hc,J6f l]
theorem Y48 {c:α→Bool} {e e':R} {l:List α}:Rel r (Q42 (fun x (_:Unit) nx=>bif c x then lft (some (e=r)) else nx ()) (fun _=>some (e'=r)) l ()) (J4f (fun x (_:Unit) nx=>bif c x then lft (some e) else nx ()) (fun _=>some e') l ()):=fun h=>by
 refine⟨_,rfl,fun q hq=>?_⟩
 rw [J6f] at h
 refine⟨_,J6f q (),?_⟩
 have hany:q.any c=l.any c:=by
  rw [Bool.eq_iff_iff,List.any_eq_true,List.any_eq_true]
  exact⟨fun⟨x,h1,h2⟩=>⟨x,hq.mem_iff.1 h1,h2⟩,fun⟨x,h1,h2⟩=>⟨x,hq.mem_iff.2 h1,h2⟩⟩
 rw [hany]
 have:=Kj h
 cases hc:l.any c <;> rw [hc] at this <;> exact this
end rel
set_option linter.unusedSimpArgs false

structure J04 (X:Nat→Prop) (W W':World):Prop where
 os:W'.os=W.os
 tape:W'.tape=W.tape
 output:W'.output=W.output∧W.drawn≤W'.drawn
 size:W.heap.size≤W'.heap.size
 keep:∀ b,b < W.heap.size→¬ X b→W'.heap[b]? = W.heap[b]?

structure Hdd where
 W0:World
 S:Nat→Nat→Prop
 lp:Nat
 J:Nat→(Nat→Prop)→(Nat→Nat→Prop)→World→Prop
 ys:List (List AV)
def Hdd.After (E:Hdd) (k:Nat) (X:Nat→Prop) (T:Nat→Nat→Prop) (W:World) (e:Ending) (W':World):Prop:=
 e=.returned (.bool true)∧∃ X':Nat→Prop,E.J (k+1) X' T W'∧J04 X W W'∧(∀ b,b < W.heap.size→(X' b ↔ X b))∧∀ b,X' b→b < W'.heap.size
structure Hdd.Ok (E:Hdd) (P:Program):Prop where
 abide:∀ k X T W W',E.J k X T W→J04 (fun b=>E.W0.heap.size≤b∧¬ X b) W W'→(∀ b i,T b i→W'.cell? ⟨b,i,none⟩=W.cell? ⟨b,i,none⟩)→E.J k X T W'
 round:∀ (m k:Nat) us X T (T':Nat→Nat→Prop) W (vs:Array Value),E.ys[k]? = some us→E.J k X T W→(∀ b i,T b i→T' b i)→(∀ b i,T' b i→¬ T b i→E.W0.heap.size≤b∧¬ X b∧b < W.heap.size)→vs.size=us.length →
  (∀ (j:Nat) u v,us[j]? = some u→vs[j]? = some v→D W (fun b i=>E.S b i∨T' b i) u v)→YieldAt Fence.wide m P E.lp vs W (E.After k X T' W)

def Iter (P:Program) (g:FuncId) (caps:List AV) (ys:List (List AV)):Prop:=
 ∀ (n:Nat) (E:Hdd) (lb:Array Value) (X0:Nat→Prop),E.Ok P→E.ys=ys→lb.size=caps.length→(∀ (j:Nat) u v,caps[j]? = some u→lb[j]? = some v→D E.W0 E.S u v)→(∀ b i,E.S b i→b < E.W0.heap.size∧¬ X0 b)→(∀ b,X0 b→b < E.W0.heap.size) →
  E.J 0 X0 (fun _ _=>False) E.W0→CallsIn Fence.wide n P g (#[.func (.yield E.lp) #[] #[]]++lb) E.W0 fun e W'=>(∃ v,e=.returned v)∧∃ X T,E.J ys.length X T W'

structure StI (E:Hdd) (N:Cfg) (a:Act) (w:World) (β:Hd) (l:Fr) (L:Loc) (k:Nat):Prop where
 sat:Sat w β L
 frame:Qe a w β L l
 size:N.n≤a.tmps.size
 defers:a.defers=[]
 old:E.W0.heap.size≤w.heap.size
 own:∀ id b,(lk L id).isSome=true→β id=some b→E.W0.heap.size≤b
 gh:∃ X T,E.J k X T w∧(∀ b,X b→b < w.heap.size∧∀ i,β.hid b i)∧∀ b i,T b i→Qd w β L b i
 vis:∀ b i,b < E.W0.heap.size→¬ β.hid b i→E.S b i

structure H23 where
 norm:Fr→Loc→Nat→Prop
 ret:Fr→Loc→Nat→Prop
 exit:Nat→Fr→Loc→Nat→Prop
def H23.seq (Q:H23) (K:Fr→Loc→Nat→Prop):H23:=⟨K,Q.ret,Q.exit⟩
def H23.blk (Q:H23) (i:Nat):H23:=⟨Q.norm,Q.ret,fun j l L k=>bif Nat.beq j i then Q.norm l L k else Q.exit j l L k⟩
def H23.out (Q:H23) (E:Hdd) (N:Cfg):Exit→Act→World→Prop
 | .normal,a,w=>∃ β l L k,StI E N a w β l L k∧Q.norm l L k
 | .ret,a,w=>∃ β l L k,StI E N a w β l L k∧Q.ret l L k
 | .exit i,a,w=>∃ β l L k,StI E N a w β l L k∧Q.exit i l L k
 | _,_,_=>False
def JI (E:Hdd) (P:Program) (N:Cfg) (c:Code) (Q:H23) (l:Fr) (L:Loc) (k:Nat):Prop:=
 ∀ (n:Nat) a w β,StI E N a w β l L k→c.wpIn Fence.wide n P (Q.out E N) a w
def JIL (E:Hdd) (P:Program) (N:Cfg) (ops:Array Oper) (rest:List Oper) (Q:H23) (l:Fr) (L:Loc) (k:Nat):Prop:=
 ∀ (n:Nat) a w β,StI E N a w β l L k→wpListIn Fence.wide n P ops (Q.out E N) rest a w

theorem StI.step {E:Hdd} {P:Program} {N:Cfg} {a a':Act} {w w':World} {β β':Hd} {l l':Fr} {L L':Loc} {k:Nat} (hE:E.Ok P) (h:StI E N a w β l L k) (hst:Step w β L w' β' L') (hsat:Sat w' β' L') (hf:Qe a' w' β' L' l') (hsz:a'.tmps.size=a.tmps.size) (hd:a'.defers=a.defers):StI E N a' w' β' l' L' k:=by
 have old':=h.old
 refine⟨hsat,hf,by rw [hsz]; exact h.size,by rw [hd]; exact h.defers,Nat.le_trans h.old hst.size,fun id b h1 h2=>?_,?_,fun b i hb hn=>h.vis b i hb fun hh=>hn ((hst.hid b i (Nat.lt_of_lt_of_le hb h.old)).2 hh)⟩
 ·rcases Nat.lt_or_ge b w.heap.size with hb | hb
  ·refine Classical.byContradiction fun hn=>?_
   have:∀ id0,(lk L id0).isSome=true→β id0≠some b:=fun id0 h3 h4=>hn (h.own id0 b h3 h4)
   exact(hst.far b hb this).2 id h1 h2
  ·omega
 ·obtain⟨X,T,hJ,hX,hT⟩:=h.gh
  refine⟨X,T,hE.abide k X T w w' hJ ⟨hst.os,hst.tape,hst.output,hst.size,fun b hb hn=>(hst.far b hb fun id h1 h2=>?_).1⟩ (fun b i h=>(hst.stab b i (hT b i h)).2),fun b hb=>⟨Nat.lt_of_lt_of_le (hX b hb).1 hst.size,fun i=>(hst.hid b i (hX b hb).1).2 ((hX b hb).2 i)⟩,fun b i h=>(hst.stab b i (hT b i h)).1⟩
  exact hn ⟨h.own id b h1 h2,fun hx=>h.sat.apart id b 0 h1 h2 ((hX b hx).2 0)⟩

theorem Sat.fits {B:List Nat} {w:World} {β:Hd} {l l':Fr} {L L':Loc} (hs:Sat w β L) (h:Fits B l L l' L'):Sat w β L':=by
 have hd:=h.drop
 refine⟨hs.hid,fun id b hid hb=>hs.bnd id b (hd.some hid) hb,fun id b j hid hb=>hs.apart id b j (hd.some hid) hb,fun id id' b h1 h2=>hs.inj id id' b (hd.some h1) (hd.some h2),fun id o' ho'=>?_⟩
 obtain⟨o,ho,hc⟩:=h.loc.get ho'
 have h0:=hs.obj id o ho
 cases hc with
 | same=>exact h0
 | map=>
  obtain⟨b,h1,ents,h2,h3,h4⟩:=h0
  exact⟨b,h1,ents,h2,h3,fun i e k u he hu=>⟨(h4 i e k u he hu).1,(h4 i e k u he hu).2.1.mono fun b i hs=>⟨hd.stab hs,rfl⟩,(h4 i e k u he hu).2.2⟩⟩
 | vec=>
  obtain⟨h00,h0⟩:=h0
  refine⟨h00,?_⟩
  rcases h0 with h0 | ⟨b,h1,vs,h2,h3,h4⟩
  ·exact .inl h0
  ·exact .inr ⟨b,h1,vs,h2,h3,fun j u v hu hv=>(h4 j u v hu hv).mono fun b i hs=>⟨hd.stab hs,rfl⟩⟩
 | iter hm=>
  obtain⟨b,h1,bm,t,es,h2,h3,h4⟩:=h0
  obtain⟨o',ho'⟩:=Option.isSome_iff_exists.1 hm
  obtain⟨o2,ho2,hl⟩:=hd.like _ o' ho'
  rw [h2] at ho2; cases ho2
  cases o' <;> simp [Jt.like] at hl
  subst hl
  exact⟨b,h1,bm,_,_,ho',h3,h4⟩
 | box hl hc=>
  obtain⟨b,h1,vs,h2,h3,h4⟩:=h0
  refine⟨b,h1,vs,h2,h3.trans hl,fun j u' v hu' hv=>?_⟩
  rename_i cs cs'
  have hj:j < cs.length:=by
   rcases Nat.lt_or_ge j cs'.length with h | h
   ·omega
   ·simp [List.getElem?_eq_none h] at hu'
  exact(h4 j cs[j] v (by simp [hj]) hv).conv hd (hc j _ _ (by simp [hj]) hu')
theorem StI.fits {E:Hdd} {N:Cfg} {a:Act} {w:World} {β:Hd} {l l':Fr} {L L':Loc} {k:Nat} (h:StI E N a w β l L k) (hfit:Fits N.base l L l' L'):StI E N a w β l' L' k:=
 ⟨h.sat.fits hfit,⟨fun t=>(h.frame.tmp t).conv hfit.drop (hfit.fr.get t)⟩,h.size,h.defers,h.old,fun id b h1 h2=>h.own id b (hfit.drop.some h1) h2,(by obtain⟨X,T,h1,h2,h3⟩:=h.gh; exact⟨X,T,h1,h2,fun b i h=>hfit.drop.stab (h3 b i h)⟩),h.vis⟩

section code
variable {E:Hdd} {P:Program} {N:Cfg} {Q:H23} {l:Fr} {L:Loc} {k:Nat}

theorem G22 {x y:Code} (h:∀ K:Fr→Loc→Nat→Prop,(∀ l L k,JI E P N y Q l L k→K l L k)→JI E P N x (Q.seq K) l L k):JI E P N (.seq x y) Q l L k:=
 fun n a w β hs=>wpIn_seq (Code.wpIn_mono (fun e a' w' q=>by
  cases e with
  | normal=>obtain⟨β',l',L',k',hs',hq⟩:=q; exact hq n a' w' β' hs'
  | exit i=>exact q
  | ret=>exact q
  | goto l=>exact q
  | panic c=>exact q
  | outgrown=>exact q) (h (fun l L k=>JI E P N y Q l L k) (fun _ _ _ h=>h) n a w β hs))
theorem Hd2 (h:Q.norm l L k):JI E P N .skip Q l L k:=fun _ _ _ β hs=>wpIn_skip ⟨β,l,L,k,hs,h⟩
theorem Y92 (h:Q.ret l L k):JI E P N .ret Q l L k:=fun _ _ _ β hs=>wpIn_ret ⟨β,l,L,k,hs,h⟩
theorem Jf2 {i:Nat} (h:Q.exit i l L k):JI E P N (.exit i) Q l L k:=fun _ _ _ β hs=>wpIn_exit ⟨β,l,L,k,hs,h⟩
theorem H91 {c:Operand} {x y:Code} {b:Bool} (hc:ev l c=.sc (.bool b)) (ht:b=true→JI E P N x Q l L k) (hf:b=false→JI E P N y Q l L k):JI E P N (.cond c x y) Q l L k:=
 fun n a w β hs=>by
  have hv:=hs.frame.ev c
  rw [hc] at hv
  exact wpIn_cond_split hv.inv_sc (fun e=>ht e n a w β hs) (fun e=>hf e n a w β hs)
theorem H29 {i:Nat} {c:Code} (h:JI E P N c (Q.blk i) l L k):JI E P N (.block i c) Q l L k:=
 fun n a w β hs=>wpIn_block (Code.wpIn_mono (fun e a' w' q=>by
  cases e with
  | normal=>exact q
  | exit j=>
   obtain⟨β',l',L',k',hs',hq⟩:=q
   simp only [Exit.inBlock]
   by_cases e:j=i
   ·subst e
    simp only [if_true]
    exact⟨β',l',L',k',hs',by simpa [H23.blk] using hq⟩
   ·have hb:Nat.beq j i=false:=by
     cases hb:Nat.beq j i with
     | false=>rfl
     | true=>exact absurd (Nat.eq_of_beq_eq_true hb) e
    simp only [if_neg e]
    exact⟨β',l',L',k',hs',by simpa [H23.blk,e] using hq⟩
  | ret=>exact q
  | goto l=>exact q
  | panic c=>exact q
  | outgrown=>exact q) (h n a w β hs))
theorem Rk {id:Nat} {ops:List Oper} (h:JIL E P N ops.toArray ops Q l L k):JI E P N (.region id ops.toArray false) Q l L k:=
 fun n a w β hs=>wpIn_region_lit (h n a w β hs)
theorem G11 {ops:Array Oper} (h:Q.norm l L k):JIL E P N ops [] Q l L k:=fun _ _ _ β hs=>⟨β,l,L,k,hs,h⟩

theorem Y60 {c:Code} {l':Fr} {L':Loc} (h:Fits N.base l L l' L') (hk:JI E P N c Q l' L' k):JI E P N c Q l L k:=
 fun n a w β hs=>hk n a w β (hs.fits h)

theorem Y5f {body:Code} {X:Type} (I:X→Prop) (F:X→Fr) (M:X→Loc) (κ:X→Nat) (μ:X→Nat) (x0:X) (h0:I x0) (hf:Fits N.base l L (F x0) (M x0)) (hk:k=κ x0)
  (hr:∀ x,I x→∀ K:Fr→Loc→Nat→Prop,(∀ l L x',I x'→μ x' < μ x→Fits N.base l L (F x') (M x')→K l L (κ x'))→JI E P N body (Q.seq K) (F x) (M x) (κ x)):JI E P N (.loop body) Q l L k:=by
 subst hk
 intro n a w β hs b kk cs hro hb' hroom
 have key:∀ m x a w β,μ x=m→I x→StI E N a w β (F x) (M x) (κ x) →
   ∃ e a' w',Q.out E N e a' w'∧ArrivesIn (Machine.fenced P Fence.wide) P (lone (b.atR a (.code body::.inLoop body::kk)) cs w) b kk cs e a' w':=by
  intro m
  induction m using Nat.strongRecOn with
  | _ m ih=>
   intro x a w β hn hI hs
   obtain⟨e,a₁,w₁,hq,harr⟩:=hr x hI (fun l L q=>∃ x',I x'∧μ x' < μ x∧Fits N.base l L (F x') (M x')∧q=κ x') (fun l L x' h1 h2 h3=>⟨x',h1,h2,h3,rfl⟩) n a w β hs b (.inLoop body::kk) cs hro hb' hroom
   cases e with
   | normal=>
    obtain⟨β',l',L',q,hs',x',hI',hlt,hfit,rfl⟩:=hq
    obtain⟨e₂,a₂,w₂,hq₂,harr₂⟩:=ih (μ x') (hn ▸ hlt) x' a₁ w₁ β' rfl hI' (hs'.fits hfit)
    exact⟨e₂,a₂,w₂,hq₂,.of_steps (StepsIn.trans harr (.one (fenced_calm hb' hroom rfl) stepR_inLoop)) harr₂⟩
   | exit id=>exact⟨.exit id,a₁,w₁,hq,.pass (x:=.inLoop body) rfl (fun _ _=>.inl (by simp)) harr⟩
   | goto l=>exact hq.elim
   | ret=>exact⟨.ret,a₁,w₁,hq,.pass (x:=.inLoop body) rfl (fun _ _=>.inl (by simp)) harr⟩
   | panic ch=>exact hq.elim
   | outgrown=>exact hq.elim
 obtain⟨e,a',w',hq,harr⟩:=key _ x0 a w β rfl h0 (hs.fits hf)
 exact⟨e,a',w',hq,.of_steps (.one (fenced_calm hb' hroom rfl) stepR_loop) harr⟩
end code

section ops
variable {E:Hdd} {P:Program} {N:Cfg} {Q:H23} {l:Fr} {L L':Loc} {k:Nat} {ops:Array Oper} {o:Oper} {rest:List Oper} {u:AV}

theorem J9 {d:Nat} (hE:E.Ok P) (h:H5 P o l L (Is u L')) (hk:JIL E P N ops rest Q ((d,u)::l) L' k) (hg:o.guard=none) (hd:o.dst=some d) (hn:Nat.blt d N.n=true) (hnd:G77 o=true):JIL E P N ops (o::rest) Q l L k:=by
 intro n a w β hs
 refine H1d (ro:=none) hg hnd fun K hK=>h a w β K _ hs.sat hs.frame ?_
 intro u' L'' v w' β' hr hsat hst hv
 obtain⟨rfl,rfl⟩:=hr
 have hlt:d < a.tmps.size:=Nat.lt_of_lt_of_le (by simpa [Nat.blt_eq] using hn) hs.size
 rw [hd]
 exact hK _ _ (hk n _ w' β' (hs.step hE hst hsat ((hs.frame.step hst).put hlt hv) (Act.put_size ..) (Act.put_defers' ..)))
theorem Rc8 (hE:E.Ok P) (h:H5 P o l L (Is u L')) (hk:JIL E P N ops rest Q l L' k) (hg:o.guard=none) (hd:o.dst=none) (hnd:G77 o=true):JIL E P N ops (o::rest) Q l L k:=by
 intro n a w β hs
 refine H1d (ro:=none) hg hnd fun K hK=>h a w β K _ hs.sat hs.frame ?_
 intro u' L'' v w' β' hr hsat hst hv
 obtain⟨rfl,rfl⟩:=hr
 rw [hd]
 exact hK _ _ (hk n _ w' β' (hs.step hE hst hsat (hs.frame.step hst) rfl rfl))

theorem StI.round {L:Loc} {w w':World} {β:Hd} {X X':Nat→Prop} {T:Nat→Nat→Prop} (hsat:Sat w β L) (hX:∀ b,X b→b < w.heap.size∧∀ i,¬ T b i→β.hid b i) (notX:∀ id b,(lk L id).isSome=true→β id=some b→¬ X b) (ht:J04 X w w')
  (hT:∀ b i,T b i→X b→w'.cell? ⟨b,i,none⟩=w.cell? ⟨b,i,none⟩) (hX':∀ b,b < w.heap.size→(X' b ↔ X b)) (hlt:∀ b,X' b→b < w'.heap.size) :
  let β':Hd:=⟨β.at_,fun b i=>β.hid b i∨(w.heap.size≤b∧b < w'.heap.size)⟩
  Sat w' β' L∧Ha2 w β L w' β' L∧∀ b,X' b→b < w'.heap.size∧∀ i,¬ T b i→β'.hid b i:=by
 intro β'
 have same:∀ id b,(lk L id).isSome=true→β id=some b→w'.heap[b]? = w.heap[b]? := fun id b h1 h2=>ht.keep b (hsat.bnd id b h1 h2) (notX id b h1 h2)
 have stab:∀ b i,Qd w β L b i→Qd w' β' L b i:=fun b i hs=>⟨Nat.lt_of_lt_of_le hs.lt ht.size,fun h=>h.elim hs.seen (fun h=>by have:=hs.lt; omega),hs.kept⟩
 have cell:∀ b i,Qd w β L b i→w'.cell? ⟨b,i,none⟩=w.cell? ⟨b,i,none⟩:=fun b i hs=>by
  by_cases hx:X b
  ·by_cases h:T b i
   ·exact hT b i h hx
   ·exact(hs.seen ((hX b hx).2 i h)).elim
  ·exact World.cell?_of_block (w:=w) (ht.keep b hs.lt hx)
 have stw:Ha2 w β L w' β' L:=⟨fun b i hs=>⟨stab b i hs,cell b i hs⟩,fun _ _ cs h=>⟨rfl,cs,h⟩,fun _ _ es h=>⟨rfl,es,h⟩,fun _ _ n es h=>⟨rfl,n,es,h⟩,
  fun id _ _ ver xs h=>⟨ver,xs,h,Kn,fun _=>⟨rfl,rfl,fun b hb=>G5a (same id b (by rw [h]; rfl) hb)⟩⟩,
  fun id _ _ ver hw h=>⟨ver,hw,h,Kn,fun _=>⟨rfl,rfl,fun b hb=>same id b (by rw [h]; rfl) hb⟩⟩⟩
 refine⟨⟨fun b i h=>h.elim (fun h=>Nat.lt_of_lt_of_le (hsat.hid b i h) ht.size) (fun h=>h.2),fun id b h1 h2=>Nat.lt_of_lt_of_le (hsat.bnd id b h1 h2) ht.size,fun id b j h1 h2 h=>h.elim (hsat.apart id b j h1 h2) (fun h=>by have:=hsat.bnd id b h1 h2; omega),hsat.inj,
  fun id o ho=>(hsat.obj id o ho).stepW stw (fun b hb=>same id b (by rw [ho]; rfl) hb)⟩,stw,fun b hb=>⟨hlt b hb,fun i hn=>?_⟩⟩
 rcases Nat.lt_or_ge b w.heap.size with h | h
 ·exact .inl ((hX b ((hX' b h).1 hb)).2 i hn)
 ·exact .inr ⟨h,hlt b hb⟩

def J8a (l:Fr):List Operand→List AV→Prop
 | [],[]=>True
 | x::r,u::s=>ev l x=u∧u.isData=true∧J8a l r s
 | _,_=>False
theorem J8a.length {l:Fr}:∀ {xs:List Operand} {us:List AV},J8a l xs us→xs.length=us.length
 | [],[],_=>rfl
 | _::_,_::_,h=>by simp [J8a.length h.2.2]
 | [],_::_,h=>h.elim
 | _::_,[],h=>h.elim
theorem J8a.get {l:Fr}:∀ {xs:List Operand} {us:List AV},J8a l xs us→∀ {j:Nat} {x:Operand} {u:AV},xs[j]? = some x→us[j]? = some u→ev l x=u∧u.isData=true
 | _::_,_::_,h,0,x,u,hx,hu=>by simp at hx hu; subst hx; subst hu; exact⟨h.1,h.2.1⟩
 | _::_,_::_,h,j+1,x,u,hx,hu=>J8a.get h.2.2 (by simpa using hx) (by simpa using hu)
 | [],[],_,j,x,u,hx,_=>by simp at hx
 | [],_::_,h,_,_,_,_,_=>h.elim
 | _::_,[],h,_,_,_,_,_=>h.elim

theorem Y01 {d:Nat} {x:Operand} {xs:List Operand} {us:List AV} {ts:Array TypeId} (hE:E.Ok P) (ho:o.op=.call { callee:=.value x,args:=xs.toArray,argTypes:=ts }) (hx:ev l x=.sc (.func (.yield E.lp) #[] #[]))
  (ha:J8a l xs us) (hy:E.ys[k]? = some us) (hk:JIL E P N ops rest Q ((d,BL true)::l) L (k+1)) (hg:o.guard=none) (hd:o.dst=some d) (hn:Nat.blt d N.n=true):JIL E P N ops (o::rest) Q l L k:=by
 intro n a w β hs
 obtain⟨X,T,hJ,hX,hT⟩:=hs.gh
 have hlt:d < a.tmps.size:=Nat.lt_of_lt_of_le (by simpa [Nat.blt_eq] using hn) hs.size
 have hv:=hs.frame.ev x
 rw [hx] at hv
 have hxe:=hv.inv_sc
 obtain⟨fn,tmps,assign,body,hr,hR⟩:=hE.round (n - 1) k us X T (fun b i=>T b i∨(E.W0.heap.size≤b∧Qd w β L b i)) w (xs.toArray.map a.eval) hy hJ (fun b i h=>.inl h) (fun b i h hn=>h.elim (fun h=>(hn h).elim) fun h=>⟨h.1,fun hx=>h.2.seen ((hX b hx).2 i),h.2.lt⟩) (by simp [ha.length]) (fun j u v hu hv=>by
  simp only [Array.getElem?_map,List.getElem?_toArray,Option.map_eq_some_iff] at hv
  obtain⟨y,hy,rfl⟩:=hv
  obtain⟨h1,h2⟩:=ha.get hy hu
  have:=hs.frame.ev y
  rw [h1] at this
  exact(this.toD h2).mono fun b i hs'=>⟨(Nat.lt_or_ge b E.W0.heap.size).elim (fun h=>.inl (hs.vis b i h hs'.seen)) (fun h=>.inr (.inr ⟨h,hs'⟩)),rfl⟩)
 refine wpListIn_plain hg fun K hK=>?_
 refine⟨fun _ _=>trivial,?_⟩
 have hrun:(execOp a.eval o).run P w=.ok (.round E.lp fn tmps assign body) w:=by
  have h0:(execOp a.eval o).run P w=(Instr.yield E.lp (xs.toArray.map a.eval)).run P w:=by
   simp [execOp,ho,resolve,hxe,Deferred.ofValue,invoke]
   done
  rw [h0,hr]
 rw [show o.semAt Fence.wide.round a.eval=execOp a.eval o from rfl,hrun,Oper.uponIn_round]
 refine⟨fun e=>(by cases e),hR.mono fun e w' h=>?_⟩
 obtain⟨rfl,X',hJ',ht,hX',hlt'⟩:=h
 have hTs:∀ b i,(T b i∨(E.W0.heap.size≤b∧Qd w β L b i))→Qd w β L b i:=fun b i h=>h.elim (hT b i) (·.2)
 obtain⟨h1,h2,h3⟩:=StI.round (T:=fun _ _=>False) hs.sat (fun b h=>⟨(hX b h).1,fun i _=>(hX b h).2 i⟩) (fun id b h1 h2 hx=>hs.sat.apart id b 0 h1 h2 ((hX b hx).2 0)) ht (fun _ _ h=>h.elim) hX' hlt'
 rw [hd]
 refine hK _ _ (hk n _ w' _ ⟨h1,(hs.frame.stepW h2).put hlt .sc,by rw [Act.put_size]; exact hs.size,by rw [Act.put_defers']; exact hs.defers,Nat.le_trans hs.old ht.size,hs.own,⟨X',_,hJ',fun b h=>⟨(h3 b h).1,fun i=>(h3 b h).2 i id⟩,fun b i h=>(h2.stab b i (hTs b i h)).1⟩,fun b i hb hn=>hs.vis b i hb fun h=>hn (.inl h)⟩)

theorem Rcc {g:FuncId} {fn:Func} {c:Code} {caps:List AV} {ys:List (List AV)} (hf:P.funcs[g]? = some fn) (hb:fn.body=some c) (hres:fn.results=#[])
  (h:∀ E:Hdd,E.Ok P→E.ys=ys→JI E P ⟨fn.ntmps,[],none⟩ c ⟨fun _ _ k=>k=ys.length,fun _ _ k=>k=ys.length,fun _ _ _ _=>False⟩ (H2f 0 (.sc (.func (.yield E.lp) #[] #[])::caps)) [] 0):Iter P g caps ys:=by
 intro n E lb X0 hE hys hl hcap hS hX0 hJ
 have hsz:(#[Value.func (.yield E.lp) #[] #[]]++lb).size=(AV.sc (.func (.yield E.lp) #[] #[])::caps).length:=by simp [hl]; omega
 refine callsIn_of_wp hf hb trivial (Code.wpIn_mono (fun e a' w' q=>?_) (h E hE hys n _ E.W0 ⟨fun _=>none,fun b i=>¬ E.S b i∧b < E.W0.heap.size⟩ ⟨⟨fun b i h=>h.2,fun id b h=>by simp [lk] at h,fun id b j h=>by simp [lk] at h,fun id id' b h=>by simp [lk] at h,fun id o h=>by simp [lk] at h⟩,⟨fun t=>?_⟩,?_,rfl,Kn,fun id b h=>by simp [lk] at h,⟨X0,_,hJ,fun b hb=>⟨hX0 b hb,fun i=>⟨fun hs=>(hS b i hs).2 hb,hX0 b hb⟩⟩,fun _ _ h=>h.elim⟩,fun b i hb hn=>Classical.byContradiction fun h=>hn ⟨h,hb⟩⟩))
 ·have fin:(∃ β' l' L' k',StI E ⟨fn.ntmps,[],none⟩ a' w' β' l' L' k'∧k'=ys.length)→a'.defers=[]∧∃ v,(results fn a'.tmps).run P w'=.ok v w'∧((∃ v',Ending.returned v=.returned v')∧∃ X T,E.J ys.length X T w'):=by
   rintro⟨β',l',L',k',hs,rfl⟩
   obtain⟨X,T,hX,_⟩:=hs.gh
   exact⟨hs.defers,_,results_none hres _ _ _,⟨_,rfl⟩,X,T,hX⟩
  cases e with
  | normal=>exact fin q
  | ret=>exact fin q
  | exit i=>obtain⟨_,_,_,_,_,hq⟩:=q; exact hq.elim
  | goto l=>exact q.elim
  | panic c=>exact q.elim
  | outgrown=>exact q.elim
 ·rw [Hf7]
  simp only [Nat.zero_le,if_true,Nat.sub_zero]
  cases hu:(AV.sc (.func (.yield E.lp) #[] #[])::caps)[t]? with
  | none=>exact .junk
  | some u=>
   have ht:t < (#[Value.func (.yield E.lp) #[] #[]]++lb).size:=by rw [hsz]; exact(Kh hu).1
   have e:((#[Value.func (.yield E.lp) #[] #[]]++lb)++Array.replicate (fn.ntmps - (#[Value.func (.yield E.lp) #[] #[]]++lb).size) undef).getD t undef=(#[Value.func (.yield E.lp) #[] #[]]++lb)[t]:=by
    rw [Array.getD_eq_getD_getElem?,Array.getElem?_append_left ht,Array.getElem?_eq_getElem ht]; rfl
   rw [e]
   cases t with
   | zero=>simp at hu; subst hu; simp; exact .sc
   | succ t=>
    have hu':caps[t]? = some u:=by simpa using hu
    have hlt:t < lb.size:=by rw [hl]; exact(Kh hu').1
    have hv:=hcap t u lb[t] hu' (by simp [hlt])
    have ev:(#[Value.func (.yield E.lp) #[] #[]]++lb)[t+1]=lb[t]:=by simp [Array.getElem_append]
    rw [ev]
    exact .data (hv.mono fun b i hs=>⟨⟨(hS b i hs).1,fun h=>h.1 hs,fun id o h=>by simp [lk] at h⟩,rfl⟩)
 ·simp; omega
end ops

section code
variable {E:Hdd} {P:Program} {N:Cfg} {Q:H23} {l:Fr} {L:Loc} {k:Nat}
theorem J88 {body:Code} {σ:Type} (I:Nat→σ→Prop) (F:Nat→σ→Fr) (M:Nat→σ→Loc) (κ:Nat→σ→Nat) (μ:Nat→Nat) (i0:Nat) (s0:σ) (h0:I i0 s0) (hf:Fits N.base l L (F i0 s0) (M i0 s0)) (hk:k=κ i0 s0)
  (hr:∀ i s,I i s→∀ K:Fr→Loc→Nat→Prop,(∀ l L i' s' k',I i' s'→μ i' < μ i→Fits N.base l L (F i' s') (M i' s')→k'=κ i' s'→K l L k')→JI E P N body (Q.seq K) (F i s) (M i s) (κ i s)):JI E P N (.loop body) Q l L k:=
 Y5f (fun x:Nat×σ=>I x.1 x.2) (fun x=>F x.1 x.2) (fun x=>M x.1 x.2) (fun x=>κ x.1 x.2) (fun x=>μ x.1) (i0,s0) h0 hf hk
  (fun x hi K hK=>hr x.1 x.2 hi K (fun l L i' s' k' h1 h2 h3 h4=>h4 ▸ hK l L (i',s') h1 h2 h3))
theorem Y36 {c:Operand} {x y:Code} (hc:ev l c=.sc (.bool false)) (hf:JI E P N y Q l L k):JI E P N (.cond c x y) Q l L k:=H91 hc (fun e=>by cases e) (fun _=>hf)
theorem Y61 {ops:Array Oper} {o:Oper} {rest:List Oper} {T Et k' d kk:Nat} {x:Operand} {xs:List AV} (hE:E.Ok P) (hT:sliceB P T Et k'=true) (hk:xs.length≤maxLen→JIL E P N ops rest Q ((d,I64 (xs.length:Int))::l) L k) (ho:o.op=.call { callee:=.builtin .len,args:=#[x],argTypes:=#[T] }) (hx:Qj (ev l x)=some (kk,xs))
  (hg:o.guard=none) (hd:o.dst=some d) (hn:Nat.blt d N.n=true):JIL E P N ops (o::rest) Q l L k:=by
 intro n a w β hs
 obtain⟨ao,cap,h1,h2,h3⟩:=((hs.frame.ev x).Qj hx).len
 exact J9 hE (Y3f hT ho hx) (hk (Nat.le_trans h2 h3)) hg hd hn (by unfold G77; rw [ho]) n a w β hs
theorem Q63 {ops:Array Oper} {o:Oper} {rest:List Oper} {x:Operand} {T Et kk k' d:Nat} {α:Type} {f:α→AV} {xs:List α} (hE:E.Ok P) (hT:sliceB P T Et k'=true) (ho:o.op=.call { callee:=.builtin .len,args:=#[x],argTypes:=#[T] }) (hx:Qj (ev l x)=some (kk,xs.map f))
  (hk:xs.length≤maxLen→JIL E P N ops rest Q ((d,I64 (xs.length:Int))::l) L k) (hg:o.guard=none) (hd:o.dst=some d) (hn:Nat.blt d N.n=true):JIL E P N ops (o::rest) Q l L k:=
 Y61 hE hT (fun hm=>by simp only [Ks] at hm ⊢; exact hk hm) ho hx hg hd hn
theorem Y0d {α:Type} [DecidableEq α] {f:α→List AV} {ys:List α} {x:α} (hys:E.ys=ys.map f) (h:decide (ys[k]? = some x)=true):E.ys[k]? = some (f x):=by
 rw [hys,List.getElem?_map,Kd h]; rfl
theorem Qb7 {α:Type} {f:α→List AV} {ys:List α} (h:decide (k=ys.length)=true):k=(ys.map f).length:=by
 rw [Ks]; exact Kd h
theorem Rba {α β:Type} {f:α→β} {ys:List α} {k:Nat} {u:β} (h:(ys.map f)[k]? = some u):∃ hk:k < ys.length,u=f ys[k]:=by
 rw [List.getElem?_map] at h
 cases hy:ys[k]? with
 | none=>rw [hy] at h; cases h
 | some y=>
  rw [hy] at h
  obtain⟨hk,e⟩:=Kh hy
  exact⟨hk,by rw [e]; exact(Kj h).symm⟩
end code

def Jea:List Tmp→List AV→Fr→Fr
 | p::ps,u::us,l=>Jea ps us ((p,u)::l)
 | _,_,l=>l
theorem Qe.round {w:World} {β:Hd} {L:Loc}:∀ {ps:List Tmp} {us:List AV} {vs:List Value} {tmps:Array Value} {l:Fr},ps.length=us.length→vs.length=us.length→(∀ p∈ps,p < tmps.size)→Qe { tmps:=tmps,defers:=[] } w β L l →
  (∀ (j:Nat) u v,us[j]? = some u→vs[j]? = some v→V w β L u v)→Qe { tmps:=(ps.zip vs).foldl (fun t (x:Tmp×Value)=>t.setIfInBounds x.1 x.2) tmps,defers:=[] } w β L (Jea ps us l)
 | [],[],[],_,_,_,_,_,h,_=>h
 | p::ps,u::us,v::vs,tmps,l,h1,h2,h3,h,hv=>by
  have hp:=h.put (d:=p) (u:=u) (v:=v) (h3 p (List.mem_cons_self ..)) (hv 0 u v rfl rfl)
  exact Qe.round (ps:=ps) (us:=us) (vs:=vs) (by simpa using h1) (by simpa using h2) (fun q hq=>by simpa using h3 q (List.mem_cons_of_mem _ hq)) hp (fun j u' v' hu hv'=>hv (j+1) u' v' (by simpa using hu) (by simpa using hv'))
 | [],_::_,_,_,_,h,_,_,_,_=>by simp at h
 | _::_,[],_,_,_,h,_,_,_,_=>by simp at h
 | _,[],_::_,_,_,_,h,_,_,_=>by simp at h
 | _,_::_,[],_,_,_,h,_,_,_=>by simp at h
theorem Y0c {ps:List Tmp}:∀ {vs:List Value} {tmps:Array Value},((ps.zip vs).foldl (fun t (x:Tmp×Value)=>t.setIfInBounds x.1 x.2) tmps).size=tmps.size:=by
 induction ps with
 | nil=>intro vs tmps; simp
 | cons p ps ih=>
  intro vs tmps
  cases vs with
  | nil=>simp
  | cons v vs=>rw [List.zip_cons_cons,List.foldl_cons,ih]; simp

theorem Step.thenW {w0 W W':World} {β0 β β':Hd} {L0 L L':Loc} (h:Step w0 β0 L0 W β L) (k:Ha2 W β L W' β' L') (h1:W'.os=W.os) (h2:W'.tape=W.tape) (h3:W'.output=W.output∧W.drawn≤W'.drawn) (h4:W.heap.size≤W'.heap.size)
  (hid:∀ b i,b < w0.heap.size→(β'.hid b i ↔ β.hid b i)) (far:∀ b,b < w0.heap.size→(∀ id,(lk L id).isSome=true→β id≠some b)→W'.heap[b]? = W.heap[b]? ∧ ∀ id,(lk L' id).isSome=true→β' id≠some b):Step w0 β0 L0 W' β' L' where
 os:=h1.trans h.os
 tape:=h2.trans h.tape
 output:=⟨h3.1.trans h.output.1,Nat.le_trans h.output.2 h3.2⟩
 size:=Nat.le_trans h.size h4
 hid:=fun b i hb=>(hid b i hb).trans (h.hid b i hb)
 stab:=fun b i hs=>by
  obtain⟨a1,a2⟩:=h.stab b i hs
  obtain⟨k1,k2⟩:=k.stab b i a1
  exact⟨k1,k2.trans a2⟩
 far:=fun b hb hf=>by
  obtain⟨a1,a2⟩:=h.far b hb hf
  obtain⟨k1,k2⟩:=far b hb a2
  exact⟨k1.trans a1,k2⟩
 box:=fun id t cs hi=>by
  obtain⟨h1,cs',h2⟩:=h.box id t cs hi
  obtain⟨k1,k2⟩:=k.box id t cs' h2
  exact⟨k1.trans h1,k2⟩
 map:=fun id t es hi=>by
  obtain⟨h1,es',h2⟩:=h.map id t es hi
  obtain⟨k1,k2⟩:=k.map id t es' h2
  exact⟨k1.trans h1,k2⟩
 iter:=fun id m n es hi=>by
  obtain⟨h1,n',es',h2⟩:=h.iter id m n es hi
  obtain⟨k1,k2⟩:=k.iter id m n' es' h2
  exact⟨k1.trans h1,k2⟩
 vec:=fun id t kk ver xs hi=>by
  obtain⟨v1,xs1,h1,h2,h3⟩:=h.vec id t kk ver xs hi
  obtain⟨v2,xs2,k1,k2,k3⟩:=k.vec id t kk v1 xs1 h1
  refine⟨v2,xs2,k1,Nat.le_trans h2 k2,fun e=>?_⟩
  obtain⟨a1,a2,a3⟩:=h3 (by omega)
  obtain⟨b1,b2,b3⟩:=k3 (by omega)
  exact⟨b1.trans a1,b2.trans a2,fun b hb=>(b3 b (a2.trans hb)).trans (a3 b hb)⟩
 spare:=fun id t kk ver hw hi=>by
  obtain⟨v1,hw1,h1,h2,h3⟩:=h.spare id t kk ver hw hi
  obtain⟨v2,hw2,k1,k2,k3⟩:=k.spare id t kk v1 hw1 h1
  refine⟨v2,hw2,k1,Nat.le_trans h2 k2,fun e=>?_⟩
  obtain⟨a1,a2,a3⟩:=h3 (by omega)
  obtain⟨b1,b2,b3⟩:=k3 (by omega)
  exact⟨b1.trans a1,b2.trans a2,fun b hb=>(b3 b (a2.trans hb)).trans (a3 b hb)⟩

theorem Step.drop {w0 w:World} {β0 β:Hd} {L0 L L':Loc} {N:Cfg} {a:Act} {l l':Fr} (h:Step w0 β0 L0 w β L) (hsat:Sat w β L) (hbase:∀ id,(lk L0 id).isSome=true→id∈N.base) (hf:Fits N.base l L l' L') (ha:N.n≤a.tmps.size) (hd:a.defers=[]) (hfr:Qe a w β L l):Step w0 β0 L0 w β L':=
 (Ys.fits (N:=N) (a:=a) ⟨hsat,h,hfr,ha,hbase,by rw [hd]; exact .nil⟩ hf).step

def J98:Loc→Bool
 | []=>true
 | (_,.spare _ _ _ hw)::r=>Nat.beq hw 0&&J98 r
 | _::r=>J98 r
theorem Qa1:∀ {L:Loc},J98 L=true→∀ {id:Nat} {o:Jt},lk L id=some o→∀ i,¬ o.keeps i
 | (j,x)::r,h,id,o,ho,i=>by
  rw [Gs] at ho
  split at ho
  ·cases ho
   cases x with
   | spare t k ver hw=>
    simp only [J98,Kq] at h
    have:=Nat.eq_of_beq_eq_true h.1
    subst this
    simp [Jt.keeps]
   | _=>simp [Jt.keeps]
  ·refine Qa1 (L:=r) ?_ ho i
   cases x <;> simp [J98] at h ⊢ <;> first | exact h | exact h.2
 | [],_,id,o,ho,_=>by simp [lk] at ho

structure Between (P:Program) (N:Cfg) (w0:World) (β0:Hd) (L0:Loc) (tmps:Array Value) (ds:List Deferred) (l1:Fr) (S:Nat→Nat→Prop) (n0 lp D:Nat) (rec:Loop) (L:Loc) (X:Nat→Prop) (T:Nat→Nat→Prop) (W:World) (β:Hd):Prop where
 sat:Sat W β L
 step:Step w0 β0 L0 W β L
 frame:Qe { tmps:=tmps,defers:=[] } W β L l1
 obj:∀ id b,(lk L id).isSome=true→β id=some b→X b∧b≠lp∧b≠D
 hid:∀ b,n0≤b→b < W.heap.size→¬ X b→∀ i,¬ T b i→β.hid b i
 lt:∀ b,X b→b < W.heap.size
 loop:W.heap[lp]? = some (.loop rec)
 mark:W.heap[D]? = some (.deferred (some []))
 old:n0≤W.heap.size
 data:∀ b i,S b i→Qd W β L b i
 tdata:∀ b i,T b i→n0≤b∧Qd W β L b i
 defs:Hab none w0.heap.size W β L ds
 deflt:∀ d∈ds,∀ D',d={ target:=.collected D',args:=#[] }→D' < n0
theorem Hab.turned {ro:Option Nat} {B n0:Nat} {w w':World} {β β':Hd} {L:Loc} {ds:List Deferred} (h:Hab ro B w β L ds) (hlt:∀ d∈ds,∀ D',d={ target:=.collected D',args:=#[] }→D' < n0) (hk:∀ D,D < n0→w.heap[D]? = some (.deferred (some []))→w'.heap[D]? = w.heap[D]?) (hb:∀ id,β' id=β id):Hab ro B w' β' L ds:=
 ⟨h.top,h.nodup,fun d hd=>by
  obtain⟨D,e,h1,h2,h3⟩:=h.each d hd
  exact⟨D,e,h1,(hk D (hlt d hd D e) h2).trans h2,fun id hi he=>h3 id hi ((hb id).symm.trans he)⟩⟩

def Mid (P:Program) (N:Cfg) (body:Code) (Q:Post) (l:Fr) (L:Loc):Prop:=
 ∃ l' L',(∀ w0 β0 L0 a w β,Ys N w0 β0 L0 a w β l L→∃ β',Ys N w0 β0 L0 a w β' l' L')∧JC P ⟨N.n,L'.map (·.1),N.ro⟩ body Q l' L'
theorem Y33 {P:Program} {N:Cfg} {body:Code} {Q:Post} {l:Fr} {L:Loc} (h:JC P ⟨N.n,L.map (·.1),N.ro⟩ body Q l L):Mid P N body Q l L:=⟨l,L,fun _ _ _ _ _ β hs=>⟨β,hs⟩,h⟩
theorem R3a {P:Program} {N:Cfg} {body:Code} {Q:Post} {l l':Fr} {L L':Loc} (hc:∀ w0 β0 L0 a w β,Ys N w0 β0 L0 a w β l L→∃ β',Ys N w0 β0 L0 a w β' l' L') (h:Mid P N body Q l' L'):Mid P N body Q l L:=by
 obtain⟨l2,L2,h1,h2⟩:=h
 refine⟨l2,L2,fun w0 β0 L0 a w β hs=>?_,h2⟩
 obtain⟨β',hs'⟩:=hc w0 β0 L0 a w β hs
 exact h1 w0 β0 L0 a w β' hs'

theorem R9a {P:Program} {N:Cfg} {body:Code} {Q:Post} {l:Fr} {L:Loc} (l':Fr) (L':Loc) (i:Nat) {t:TypeId} {cs:List AV} (hi:lk L i=some (.box t cs)) (hd:G2c (fun _=>false) cs=true)
  (hi':lk L' i=none) (hl:H00 (fun j=>(lk L' j).isSome) L L') (hb:allIn L' N.base=true) (hf:R9e i cs (fun j=>(lk L' j).isSome) l l') (hk:Mid P N body Q l' L'):Mid P N body Q l L:=
 R3a (fun _ _ _ _ _ β hs=>⟨β,hs.freeze i hi hd hi' hl hb hf⟩) hk
theorem Between.more {P:Program} {N:Cfg} {w0:World} {β0:Hd} {L0:Loc} {tmps:Array Value} {ds:List Deferred} {l1:Fr} {S:Nat→Nat→Prop} {n0 lp D:Nat} {rec:Loop} {L:Loc} {X:Nat→Prop} {T T':Nat→Nat→Prop} {W:World} {β:Hd}
  (h:Between P N w0 β0 L0 tmps ds l1 S n0 lp D rec L X T W β) (h1:∀ b i,T b i→T' b i) (h2:∀ b i,T' b i→¬ T b i→n0≤b∧¬ X b∧b < W.heap.size) (h0:w0.heap.size≤n0) :
  Between P N w0 β0 L0 tmps ds l1 S n0 lp D rec L X T' W ⟨β.at_,fun b i=>β.hid b i∧¬ T' b i⟩:=by
 have told:∀ b i,T' b i→n0≤b:=fun b i h'=>by
  by_cases ht:T b i
  ·exact(h.tdata b i ht).1
  ·exact(h2 b i h' ht).1
 have stab:∀ b i,Qd W β L b i→Qd W ⟨β.at_,fun b i=>β.hid b i∧¬ T' b i⟩ L b i:=fun b i hs=>⟨hs.lt,fun hh=>hs.seen hh.1,hs.kept⟩
 have stw:Ha2 W β L W ⟨β.at_,fun b i=>β.hid b i∧¬ T' b i⟩ L:=⟨fun b i hs=>⟨stab b i hs,rfl⟩,fun _ _ cs h=>⟨rfl,cs,h⟩,fun _ _ es h=>⟨rfl,es,h⟩,fun _ _ n es h=>⟨rfl,n,es,h⟩,
  fun id _ _ ver xs h=>⟨ver,xs,h,Kn,fun _=>⟨rfl,rfl,fun b hb=>rfl⟩⟩,fun id _ _ ver hw h=>⟨ver,hw,h,Kn,fun _=>⟨rfl,rfl,fun b hb=>rfl⟩⟩⟩
 refine⟨⟨fun b i hh=>h.sat.hid b i hh.1,h.sat.bnd,fun id b j h1 h2 hh=>h.sat.apart id b j h1 h2 hh.1,h.sat.inj,fun id o ho=>(h.sat.obj id o ho).stepW stw (fun b hb=>rfl)⟩,
  h.step.thenW stw rfl rfl ⟨rfl,Kn⟩ (Kn) (fun b i hlt=>⟨fun hh=>hh.1,fun hh=>⟨hh,fun ht=>by have:=told b i ht; omega⟩⟩) (fun b hlt hf=>⟨rfl,hf⟩),⟨fun t=>(h.frame.tmp t).stepW stw⟩,h.obj,
  fun b g1 g2 g3 i g4=>⟨h.hid b g1 g2 g3 i (fun ht=>g4 (h1 b i ht)),g4⟩,h.lt,h.loop,h.mark,h.old,fun b i hs=>stab b i (h.data b i hs),fun b i ht'=>⟨told b i ht',?_⟩,h.defs.turned h.deflt (fun _ _ _=>rfl) (fun _=>rfl),h.deflt⟩
 by_cases ht:T b i
 ·exact stab b i (h.tdata b i ht).2
 ·obtain⟨g1,g2,g3⟩:=h2 b i ht' ht
  exact⟨g3,fun hh=>hh.2 ht',fun id o ho hb=>(g2 (h.obj id b (by rw [ho]; rfl) hb).1).elim⟩

theorem J89 {P:Program} {N:Cfg} {gop:Operand} {ps:List Tmp} {assign body:Code} {Q:Post} {l:Fr} {L:Loc} (l1:Fr) {gf:FuncId} {caps:List AV} (ys:List (List AV)) {σ:Type} (I:Nat→σ→Prop) (M:σ→Loc) (s0:σ)
  (hro:N.ro=none) (hg:ev l gop=.fn gf caps) (hcd:G2c (fun _=>false) caps=true) (hB:Hf P gf=true) (hit:Iter P gf caps ys) (h0:I 0 s0) (hf:Fits N.base l L l1 (M s0)) (hnk:J98 (M s0)=true)
  (hps:∀ us∈ys,ps.length=us.length) (hpn:∀ p∈ps,p < N.n) (hl1:∀ s,Jdd (fun i=>(lk (M s) i).isSome) l1 l1) (hbs:∀ s,allIn (M s) N.base=true)
  (hr:∀ k us s,ys[k]? = some us→I k s→∀ (lr:Nat) (K:Fr→Loc→Prop),(∀ l L s',I (k+1) s'→Fits [] l L [] (M s')→K l L) →
   JC P ⟨N.n,(M s).map (·.1),some lr⟩ assign ⟨fun l2 L2=>Mid P ⟨N.n,(M s).map (·.1),some lr⟩ body ⟨K,fun _ _=>False,fun _ _ _=>False⟩ l2 L2,fun _ _=>False,fun _ _ _=>False⟩ (Jea ps us l1) (M s))
  (hdone:∀ s,I ys.length s→Q.norm l1 (M s)):JC P N (.rangeFunc gop ps.toArray assign body) Q l L:=by
 intro n w0 β0 L0 a w β hs
 have hs1:=hs.fits hf
 have hv:=hs.frame.ev gop
 rw [hg] at hv
 obtain⟨lb,he,hlb,hcv⟩:=hv.inv_fn
 rw [hro]
 refine wpIn_rangeFunc (F:=FR none) ?_
 intro fn hfn
 obtain⟨rec,hrec⟩:∃ rec:LoopState→Option Code→Loop,rec=fun st pe=>{ state:=st,pending:=pe,fn,tmps:=a.tmps,params:=ps.toArray,assign,body,defers:=w.heap.size }:=⟨_,rfl⟩
 obtain⟨W1,hW1⟩:∃ W1,(w.alloc (.deferred (some []))).alloc (.loop (rec .ready none))=W1:=⟨_,rfl⟩
 have hsz1:W1.heap.size=w.heap.size+2:=by rw [← hW1]; simp
 have hL1:W1.heap[w.heap.size+1]? = some (.loop (rec .ready none)):=by
  rw [← hW1]; have:=World.alloc_heap_new (w.alloc (.deferred (some []))) (.loop (rec .ready none)); rwa [World.size_alloc] at this
 have hK1:W1.heap[w.heap.size]? = some (.deferred (some [])):=by
  rw [← hW1]; exact(Below.heap_alloc _ _ _ (by simp)).trans (World.alloc_heap_new w _)
 have hold1:∀ b,b < w.heap.size→W1.heap[b]? = w.heap[b]? := fun b hb=>by
  rw [← hW1]; exact(Qo _ _ (by simp; omega)).trans (Qo w _ hb)
 have hw0:w0.heap.size≤w.heap.size:=hs.step.size
 obtain⟨S,hSd⟩:∃ S:Nat→Nat→Prop,S=Qd w β (M s0):=⟨_,rfl⟩
 obtain⟨X0,hX0⟩:∃ X0:Nat→Prop,X0=fun b=>∃ id,(lk (M s0) id).isSome=true∧β id=some b:=⟨_,rfl⟩
 obtain⟨E,hE⟩:∃ E:Hdd,E={ W0:=W1,S:=S,lp:=w.heap.size+1,ys:=ys,J:=fun k X T W=>∃ β1 s,I k s∧Between P N w0 β0 L0 a.tmps a.defers l1 S W1.heap.size (w.heap.size+1) w.heap.size (rec .ready none) (M s) X T W β1 }:=⟨_,rfl⟩
 have stw1:Ha2 w β (M s0) W1 β (M s0):=by
  refine⟨fun b i h=>⟨⟨by have:=h.lt; omega,h.seen,h.kept⟩,World.cell?_of_block (w:=w) (hold1 b h.lt)⟩,fun _ _ cs h=>⟨rfl,cs,h⟩,fun _ _ es h=>⟨rfl,es,h⟩,fun _ _ n es h=>⟨rfl,n,es,h⟩,
   fun id _ _ ver xs h=>⟨ver,xs,h,Kn,fun _=>⟨rfl,rfl,fun b hb=>G5a (hold1 b (hs1.sat.bnd id b (by rw [h]; rfl) hb))⟩⟩,
   fun id _ _ ver hw h=>⟨ver,hw,h,Kn,fun _=>⟨rfl,rfl,fun b hb=>hold1 b (hs1.sat.bnd id b (by rw [h]; rfl) hb)⟩⟩⟩
 have hdlt:∀ d∈a.defers,∀ D',d={ target:=.collected D',args:=#[] }→D' < w.heap.size:=fun d hd D' e=>by
  obtain⟨D,e2,_,h2,_⟩:=hs1.defers.each d hd
  have:D'=D:=by rw [e] at e2; injection e2 with e3; injection e3
  subst this
  exact(Array.getElem?_eq_some_iff.1 h2).1
 have start:Between P N w0 β0 L0 a.tmps a.defers l1 S W1.heap.size (w.heap.size+1) w.heap.size (rec .ready none) (M s0) X0 (fun _ _=>False) W1 β:=by
  refine⟨⟨fun b i h=>by have:=hs1.sat.hid b i h; omega,fun id b h1 h2=>by have:=hs1.sat.bnd id b h1 h2; omega,hs1.sat.apart,hs1.sat.inj,fun id o ho=>(hs1.sat.obj id o ho).stepW stw1 (fun b hb=>hold1 b (hs1.sat.bnd id b (by rw [ho]; rfl) hb))⟩,
   hs1.step.thenW stw1 (by rw [← hW1]; rfl) (by rw [← hW1]; rfl) (by rw [← hW1]; exact⟨rfl,Kn⟩) (by omega) (fun _ _ _=>Iff.rfl) (fun b hb hf=>⟨hold1 b (by omega),hf⟩),⟨fun t=>(hs1.frame.tmp t).stepW stw1⟩,fun id b h1 h2=>?_,fun b h1 h2=>by omega,fun b hb=>?_,hL1,hK1,Kn,fun b i hb=>?_,fun _ _ h=>h.elim,?_,?_⟩
  ·have:=hs1.sat.bnd id b h1 h2
   exact⟨by rw [hX0]; exact⟨id,h1,h2⟩,by omega,by omega⟩
  ·rw [hX0] at hb; obtain⟨id,h1,h2⟩:=hb
   have:=hs1.sat.bnd id b h1 h2; omega
  ·rw [hSd] at hb; exact(stw1.stab b i hb).1
  ·have:=hs1.defers
   rw [hro] at this
   exact this.turned (n0:=w.heap.size) hdlt (fun D hD _=>hold1 D hD) (fun _=>rfl)
  ·intro d hd D' e
   have:=hdlt d hd D' e; omega
 have hEok:E.Ok P:=by
  subst hE
  refine⟨fun k X T W W' hJ ht hTc=>?_,fun m k us X T0 T W vs hy hJ hT1 hT2 hsz hD=>?_⟩
  ·obtain⟨β1,s,hI,hb⟩:=hJ
   obtain⟨g1,g2,g3⟩:=StI.round (X:=fun b=>W1.heap.size≤b∧¬ X b∧b < W.heap.size) (X':=fun b=>W1.heap.size≤b∧¬ X b∧b < W'.heap.size) (T:=T) (w':=W') hb.sat (fun b h=>⟨h.2.2,hb.hid b h.1 h.2.2 h.2.1⟩) (fun id b h1 h2 hx=>hx.2.1 (hb.obj id b h1 h2).1)
    ⟨ht.os,ht.tape,ht.output,ht.size,fun b h1 h2=>ht.keep b h1 (fun h=>h2 ⟨h.1,h.2,h1⟩)⟩ (fun b i h _=>hTc b i h) (fun b h=>⟨fun h'=>⟨h'.1,h'.2.1,h⟩,fun h'=>⟨h'.1,h'.2.1,by have:=ht.size; omega⟩⟩) (fun b h=>h.2.2)
   have hn0:∀ b,b < W1.heap.size→b < W.heap.size→W'.heap[b]? = W.heap[b]? := fun b h1 h2=>ht.keep b h2 (fun h=>by have h3:W1.heap.size≤b:=h.1; omega)
   refine⟨_,s,hI,g1,hb.step.thenW g2 ht.os ht.tape ht.output ht.size (fun b i hlt=>⟨fun h=>h.elim id (fun h=>by have:=hb.old; omega),.inl⟩) (fun b hlt hf=>⟨hn0 b (by omega) (by have:=hb.old; omega),hf⟩),⟨fun t=>(hb.frame.tmp t).stepW g2⟩,hb.obj,fun b h1 h2 h3=>(g3 b ⟨h1,h3,h2⟩).2,fun b h=>Nat.lt_of_lt_of_le (hb.lt b h) ht.size,?_,?_,Nat.le_trans hb.old ht.size,fun b i h=>(g2.stab b i (hb.data b i h)).1,fun b i h=>⟨(hb.tdata b i h).1,(g2.stab b i (hb.tdata b i h).2).1⟩,?_,hb.deflt⟩
   ·exact(hn0 _ (by omega) (Array.getElem?_eq_some_iff.1 hb.loop).1).trans hb.loop
   ·exact(hn0 _ (by omega) (Array.getElem?_eq_some_iff.1 hb.mark).1).trans hb.mark
   ·exact hb.defs.turned hb.deflt (fun D h1 h2=>hn0 D h1 (Array.getElem?_eq_some_iff.1 h2).1) (fun _=>rfl)
  ·obtain⟨βq,s,hI,hb0⟩:=hJ
   obtain⟨β1,hb⟩:∃ β1,Between P N w0 β0 L0 a.tmps a.defers l1 S W1.heap.size (w.heap.size+1) w.heap.size (rec .ready none) (M s) X T W β1:=⟨_,hb0.more hT1 hT2 (by omega)⟩
   have hlen:ps.length=us.length:=hps us (Kk hy)
   have hyr:=run_yield (P:=P) (args:=vs) hb.loop (by rw [hrec]; simp [hsz,hlen])
   rw [hrec] at hyr
   have htm:(ps.toArray.zip vs).foldl (fun(tmps:Array Value) (x:Tmp×Value)=>tmps.setIfInBounds x.1 x.2) a.tmps=(ps.zip vs.toList).foldl (fun(tmps:Array Value) (x:Tmp×Value)=>tmps.setIfInBounds x.1 x.2) a.tmps:=by
    rw [← Array.foldl_toList,Array.toList_zip]
   have hlpW:w.heap.size+1 < W.heap.size:=(Array.getElem?_eq_some_iff.1 hb.loop).1
   have hDW:w.heap.size < W.heap.size:=by omega
   have nlp:∀ id,(lk (M s) id).isSome=true→β1 id≠some (w.heap.size+1):=fun id h1 h2=>(hb.obj id _ h1 h2).2.1 rfl
   have nD:∀ id,(lk (M s) id).isSome=true→β1 id≠some w.heap.size:=fun id h1 h2=>(hb.obj id _ h1 h2).2.2 rfl
   have hsize:N.n≤((ps.toArray.zip vs).foldl (fun(tmps:Array Value) (x:Tmp×Value)=>tmps.setIfInBounds x.1 x.2) a.tmps).size:=by rw [htm,Y0c]; exact hs.size
   have hfr:Qe { tmps:=(ps.toArray.zip vs).foldl (fun(tmps:Array Value) (x:Tmp×Value)=>tmps.setIfInBounds x.1 x.2) a.tmps,defers:=[] } W β1 (M s) (Jea ps us l1):=by
    rw [htm]
    refine Qe.round hlen (by simpa using hsz) (fun p hp=>Nat.lt_of_lt_of_le (hpn p hp) hs.size) hb.frame (fun j u v hu hv=>.data ((hD j u v hu (by simpa using hv)).mono fun b i h=>⟨h.elim (hb.data b i) (fun h=>(hb.tdata b i h).2),rfl⟩))
   have mem_ids:∀ (L:Loc) id,(lk L id).isSome=true→id∈L.map (·.1):=fun L id h=>by
    induction L with
    | nil=>simp [lk] at h
    | cons p r ih=>
     obtain⟨j,o⟩:=p
     rw [Gs] at h
     by_cases e:j=id
     ·subst e; simp
     ·rw [if_neg e] at h; simp [ih h]
   refine⟨fn,_,assign,body,hyr,roundIn_of_wpIn hfn ?_⟩
   refine wpIn_mono (hr k us s hy hI (w.heap.size+1) (fun l3 L3=>∃ s',I (k+1) s'∧Fits [] l3 L3 [] (M s')) (fun l3 L3 s' h1 h2=>⟨s',h1,h2⟩) m W β1 (M s) _ W β1 ⟨hb.sat,Step.refl _ _ _,hfr,hsize,mem_ids (M s),.nil⟩) (fun e a1 w1 q=>?_)
   cases e with
   | normal=>
    obtain⟨βm,lm,Lm,hsm,l2,L2,hcv,hbody⟩:=q
    obtain⟨β2,hs2⟩:=hcv _ _ _ _ _ _ hsm
    have st1:=hs2.step
    have f1:=st1.far _ hlpW nlp
    have d1:=st1.far _ hDW nD
    have hl1':=f1.1.trans hb.loop
    refine⟨_,run_beginRound hl1' (by rw [hrec]),?_⟩
    obtain⟨W2,hW2⟩:∃ W2,w1.putObj (w.heap.size+1) (.loop { rec .ready none with state:=.busy })=W2:=⟨_,rfl⟩
    have sw2:Ha2 w1 β2 L2 W2 β2 L2:=by rw [← hW2]; exact Ged hl1' (by simp) (by simp) f1.2
    have sat2:Sat W2 β2 L2:=by rw [← hW2]; exact Hbd hl1' (by simp) (by simp) f1.2 hs2.sat
    have hlp2:W2.heap[w.heap.size+1]? = some (.loop { rec .ready none with state:=.busy }):=by rw [← hW2]; exact World.putObj_heap_same (Array.getElem?_eq_some_iff.1 hl1').1
    have oth2:∀ b,b≠w.heap.size+1→W2.heap[b]? = w1.heap[b]? := fun b hb=>by rw [← hW2]; exact World.putObj_heap_other hb
    have sz2:W2.heap.size=w1.heap.size:=by rw [← hW2]; exact World.putObj_size
    have a1d:a1.defers=[]:=hs2.defers.top rfl
    rw [hW2]
    refine wpIn_mono (hbody m W2 β2 L2 a1 W2 β2 ⟨sat2,Step.refl _ _ _,⟨fun t=>(hs2.frame.tmp t).stepW sw2⟩,hs2.size,mem_ids L2,by rw [a1d]; exact .nil⟩) (fun e a3 w3 q=>?_)
    cases e with
    | normal=>
     obtain⟨β3,l3,L3,hs3,s',hI',hfit⟩:=q
     have st2:=hs3.step
     have f2:=st2.far (w.heap.size+1) (by have:=st1.size; omega) f1.2
     have d2:=st2.far w.heap.size (by have:=st1.size; omega) d1.2
     have hl3:=f2.1.trans hlp2
     have hend:=run_endRound (P:=P) none hl3
     obtain⟨W4,hW4⟩:∃ W4,w3.putObj (w.heap.size+1) (.loop (rec .ready none))=W4:=⟨_,rfl⟩
     have hend':(Instr.endRound (w.heap.size+1) none).run P w3=.ok (.bool true) W4:=by
      rw [← hW4]
      rw [hrec] at hend ⊢
      exact hend
     have sz4:W4.heap.size=w3.heap.size:=by rw [← hW4]; exact World.putObj_size
     have oth4:∀ b,b≠w.heap.size+1→W4.heap[b]? = w3.heap[b]? := fun b hb=>by rw [← hW4]; exact World.putObj_heap_other hb
     have hlp4:W4.heap[w.heap.size+1]? = some (.loop (rec .ready none)):=by rw [← hW4]; exact World.putObj_heap_same (Array.getElem?_eq_some_iff.1 hl3).1
     have hfit':Fits N.base l3 L3 [] (M s'):=⟨hfit.fr,hfit.loc,hbs s'⟩
     have hdr:=hfit.drop
     have f4:∀ id,(lk (M s') id).isSome=true→β3 id≠some (w.heap.size+1):=fun id h=>f2.2 id (hdr.some h)
     have sw4:Ha2 w3 β3 (M s') W4 β3 (M s'):=by rw [← hW4]; exact Ged hl3 (by simp) (by simp) f4
     have sat3:Sat w3 β3 (M s'):=hs3.sat.fits hfit'
     have sat4:Sat W4 β3 (M s'):=by rw [← hW4]; exact Hbd hl3 (by simp) (by simp) f4 sat3
     have szs1:=st1.size
     have szs2:=st2.size
     have hBle:w0.heap.size≤w.heap.size+1:=by omega
     -- the steps since the call began
     have g1:Step w0 β0 L0 w1 β2 L2:=hb.step.trans st1
     have g2:Step w0 β0 L0 W2 β2 L2:=by rw [← hW2]; exact H86 hl1' (by simp) (by simp) f1.2 w0 β0 L0 (Kn) hBle g1
     have g3:Step w0 β0 L0 w3 β3 L3:=g2.trans st2
     have g3':Step w0 β0 L0 w3 β3 (M s'):=g3.drop (N:=N) (a:={ a3 with defers:=[] }) hs3.sat hs.base hfit' hs3.size rfl ⟨hs3.frame.tmp⟩
     have g4:Step w0 β0 L0 W4 β3 (M s'):=by rw [← hW4]; exact H86 hl3 (by simp) (by simp) f4 w0 β0 L0 (Kn) hBle g3'
     have fr3:Qe { tmps:=a.tmps,defers:=[] } w3 β3 L3 l1:=((hb.frame.step st1).stepW sw2).step st2
     have fr4:Qe { tmps:=a.tmps,defers:=[] } W4 β3 (M s') l1:=⟨fun t=>((fr3.tmp t).conv hdr ((hl1 s').get t)).stepW sw4⟩
     -- what lay in W and is none of the caller's objects
     have keepW:∀ b,b < W.heap.size→b≠w.heap.size+1→(∀ id,(lk (M s) id).isSome=true→β1 id≠some b)→W4.heap[b]? = W.heap[b]? ∧ ∀ id,(lk L3 id).isSome=true→β3 id≠some b:=fun b hb1 hb2 hb3=>by
      obtain⟨e1,e2⟩:=st1.far b hb1 hb3
      obtain⟨e3,e4⟩:=st2.far b (by omega) e2
      exact⟨(oth4 b hb2).trans (e3.trans ((oth2 b hb2).trans e1)),e4⟩
     have hkD:=keepW w.heap.size hDW (by omega) nD
     have stabW:∀ b i,Qd W β1 (M s) b i→Qd W4 β3 (M s') b i:=fun b i h=>(sw4.stab b i (hdr.stab (st2.stab b i (sw2.stab b i (st1.stab b i h).1).1).1)).1
     refine⟨_,_,hend',rfl,fun b=>X b∨(W.heap.size≤b∧b < W4.heap.size),⟨β3,s',hI',sat4,g4,fr4,fun id b h1 h2=>?_,fun b h1 h2 h3 i h4=>?_,fun b h=>h.elim (fun h=>by have:=hb.lt b h; omega) (fun h=>h.2),hlp4,hkD.1.trans hb.mark,by have:=hb.old; omega,fun b i h=>stabW b i (hb.data b i h),fun b i h=>⟨(hb.tdata b i h).1,stabW b i (hb.tdata b i h).2⟩,?_,hb.deflt⟩,⟨?_,?_,?_,by omega,fun b h1 h2=>?_⟩,fun b h=>⟨fun h'=>h'.elim _root_.id (fun h'=>by omega),.inl⟩,fun b h=>h.elim (fun h=>by have:=hb.lt b h; omega) (fun h=>h.2)⟩
     ·have hl3':=hdr.some h1
      refine⟨?_,fun e=>f4 id h1 (by rw [h2,e]),fun e=>hkD.2 id hl3' (by rw [h2,e])⟩
      rcases Nat.lt_or_ge b W.heap.size with hlt | hge
      ·refine .inl (Classical.byContradiction fun hx=>?_)
       exact(keepW b hlt (fun e=>f4 id h1 (by rw [h2,e])) (fun id' h3 h4=>hx (hb.obj id' b h3 h4).1)).2 id hl3' h2
      ·exact .inr ⟨hge,by have:=sat4.bnd id b h1 h2; exact this⟩
     ·have hlt:b < W.heap.size:=Nat.lt_of_not_le fun h=>h3 (.inr ⟨h,h2⟩)
      have:=hb.hid b h1 hlt (fun h=>h3 (.inl h)) i h4
      exact(st2.hid b i (by omega)).2 ((st1.hid b i hlt).2 this)
     ·have q1:=hb.defs.step st1
      have nel:∀ d∈a.defers,∀ D',d={ target:=.collected D',args:=#[] }→W.heap[D']? = some (.deferred (some []))→D'≠w.heap.size+1:=fun d _ D' _ h e=>by rw [e,hb.loop] at h; cases h
      refine⟨q1.top,q1.nodup,fun d hd=>?_⟩
      obtain⟨D',e,h1,h2,h3⟩:=hb.defs.each d hd
      have hne:=nel d hd D' e h2
      have hkk:=keepW D' (Array.getElem?_eq_some_iff.1 h2).1 hne h3
      exact⟨D',e,h1,hkk.1.trans h2,fun id hi=>hkk.2 id (hdr.some hi)⟩
     ·rw [← hW4]; exact st2.os.trans (by rw [← hW2]; exact st1.os)
     ·rw [← hW4]; exact st2.tape.trans (by rw [← hW2]; exact st1.tape)
     ·have e2:=st2.output
      have e1:=st1.output
      rw [← hW2] at e2
      rw [← hW4]
      exact⟨e2.1.trans e1.1,Nat.le_trans e1.2 e2.2⟩
     ·by_cases e:b=w.heap.size+1
      ·rw [e,hlp4,hb.loop]
      ·exact(keepW b h1 e (fun id h3 h4=>h2 (hb.obj id b h3 h4).1)).1
    | ret=>obtain⟨_,_,_,_,hq⟩:=q; exact hq.elim
    | exit i=>obtain⟨_,_,_,_,hq⟩:=q; exact hq.elim
    | goto t=>exact q.elim
    | panic c=>exact q.elim
    | outgrown=>exact q.elim
   | ret=>obtain⟨_,_,_,_,hq⟩:=q; exact hq.elim
   | exit i=>obtain⟨_,_,_,_,hq⟩:=q; exact hq.elim
   | goto t=>exact q.elim
   | panic c=>exact q.elim
   | outgrown=>exact q.elim
 have hcap:∀ (j:Nat) u v,caps[j]? = some u→lb[j]? = some v→D W1 S u v:=fun j u v hu hv=>by
  have:=(hcv j u v hu hv).toD (G37 hcd u (Kk hu))
  refine this.mono fun b i h=>?_
  have h':=hf.drop.stab h
  refine⟨by rw [hSd]; exact h',World.cell?_of_block (w:=w) (hold1 b h'.lt)⟩
 have hSX:∀ b i,S b i→b < W1.heap.size∧¬ X0 b:=fun b i h=>by
  rw [hSd] at h
  refine⟨by have:=h.lt; omega,fun hx=>?_⟩
  rw [hX0] at hx
  obtain⟨id,h1,h2⟩:=hx
  obtain⟨o,ho⟩:=Option.isSome_iff_exists.1 h1
  exact Qa1 hnk ho i (h.kept id o ho h2)
 have hXlt:∀ b,X0 b→b < W1.heap.size:=start.lt
 have hcall:=hit (n - 1) E lb X0 hEok (by rw [hE]) hlb (by rw [hE]; exact hcap) (by rw [hE]; exact hSX) (by rw [hE]; exact hXlt) (by rw [hE]; exact⟨β,s0,h0,start⟩)
 refine⟨w.heap.size+1,[{ target:=.collected w.heap.size,args:=#[] }],W1,{ target:=.fn (.func gf) lb,args:=#[.func (.yield (w.heap.size+1)) #[] #[]] },W1,gf,
  #[.func (.yield (w.heap.size+1)) #[] #[]]++lb,W1,?_,?_,fun _ _=>trivial,?_,fun e=>(by cases e),?_⟩
 ·rw [← hW1,hrec]; exact run_enterLoop_outer _ _ _ _ _
 ·simp only [resolve,he]
  simp [go_sem]
 ·simp [invoke,go_sem,Hf.out hB]
 ·rw [hE] at hcall
  refine CallsIn.mono (F:=FR none) hcall fun e W2 h=>?_
  obtain⟨⟨v,rfl⟩,X,T,β1,s,hI,hb⟩:=h
  have hend:=run_endLoop (P:=P) hb.loop (by rw [hrec]; simp)
  refine⟨none,W2.putObj (w.heap.size+1) (.loop { rec .ready none with state:=.exhausted }),by rw [hrec] at hend ⊢; exact hend,β1,l1,M s,?_,hdone s hI⟩
  have nlp:∀ id,(lk (M s) id).isSome=true→β1 id≠some (w.heap.size+1):=fun id h1 h2=>(hb.obj id _ h1 h2).2.1 rfl
  refine⟨Hbd hb.loop (by simp) (by simp) nlp hb.sat,H86 hb.loop (by simp) (by simp) nlp w0 β0 L0 (Kn) (by omega) hb.step,⟨fun t=>(hb.frame.tmp t).stepW (Ged hb.loop (by simp) (by simp) nlp)⟩,hs.size,hs.base,?_⟩
  rw [hro]
  refine⟨fun h=>(by cases h),List.nodup_cons.2 ⟨fun h=>?_,hb.defs.nodup⟩,fun d hd=>?_⟩
  ·have:=hdlt _ h _ rfl; omega
  ·rcases Kw.1 hd with rfl | hd
   ·exact⟨_,rfl,hw0,(World.putObj_heap_other (by omega)).trans hb.mark,fun id h1 h2=>(hb.obj id _ h1 h2).2.2 rfl⟩
   ·obtain⟨D',e,h1,h2,h3⟩:=hb.defs.each d hd
    refine⟨D',e,h1,(World.putObj_heap_other fun e2=>?_).trans h2,h3⟩
    rw [e2,hb.loop] at h2; cases h2

theorem Y3b {P:Program} {o:Oper} {l:Fr} {L:Loc} {u:AV} {x y:Operand} {T i:Nat} {t:TypeId} (hT:Zf P T 0=true) (ho:o.op=.store T x y) (hu:ev l y=u) (hx:ev l x=.ptr i 0) (hi:lk L i=some (.box t []))
  (hc:u.flatOk=true) (hk:u.cells=[]):H5 P o l L (Is .junk ((i,.box t [])::L)):=by
 subst hu
 intro a w β K Q hsat hf hK
 have h1:=hf.ev x
 rw [hx] at h1
 obtain⟨b,hb,hax⟩:=h1.inv_ptr
 obtain⟨old,ho1,ho2,ho3⟩:=J01 hsat hi hb
 obtain⟨c1,c2,c3⟩:=(hf.ev y).cells hc
 rw [hk] at c1
 have hr:=H87 (P:=P) (off:=0) hT c1 c3 ho1 (by omega)
 unfold Oper.wp
 have hr':(execOp a.eval o).run P w=.ok .skip (w.setRow b (old.toList.take 0++(a.eval y).cells.toList++old.toList.drop (0+0)).toArray):=by
  simp [execOp,ho,hax,hr]
 rw [hr']
 have ho2':old.size=0:=by simpa using ho2
 have hcz:(a.eval y).cells.size=0:=by simpa using c1
 refine hK _ _ _ _ β ⟨rfl,rfl⟩ (hsat.set hi hb ho1 _ ?_ ?_) (Step.set hsat hi hb _) .junk
 ·simp [hcz,ho2']
 ·intro j u v hu hv
  simp at hu

theorem Ym.ver {P:Program} {f:FuncId} {args:List AV} {i t k n:Nat} {xs:List AV} (h:Ym P f args [] (fun u L'=>∃ p:Nat,u=.vec i p k n∧L'=[(i,.vec t k p xs)])) (q:Nat):Ym P f args [] (fun u L'=>u=.vec i q k n∧L'=[(i,.vec t k q xs)]):=by
 intro w β vs hsat hl hv
 refine(h w β vs hsat hl hv).mono fun e w' hr=>?_
 obtain⟨v,r,β',L',rfl,hs,st,hvr,p,rfl,rfl⟩:=hr
 have hlk:∀ id,(lk [(i,Jt.vec t k p xs)] id).isSome=(lk [(i,Jt.vec t k q xs)] id).isSome:=fun id=>by
  rw [Gs,Gs]; split <;> rfl
 have hstab:∀ b j,Qd w' β' [(i,Jt.vec t k p xs)] b j→Qd w' β' [(i,Jt.vec t k q xs)] b j:=fun b j h=>⟨h.lt,h.seen,fun id o ho hb=>by
  rw [Gs] at ho
  by_cases e:i=id
  ·subst e
   rw [if_pos rfl] at ho; cases ho
   exact(show False from h.kept i (.vec t k p xs) (by rw [Gs,if_pos rfl]) hb).elim
  ·rw [if_neg e] at ho; cases ho⟩
 refine⟨v,_,β',_,rfl,⟨hs.hid,fun id b h1=>hs.bnd id b (by rw [hlk]; exact h1),fun id b j h1=>hs.apart id b j (by rw [hlk]; exact h1),fun id id' b h1 h2=>hs.inj id id' b (by rw [hlk]; exact h1) (by rw [hlk]; exact h2),fun id o ho=>?_⟩,
  ⟨st.os,st.tape,st.output,st.size,st.hid,fun b j h=>⟨hstab b j (st.stab b j h).1,(st.stab b j h).2⟩,fun b hb hf=>⟨(st.far b hb hf).1,fun id hid=>(st.far b hb hf).2 id (by rw [hlk]; exact hid)⟩,fun id t cs h=>by simp [lk] at h,fun id t cs h=>by simp [lk] at h,fun id t n cs h=>by simp [lk] at h,fun id t k ver xs h=>by simp [lk] at h,fun id t k ver xs h=>by simp [lk] at h⟩,?_,rfl,rfl⟩
 ·rw [Gs] at ho
  by_cases e:i=id
  ·subst e
   rw [if_pos rfl] at ho; cases ho
   have h0:=hs.obj i _ (by rw [Gs,if_pos rfl])
   refine⟨h0.1,h0.2.imp_right ?_⟩
   rintro⟨b,hb,vs,a1,a2,a3⟩
   exact⟨b,hb,vs,a1,a2,fun j u v hu hv=>(a3 j u v hu hv).mono fun b i hs=>⟨hstab b i hs,rfl⟩⟩
  ·rw [if_neg e] at ho; cases ho
 ·cases hvr with
  | data h=>cases h
  | vec hp hone=>
   obtain⟨t',ver',xs',h1,_,h3⟩:=hp
   rw [Gs,if_pos rfl] at h1; cases h1
   exact .vec ⟨t,q,xs,by rw [Gs,if_pos rfl],Kn,fun _=>h3 rfl⟩ hone
def Gca (l:Fr):List Operand→List AV→Prop
 | [],[]=>True
 | x::r,u::s=>((ev l x).plain=u∨∃ k,u=.list k []∧ev l x=.sc (.slice none 0 0))∧u.isData=true∧Gca l r s
 | _,_=>False
theorem Gca.length {l:Fr}:∀ {xs:List Operand} {us:List AV},Gca l xs us→xs.length=us.length
 | [],[],_=>rfl
 | _::_,_::_,h=>by simp [Gca.length h.2.2]
 | [],_::_,h=>h.elim
 | _::_,[],h=>h.elim
theorem Gca.get {l:Fr}:∀ {xs:List Operand} {us:List AV},Gca l xs us→∀ {j:Nat} {x:Operand} {u:AV},xs[j]? = some x→us[j]? = some u→((ev l x).plain=u∨∃ k,u=.list k []∧ev l x=.sc (.slice none 0 0))∧u.isData=true
 | x::r,u::s,h,j,x',u',hx,hu=>by
  cases j with
  | zero=>simp at hx hu; subst hx; subst hu; exact⟨h.1,h.2.1⟩
  | succ j=>simp at hx hu; exact h.2.2.get hx hu
 | [],[],_,j,_,_,hx,_=>by simp at hx
 | [],_::_,h,_,_,_,_,_=>h.elim
 | _::_,[],h,_,_,_,_,_=>h.elim
theorem J8e {P:Program} {o:Oper} {l:Fr} {L:Loc} {u:AV} {f:FuncId} {xs:List Operand} {args:List AV} {ts:Array TypeId} (ho:o.op=.call { callee:=.value (.func f),args:=xs.toArray,argTypes:=ts }) (hc:Pure P f args (·=u)) (hB:Hf P f=true) (ha:Gca l xs args):H5 P o l L (Is u L):=by
 intro a w β K Q hsat hf hK
 have hr:(execOp a.eval o).run P w=.ok (.enter f (xs.toArray.map a.eval)) w:=by
  simp [execOp,ho,resolve,Act.eval,Deferred.ofValue,invoke,Hf.out hB]
 unfold Oper.wp
 rw [hr]
 show Calls P f _ w _
 refine(J16 hc hsat (vs:=xs.toArray.map a.eval) (by simp [ha.length]) (fun j u v hu hv=>?_)).mono fun e w' h=>?_
 ·simp only [Array.getElem?_map,List.getElem?_toArray,Option.map_eq_some_iff] at hv
  obtain⟨x,hx,rfl⟩:=hv
  obtain⟨h1,h2⟩:=ha.get hx hu
  rcases h1 with h1 | ⟨k0,h1,h3⟩
  ·have:=(hf.ev x).plain
   rw [h1] at this
   exact this.toD h2
  ·have hv:=hf.ev x
   rw [h3] at hv
   rw [h1,hv.inv_sc]
   exact .nil (Nat.zero_le _)
 ·obtain⟨v,r,rfl,h1,h2,h3,h4⟩:=h
  exact hK r L v w' β ⟨h4,rfl⟩ h1 h2 h3
/-! ### A variable of a map's type is set anew: the new map takes the old one's name -/

theorem Q24 {P:Program} {o:Oper} {a:Act} {w:World} {T E k:Nat} (ho:o.op=.buildSlice T 0 #[]) (hT:sliceB P T E k=true):(execOp a.eval o).run P w=.ok (.value (.slice (some ⟨w.heap.size,0,none⟩) 0 0)) (w.alloc (.cells #[] E)):=by
 have hsz:=Qw (sliceB.out hT).2 w
 simp [execOp,ho,Instr.buildSlice,underlying,(sliceB.out hT).1,run_program,Sem.run_bind,Result.andThen_ok,hsz,newRow,Instr.fill]
 exact congrArg (fun x=>w.alloc (Obj.cells x E)) (Array.toList_inj.1 (by simp))

theorem Rb1 {w:World} {β:Hd} {L:Loc} {i:Nat} (E k:Nat) (vs:Array Value) (cap:Nat) (hcap:cap≤maxLen) (hrow:(w.alloc (.cells vs E)).ownsRow 0 E k (.slice (some ⟨w.heap.size,0,none⟩) 0 cap) 0 []) (hsat:Sat w β L) (hi:lk L i=none) :
  Step w β L (w.alloc (.cells vs E)) (upP β i (some w.heap.size)) ((i,.spare E k 0 0)::L)∧Sat (w.alloc (.cells vs E)) (upP β i (some w.heap.size)) ((i,.spare E k 0 0)::L) ∧
  V (w.alloc (.cells vs E)) (upP β i (some w.heap.size)) ((i,.spare E k 0 0)::L) (.own i 0 k []) (.slice (some ⟨w.heap.size,0,none⟩) 0 cap):=by
 have hne:∀ id,(lk L id).isSome=true→i≠id:=fun id h e=>by subst e; rw [hi] at h; cases h
 have hlt:∀ b,b < w.heap.size→(w.alloc (.cells vs E)).heap[b]? = w.heap[b]? := fun b hb=>Qo w _ hb
 have hsz:w.heap.size < (w.alloc (.cells vs E)).heap.size:=by simp
 have st:Step w β L (w.alloc (.cells vs E)) (upP β i (some w.heap.size)) ((i,.spare E k 0 0)::L):=by
  refine⟨rfl,rfl,⟨rfl,Kn⟩,Nat.le_of_lt hsz,fun _ _ _=>Iff.rfl,fun b j hs=>⟨⟨Nat.lt_trans hs.lt hsz,hs.seen,fun id ob hid hb=>?_⟩,World.cell?_of_block (w:=w) (hlt b hs.lt)⟩,fun b hb hfar=>⟨hlt b hb,fun id hid e=>?_⟩,fun id t cs hid=>?_,fun id t cs hid=>?_,fun id t n cs hid=>?_,fun id t k' ver xs hid=>?_,fun id t k' ver hw hid=>?_⟩
  ·rw [Gs] at hid
   by_cases e:i=id
   ·subst e; simp only [upP,if_true] at hb; cases hb; exact absurd hs.lt (Nat.lt_irrefl _)
   ·rw [if_neg e] at hid; simp only [upP,if_neg (Ne.symm e)] at hb; exact hs.kept id ob hid hb
  ·rw [Gs] at hid
   by_cases e':i=id
   ·subst e'; simp only [upP,if_true] at e; cases e; exact absurd hb (Nat.lt_irrefl _)
   ·rw [if_neg e'] at hid; simp only [upP,if_neg (Ne.symm e')] at e; exact hfar id hid e
  all_goals
   have e:=hne id (by rw [hid]; rfl)
  ·exact⟨by simp [upP,Ne.symm e],cs,by rw [Gs,if_neg e]; exact hid⟩
  ·exact⟨by simp [upP,Ne.symm e],cs,by rw [Gs,if_neg e]; exact hid⟩
  ·exact⟨by simp [upP,Ne.symm e],n,cs,by rw [Gs,if_neg e]; exact hid⟩
  ·exact⟨ver,xs,by rw [Gs,if_neg e]; exact hid,Kn,fun _=>⟨rfl,by simp [upP,Ne.symm e],fun b hb=>G5a (hlt b (hsat.bnd id b (by rw [hid]; rfl) hb))⟩⟩
  ·exact⟨ver,hw,by rw [Gs,if_neg e]; exact hid,Kn,fun _=>⟨rfl,by simp [upP,Ne.symm e],fun b hb=>hlt b (hsat.bnd id b (by rw [hid]; rfl) hb)⟩⟩
 refine⟨st,⟨fun b j h=>Nat.lt_trans (hsat.hid b j h) hsz,fun id b hid hb=>?_,fun id b j hid hb hh=>?_,fun id id' b h1 h2 h3 h4=>?_,fun id ob hid=>?_⟩,?_⟩
 ·rw [Gs] at hid
  by_cases e:i=id
  ·subst e; simp only [upP,if_true] at hb; cases hb; exact hsz
  ·rw [if_neg e] at hid; simp only [upP,if_neg (Ne.symm e)] at hb; exact Nat.lt_trans (hsat.bnd id b hid hb) hsz
 ·rw [Gs] at hid
  by_cases e:i=id
  ·subst e; simp only [upP,if_true] at hb; cases hb; exact absurd (hsat.hid _ _ hh) (Nat.lt_irrefl _)
  ·rw [if_neg e] at hid; simp only [upP,if_neg (Ne.symm e)] at hb; exact hsat.apart id b j hid hb hh
 ·by_cases e:i=id
  ·by_cases e':i=id'
   ·rw [← e,e']
   ·subst e
    rw [Gs,if_neg e'] at h2
    simp only [upP,if_true] at h3
    simp only [upP,if_neg (Ne.symm e')] at h4
    cases h3
    exact absurd (hsat.bnd id' _ h2 h4) (Nat.lt_irrefl _)
  ·by_cases e':i=id'
   ·subst e'
    rw [Gs,if_neg e] at h1
    simp only [upP,if_true] at h4
    simp only [upP,if_neg (Ne.symm e)] at h3
    cases h4
    exact absurd (hsat.bnd id _ h1 h3) (Nat.lt_irrefl _)
   ·rw [Gs,if_neg e] at h1
    rw [Gs,if_neg e'] at h2
    simp only [upP,if_neg (Ne.symm e)] at h3
    simp only [upP,if_neg (Ne.symm e')] at h4
    exact hsat.inj id id' b h1 h2 h3 h4
 ·rw [Gs] at hid
  by_cases e:i=id
  ·subst e; simp at hid; subst hid
   exact .inr ⟨w.heap.size,by simp [upP],vs,heap_alloc_new w _,by simp⟩
  ·rw [if_neg e] at hid
   simp only [upP,if_neg (Ne.symm e)]
   exact(hsat.obj id ob hid).step st (fun b hb=>hlt b (hsat.bnd id b (by rw [hid]; rfl) hb))
 ·exact .own (.nil hcap) ⟨E,0,0,by rw [Gs,if_pos rfl],Kn,fun _=>⟨rfl,by simp [Value.ownBlock,upP],[],hrow,fun j u hu=>by simp [flat] at hu⟩⟩

theorem Y4d {w:World} {β:Hd} {L:Loc} {i:Nat} (E k:Nat) (hsat:Sat w β L) (hi:lk L i=none) :
  Step w β L (w.alloc (.cells #[] E)) (upP β i (some w.heap.size)) ((i,.spare E k 0 0)::L)∧Sat (w.alloc (.cells #[] E)) (upP β i (some w.heap.size)) ((i,.spare E k 0 0)::L) ∧
  V (w.alloc (.cells #[] E)) (upP β i (some w.heap.size)) ((i,.spare E k 0 0)::L) (.own i 0 k []) (.slice (some ⟨w.heap.size,0,none⟩) 0 0):=
 Rb1 E k #[] 0 (Nat.zero_le _) (World.ownsRow_lit w #[] 0 (Nat.zero_le _) (Nat.zero_le _) (by simp)) hsat hi

def J7b (P:Program) (T f off:Nat):Bool:=
 match P.underlying T with
 | some (.struct fs)=>match fs[f]? with
  | some fld=>fld.offset==off&&Z1 P fld.type
  | none=>false
 | _=>false
theorem J7b.out {P:Program} {T f off:Nat} (h:J7b P T f off=true):∃ fs fld,P.underlying T=some (.struct fs)∧fs[f]? = some fld∧fld.offset=off∧Z1 P fld.type=true:=by
 unfold J7b at h
 split at h
 ·rename_i fs h1
  split at h
  ·rename_i fld h2
   simp only [Kq,beq_iff_eq] at h
   exact⟨fs,fld,h1,h2,h.1,h.2⟩
  ·cases h
 ·cases h

def Qb1 (P:Program) (T n k:Nat):Bool:=
 match P.underlying T with
 | some (.array m e)=>m==n&&Zf P e k
 | _=>false
section ops
variable {P:Program} {N:Cfg} {o:Oper} {l:Fr} {L L':Loc} {u:AV} {α:Type}

theorem R49 (i E k:Nat) {T:Nat} (ho:o.op=.buildSlice T 0 #[]) (hi:lk L i=none) (hT:sliceB P T E k=true):H5 P o l L (Is (.own i 0 k []) ((i,.spare E k 0 0)::L)):=by
 intro a w β K Q hsat hf hK
 unfold Oper.wp
 rw [Q24 (E:=E) (k:=k) ho hT]
 obtain⟨st,sat,hv⟩:=Y4d E k hsat hi
 exact hK _ _ _ _ _ ⟨rfl,rfl⟩ sat st hv

theorem Je0 (w:World) (base:Nat) (t ty e:TypeId) (i:TypeInfo) (size:Nat) (ht:P.underlying t=some (.slice e)) (hi:P.info? e=some i)
  (v:Value) (n:Nat) (xs:List Value) (hown:w.ownsRow base e size v n xs) (ao:Option Addr) (c:Nat) :
  (Builtin.append_ #[t,t] ty #[v,.slice ao 0 c]).run P w=.ok v w:=by
 rcases hown.2 with ⟨rfl,rfl⟩ | ⟨g,cap,cur,rfl,_,_,hnc,_⟩
 ·cases ao <;> simp [Builtin.append_,run_underlying ht,sizeOf,typeInfo,hi,Builtin.lenOf,Builtin.firstCells,loadCells,loadCellsFrom]
 ·cases ao <;> simp [Builtin.append_,run_underlying ht,sizeOf,typeInfo,hi,Builtin.lenOf,Builtin.firstCells,hnc,storeCells,loadCells,loadCellsFrom]

theorem Y0b {s x:Operand} {T E k by_ i ver n:Nat} {kx:Nat} {xs:List AV} (ho:o.op=.call { callee:=.builtin .append,args:=#[s,x],argTypes:=#[T,T] }) (hs:ev l s=.own i ver k xs) (hi:lk L i=some (.spare E k ver n)) (hx:Qj (ev l x)=some (kx,[]))
  (hT:sliceB P T E k=true) (hE:Zr P E k by_=true):H5 P o l L (Is (.own i ver k xs) L):=
 Hx fun a w β hsat hf=>by
  have hv:=hf.ev s
  rw [hs] at hv
  have hxd:=(hf.ev x).Qj hx
  obtain⟨ao,cap,hxv,_⟩:=hxd.len
  obtain⟨inf,z,e1,e2,e3,e4,e5,e6⟩:=Zr.out hE
  have hv':=hv
  cases hv with
  | data h=>cases h
  | own hd hp=>
   obtain⟨t,ver',hw,h1,h2,h3⟩:=hp
   rw [hi] at h1
   cases h1
   obtain⟨rfl,hob,vals,hown,hvD⟩:=h3 rfl
   have hr:=Je0 (P:=P) w 0 T o.type E inf k (sliceB.out hT).1 e1 (a.eval s) _ _ hown ao cap
   exact⟨a.eval s,by simp [execOp,ho,resolve,invoke,builtin,hxv,hr],hv'⟩

theorem H12 {L:Loc} {s x:Operand} {T E k by_ i kx:Nat} {f:α→AV} {xs ys:List α} (ho:o.op=.call { callee:=.builtin .append,args:=#[s,x],argTypes:=#[T,T] }) (hs:ev l s=OW i k f xs) (hi:lk L i=some (.spare E k xs.length xs.length)) (hx:Qj (ev l x)=some (kx,ys.map f))
  (hT:sliceB P T E k=true) (hE:Zr P E k by_=true) (hb:decide ((xs.length+ys.length)*by_≤140737488355328∧xs.length+ys.length≤maxLen)=true) (hcell:∀ y,(f y).flatOk=true) (hk:kx=k∨ys=[]) :
  H5 P o l L (Is (OW i k f (xs++ys)) ((i,.spare E k (xs++ys).length (xs++ys).length)::L)):=by
 have hb':=Kd hb
 by_cases h0:ys=[]
 ·subst h0
  have h:=Y0b (P:=P) (o:=o) (by_:=by_) ho hs hi (by simpa using hx) hT hE
  rw [List.append_nil]
  intro a w β K Q hsat hf hK
  refine h a w β K Q hsat hf (fun u L1 v w1 β1 hu hs1 st1 hv1=>?_)
  obtain⟨rfl,rfl⟩:=hu
  have hle:H73 L1 ((i,.spare E k xs.length xs.length)::L1):=fun j=>by
   rw [Gs]
   by_cases e:i=j
   ·subst e; rw [if_pos rfl,hi]
   ·rw [if_neg e]
  exact hK _ _ v w1 β1 ⟨rfl,rfl⟩ (hs1.locEq hle) (st1.locEq hle) (hv1.locEq hle)
 ·have h:=Jb1 (ver1:=(xs++ys).length) (xs:=xs.map f) (ys:=ys.map f) ho hs hi hx hT hE (by simpa using hb'.1) (by simpa using hb'.2) (fun y hy=>by
   obtain⟨z,_,rfl⟩:=Ku.1 hy
   exact hcell z) (hk.imp id (fun e=>by rw [e]; rfl)) (by
   have:=List.length_pos_iff.2 h0
   rw [Ko]; omega)
  simpa only [OW,List.map_append,Ko,Ks] using h
def Qb2 (P:Program) (T n:Nat):Bool:=
 match P.underlying T with
 | some (.array m e)=>m==n&&(Z1 P e&&Zf P e 1)
 | _=>false
theorem Qb2.out {P:Program} {T n:Nat} (h:Qb2 P T n=true):∃ e,P.underlying T=some (.array n e)∧Z1 P e=true∧Zf P e 1=true:=by
 unfold Qb2 at h
 split at h
 ·rename_i m e h1
  simp only [Kq,beq_iff_eq] at h
  obtain⟨rfl,h2,h3⟩:=h
  exact⟨_,h1,h2,h3⟩
 ·cases h
theorem J25 {x ix:Operand} {T n j:Nat} {kd:IntKind} {z:Int} {cs:List AV} (hT:Qb2 P T n=true) (ho:o.op=.index T x ix) (hx:ev l x=.agg cs) (hi:ev l ix=.sc (.int kd z)) (hz:z=(j:Int)) (hjn:Nat.blt j n=true) (hn:cs[j]? = some u):H5 P o l L (Is u L):=
 Hx fun a w β _ hf=>by
  have h1:=hf.ev x
  rw [hx] at h1
  have h2:=hf.ev ix
  rw [hi] at h2
  obtain⟨vs,he,hl,hv⟩:=h1.inv_agg
  have hlt:j < vs.size:=by
   rw [hl]
   rcases Nat.lt_or_ge j cs.length with h | h
   ·exact h
   ·simp [List.getElem?_eq_none h] at hn
  obtain⟨e,g1,g2,g3⟩:=Qb2.out hT
  have hs:=Qw g3 w
  have hjn':j < n:=by rw [Nat.blt_eq] at hjn; exact hjn
  have hb:(0:Int)≤(j:Int)∧(j:Int) < (n:Int):=by omega
  subst hz
  exact⟨vs[j],by simp [execOp,ho,Instr.index,asIntOf,underlying,g1,he,h2.inv_sc,hb,hs,asAgg,part,H2c g2,hlt]; intro hc; omega,hv j u _ hn (by simp [hlt])⟩
end ops

theorem Re3 {P:Program} {T E k:Nat} (hT:sliceB P T E k=true) (a:Option Addr) (n c:Nat) (w:World):(Op.equal T (.slice a n c) (.slice none 0 0)).run P w=.ok a.isNone w:=by
 have h:=(sliceB.out hT).1
 unfold Op.equal
 generalize hd:Op.maxDepth=d
 obtain⟨d,rfl⟩:∃ m,d=m+1:=⟨Op.maxDepth - 1,by rw [← hd]; rfl⟩
 clear hd
 cases a with
 | none=>rw [Op.equalIn]; simp [underlying,h]
 | some a=>rw [Op.equalIn]; simp [underlying,h]

def Y22 {α β:Type} [DecidableEq β] (xs:List α) (k:Bool→Option β):Option β:=
 match xs with
 | []=>if k true=k false then k false else none
 | _=>k false
theorem J74 {α β γ:Type} [DecidableEq β] {xs:List α} {k:Bool→Option β} {r:β} {f:α→γ} (h:Y22 xs k=some r) (b:Bool) (hb:b=true→xs.map f=[]):k b=some r:=by
 cases xs with
 | nil=>
  have h:(if k true=k false then k false else none)=some r:=h
  by_cases e:k true=k false
  ·rw [if_pos e] at h
   cases b with
   | true=>rw [e]; exact h
   | false=>exact h
  ·rw [if_neg e] at h; cases h
 | cons x l=>
  cases b with
  | true=>have:=hb rfl; cases this
  | false=>exact h
section
variable {P:Program} {o:Oper} {l:Fr} {L:Loc}
theorem Jf4 {x:Operand} {T T' E k k':Nat} {xs:List AV} (hT:sliceB P T E k'=true) (ho:o.op=.binOp .eql T x (.const (.slice none 0 0)) T') (hx:Qj (ev l x)=some (k,xs)):H5 P o l L (fun u L'=>∃ b:Bool,(b=true→xs=[])∧u=BL b∧L'=L):=by
 intro a w β K Q hsat hf hK
 have hd:=(hf.ev x).Qj hx
 have key:∀ ao n c,a.eval x=.slice ao n c→(execOp a.eval o).run P w=.ok (.value (.bool ao.isNone)) w:=fun ao n c e=>by
  have e2:a.eval (.const (.slice none 0 0))=.slice none 0 0:=rfl
  simp [execOp,ho,eqGuard,binOp,e,e2,Re3 hT]
 generalize hv:a.eval x=v at hd
 cases hd with
 | nil h=>
  rename_i cap ao
  unfold Oper.wp
  rw [key _ _ _ hv]
  exact hK _ _ _ _ _ ⟨ao.isNone,fun _=>rfl,rfl,rfl⟩ hsat (Step.refl _ _ _) .sc
 | list vals hcap hm hk hS h=>
  unfold Oper.wp
  rw [key _ _ _ hv]
  exact hK _ _ _ _ _ ⟨false,fun e=>(by cases e),rfl,rfl⟩ hsat (Step.refl _ _ _) .sc
theorem Rcf (i E k:Nat) {x:Operand} {ver:Nat} {xs:List AV} (ho:o.op=.assign x) (hx:ev l x=.sc (.slice none 0 0)) (hi:lk L i=some (.vec E k ver xs)):H5 P o l L (Is (.vec i (ver+1) k 0) ((i,.vec E k (ver+1) [])::L)):=by
 intro a w β K Q hsat hf hK
 have hv:=hf.ev x
 rw [hx] at hv
 have hr:(execOp a.eval o).run P w=.ok (.value (.slice none 0 0)) w:=by simp [execOp,ho,hv.inv_sc]
 unfold Oper.wp
 rw [hr]
 obtain⟨st,sat⟩:=G07 (w':=w) (t:=E) (k:=k) (ver1:=ver+1) (xs':=[]) (ob':=none) hsat (.inr ⟨ver,xs,hi,by omega,fun e=>by omega⟩) rfl rfl ⟨rfl,Kn⟩ (Kn) (fun _ _ _=>rfl) (.inl rfl)
 exact hK _ _ _ w _ ⟨rfl,rfl⟩ (sat ⟨by simp,.inl ⟨rfl,rfl⟩⟩) st (.vec ⟨E,ver+1,[],by rw [Gs,if_pos rfl],Kn,fun _=>⟨rfl,.inl ⟨rfl,rfl,by simp [upP]⟩⟩⟩ rfl)
theorem Rd0 (i E k:Nat) {T ver:Nat} {xs:List AV} (ho:o.op=.buildSlice T 0 #[]) (hi:lk L i=some (.vec E k ver xs)) (hT:sliceB P T E k=true):H5 P o l L (Is (.vec i (ver+1) k 0) ((i,.vec E k (ver+1) [])::L)):=by
 intro a w β K Q hsat hf hK
 unfold Oper.wp
 rw [Q24 (E:=E) (k:=k) ho hT]
 have hsz:w.heap.size < (w.alloc (.cells #[] E)).heap.size:=by simp
 obtain⟨st,sat⟩:=G07 (w':=w.alloc (.cells #[] E)) (t:=E) (k:=k) (ver1:=ver+1) (xs':=[]) (ob':=some w.heap.size) hsat (.inr ⟨ver,xs,hi,by omega,fun e=>by omega⟩) rfl rfl ⟨rfl,Kn⟩ (Nat.le_of_lt hsz) (fun b hb _=>Qo w _ hb) (.inr (.inr ⟨_,rfl,Kn,hsz⟩))
 have hn:=heap_alloc_new w (.cells #[] E)
 exact hK _ _ _ _ _ ⟨rfl,rfl⟩ (sat ⟨by simp,.inr ⟨_,rfl,#[],hn,by simp,fun j u v hu=>by simp [flat] at hu⟩⟩) st (.vec ⟨E,ver+1,[],by rw [Gs,if_pos rfl],Kn,fun _=>⟨rfl,.inr ⟨w.heap.size,0,rfl,by simp [upP],Kn,Nat.zero_le _,by simp only [World.shape?,hn,Option.bind_some]; simp⟩⟩⟩ rfl)
end

section
variable {P:Program} {o:Oper} {l:Fr} {L:Loc}
end
set_option linter.unusedVariables false

section moves
variable {w w':World} {β:Hd} {L:Loc} {i t k ver1 hw1:Nat}
end moves

section ops
variable {P:Program} {N:Cfg} {Q:Post} {o:Oper} {ops:Array Oper} {rest:List Oper} {l:Fr} {L:Loc}

end ops

section freeze
variable {P:Program} {N:Cfg} {Q:Post} {l l':Fr} {L L':Loc}

end freeze

/-! ### Typed -/
section typed
variable {α:Type}
end typed
set_option linter.unusedVariables false

section sound
variable {P:Program} {N:Cfg} {ops:List Oper} {ws los his:List Nat} {Ls:List Loc} {l0:Fr} {val:Nat→AV}

end sound
set_option linter.unusedVariables false

section typed
variable {P:Program} {N:Cfg} {Q:Post} {o:Oper} {ops:Array Oper} {rest:List Oper} {l:Fr} {L:Loc} {α:Type}

end typed
set_option linter.unusedVariables false

theorem R97 {a b:ByteArray}:(a==b)=true ↔ a=b:=by
 constructor
 ·intro h
  obtain⟨d⟩:=a; obtain⟨e⟩:=b
  have h:(d==e)=true:=h
  rw [beq_iff_eq] at h
  rw [h]
 ·intro h; subst h
  obtain⟨d⟩:=a
  show (d==d)=true
  rw [beq_iff_eq]
inductive Cv:AV→AV→Prop
 | same {u:AV}:Cv u u
 | agg {cs ds:List AV} (hl:ds.length=cs.length) (h:∀ (j:Nat) u u',cs[j]? = some u→ds[j]? = some u'→Cv u u'):Cv (.agg cs) (.agg ds)
 | list {k:Nat} {xs ys:List AV} (hl:ys.length=xs.length) (hk:∀ (j:Nat) x y,xs[j]? = some x→ys[j]? = some y→y.cells.length=x.cells.length) (h:∀ (j:Nat) u u',(flat xs)[j]? = some u→(flat ys)[j]? = some u'→Cv u u'):Cv (.list k xs) (.list k ys)
 | lst {k:Nat} {xs ys zs:List AV} (h:Cv (.list k xs) (.list k ys)):Cv (.lst k xs zs) (.list k ys)
 | tail {k:Nat} {xs ys:List AV} (h:Cv (.list k xs) (.list k ys)):Cv (.list k xs) (.lst k ys [])
theorem D.list_lst {w:World} {S:Nat→Nat→Prop} {k:Nat} {xs:List AV} {v:Value} (h:D w S (.list k xs) v):D w S (.lst k xs []) v:=by
 cases h with
 | nil h=>exact .lnil h
 | list vals hcap hm hk hS h=>exact .lst vals (by simpa using hcap) hm (by simpa using hk) (by simpa using hS) (by simpa using h)
theorem D.cv {w:World} {S:Nat→Nat→Prop} {u u':AV} (hc:Cv u u'):∀ {v:Value},D w S u v→D w S u' v:=by
 induction hc with
 | same=>exact fun h=>h
 | agg hl _ ih=>
  intro v h
  cases h with
  | agg hl' h=>
   refine .agg (by rw [hl',hl]) (fun j u' x hu' hx=>?_)
   have hj:=(Kh hu').1
   exact ih j _ u' (Ki (by omega)) hu' (h j _ x (Ki (by omega)) hx)
 | @list k xs ys hl hk _ ih=>
  intro v h
  cases h with
  | nil h=>
   have:ys=[]:=List.eq_nil_of_length_eq_zero (by simpa using hl)
   subst this; exact .nil h
  | list vals hcap hm hk' hS h=>
   have hky:∀ y∈ys,y.cells.length=k:=fun y hy=>by
    obtain⟨j,hj⟩:=List.mem_iff_getElem?.1 hy
    have hjl:=(Kh hj).1
    have hx:xs[j]? = some (xs[j]'(by omega)):=Ki (by omega)
    rw [hk j _ y hx hj]
    exact hk' _ (Kk hx)
   have hfl:(flat ys).length=(flat xs).length:=by rw [Jm hky,Jm hk',hl]
   rw [← hl]
   refine .list vals (by omega) hm hky (fun j hj=>hS j (by omega)) (fun j u' hu'=>?_)
   have hj:=(Kh hu').1
   exact ih j _ u' (Ki (by omega)) hu' (h j _ (Ki (by omega)))
 | lst _ ih=>exact fun h=>ih h.lst_list
 | tail _ ih=>exact fun h=>(ih h).list_lst
theorem V.cv {w:World} {β:Hd} {L:Loc} {u u':AV} (hc:Cv u u'):∀ {v:Value},V w β L u v→V w β L u' v:=by
 induction hc with
 | same=>exact fun h=>h
 | agg hl _ ih=>
  intro v h
  obtain⟨vs,rfl,hl',h⟩:=h.inv_agg
  refine .agg (by rw [hl',hl]) (fun j u' x hu' hx=>?_)
  have hj:=(Kh hu').1
  exact ih j _ u' (Ki (by omega)) hu' (h j _ x (Ki (by omega)) hx)
 | list hl hk h=>exact fun hv=>.data (D.cv (.list hl hk h) hv.inv_list)
 | lst h=>exact fun hv=>by cases hv with | data hv=>exact .data (D.cv (.lst h) hv)
 | tail h=>exact fun hv=>.data (D.cv (.tail h) hv.inv_list)

def CvL:List AV→List AV→Prop
 | [],[]=>True
 | u::r,u'::r'=>Cv u u'∧CvL r r'
 | _,_=>False
theorem CvL.len:∀ {cs ds:List AV},CvL cs ds→ds.length=cs.length
 | [],[],_=>rfl
 | _::_,_::_,h=>by rw [List.length_cons,List.length_cons,CvL.len h.2]
 | [],_::_,h=>h.elim
 | _::_,[],h=>h.elim
theorem CvL.get:∀ {cs ds:List AV},CvL cs ds→∀ (j:Nat) u u',cs[j]? = some u→ds[j]? = some u'→Cv u u'
 | [],[],_,j,u,u',h,_=>by simp at h
 | _::_,_::_,h,0,u,u',h1,h2=>by simp at h1 h2; subst h1 h2; exact h.1
 | _::_,_::_,h,j+1,u,u',h1,h2=>CvL.get h.2 j u u' (by simpa using h1) (by simpa using h2)
 | [],_::_,h,_,_,_,_,_=>h.elim
 | _::_,[],h,_,_,_,_,_=>h.elim
theorem CvL.append:∀ {cs ds cs' ds':List AV},CvL cs ds→CvL cs' ds'→CvL (cs++cs') (ds++ds')
 | [],[],_,_,_,h=>h
 | _::_,_::_,_,_,h,h'=>⟨h.1,CvL.append h.2 h'⟩
 | [],_::_,_,_,h,_=>h.elim
 | _::_,[],_,_,h,_=>h.elim
theorem Cv.aggL {cs ds:List AV} (h:CvL cs ds):Cv (.agg cs) (.agg ds):=.agg h.len h.get
section typed
variable {α β:Type} {f:α→AV} {g:β→AV} {k:Nat}
abbrev Ln (α:Type):=List α×List α
abbrev LT {α:Type} (k:Nat) (f:α→AV) (e:Ln α):AV:=.lst k (e.1.map f) (e.2.map f)
theorem Cv.listM (p:α→β) (h:∀ x,CvL (f x).cells (g (p x)).cells) (xs:List α):Cv (LS k f xs) (LS k g (xs.map p)):=by
 refine .list (by simp) (fun j x y hx hy=>?_) ?_
 ·rw [List.getElem?_map] at hx hy
  rw [List.getElem?_map] at hy
  cases hz:xs[j]? with
  | none=>rw [hz] at hx; cases hx
  | some z=>rw [hz] at hx hy; cases hx; cases hy; exact(h z).len
 ·have:CvL (flat (xs.map f)) (flat ((xs.map p).map g)):=by
   induction xs with
   | nil=>trivial
   | cons x xs ih=>exact(h x).append ih
  exact this.get
theorem Cv.lstM (p:α→β) (h:∀ x,CvL (f x).cells (g (p x)).cells) (e:Ln α):Cv (LT k f e) (LS k g (e.1.map p)):=.lst (.listM p h e.1)
theorem Cv.lst0 (e:Ln α):Cv (LT k f e) (LS k f e.1):=.lst .same
theorem Cv.of0 (xs:List α):Cv (LS k f xs) (LT k f (xs,[])):=.tail .same
end typed

section ops
variable {P:Program} {N:Cfg} {o:Oper} {l:Fr} {L L':Loc} {u u':AV} {α:Type}
theorem H5.cv (hc:Cv u u') (h:H5 P o l L (Is u L')):H5 P o l L (Is u' L'):=fun a w β K Q hs hf hK=>h a w β K Q hs hf (fun v L'' x w' β' hr hsat hst hv=>by
 obtain⟨rfl,rfl⟩:=hr
 exact hK _ _ _ _ _ ⟨rfl,rfl⟩ hsat hst (hv.cv hc))
theorem Ge5 (i:Nat) {x y:Operand} {T E k by_ c:Nat} {kd kd':IntKind} {nx ny:Int} (ho:o.op=.makeSlice T x y) (hx:ev l x=.sc (.int kd nx)) (hy:ev l y=.sc (.int kd' ny)) (hi:lk L i=none)
  (hT:sliceB P T E k=true) (hE:Zr P E k by_=true) (h0:nx=0) (hm:ny=(c:Int)) (hb:decide (by_*c≤281474976710656∧c≤maxLen)=true):H5 P o l L (Is (.own i 0 k []) ((i,.spare E k 0 0)::L)):=by
 subst h0 hm
 intro a w β K Q hsat hf hK
 have hb':=Kd hb
 obtain⟨inf,zv,e1,e2,e3,e4,e5,e6⟩:=Zr.out hE
 have hvx:=hf.ev x
 rw [hx] at hvx
 have hvy:=hf.ev y
 rw [hy] at hvy
 have h63':(c:Int)≤9223372036854775807:=by
  have h:=hb'.2
  simp [maxLen] at h
  omega
 have hb2:(inf.bytes:Int)*(c:Int)≤281474976710656:=by
  have h:((inf.bytes*c:Nat):Int)≤281474976710656:=by rw [e3]; have:=hb'.1; omega
  rwa [Int.natCast_mul] at h
 have hr:=run_make (P:=P) w T E inf zv (sliceB.out hT).1 e1 e4 kd kd' 0 c (Int.le_refl _) (by omega) hb2 h63'
 simp only [Int.toNat_zero,Int.toNat_natCast] at hr
 have hrun:(execOp a.eval o).run P w=.ok (.value (.slice (some ⟨w.heap.size,0,none⟩) 0 c)) (w.alloc (.cells (madeCells zv.cells (c*inf.size)) E)):=by
  simp [execOp,ho,hvx.inv_sc,hvy.inv_sc,hr]
 unfold Oper.wp
 rw [hrun]
 obtain⟨st,sat,hv⟩:=Rb1 E k (madeCells zv.cells (c*inf.size)) c hb'.2 (World.ownsRow_made w _ c (Nat.zero_le _) hb'.2 (by rw [size_madeCells,e2])) hsat hi
 exact hK _ _ _ _ _ ⟨rfl,rfl⟩ sat st hv

theorem J6b {T E k:Nat} (hT:sliceB P T E k=true) (a:Option Addr) (len cap n:Nat) (kd:IntKind) (w:World) (hn:n≤cap) :
  (Instr.sliceAt T (.slice a len cap) none (some (.int kd n)) none).run P w=.ok (.slice (if cap=0 then a else a.map (·.add (0*k))) n cap) w:=by
 obtain⟨h1,h2⟩:=sliceB.out hT
 have h3:=Qw h2 w
 have hb:(Instr.sliceBound (.int kd (n:Int)) cap .sliceAcap).run P w=.ok n w:=by
  have:(0:Int)≤n∧(n:Int)≤cap:=⟨by omega,by omega⟩
  simp [Instr.sliceBound,asIntOf,this]
 have hs:(Instr.sliceBounds true len cap none (some (.int kd n)) none).run P w=.ok (0,n,cap) w:=by
  simp [Instr.sliceBounds,hb]
 simp [Instr.sliceAt,Instr.slice,run_underlying h1,hs,h3]
theorem D.cut {w:World} {S:Nat→Nat→Prop} {k n:Nat} {xs:List AV} {a:Option Addr} {len cap:Nat} (h:D w S (.list k xs) (.slice a len cap)) (hn:n≤xs.length) :
  D w S (.lst k (xs.take n) (xs.drop n)) (.slice (if cap=0 then a else a.map (·.add (0*k))) n cap):=by
 cases h with
 | nil h=>
  have:n=0:=by simpa using hn
  subst this
  simp only [List.take_nil,List.drop_nil]
  exact .lnil h
 | @list _ b off _ _ vals hcap hm hk hS h=>
  have e:(if cap=0 then some (⟨b,off,none⟩:Addr) else (some (⟨b,off,none⟩:Addr)).map (·.add (0*k)))=some ⟨b,off,none⟩:=by
   split <;> simp [Addr.add_lit]
  rw [e]
  have hl:(xs.take n).length=n:=by rw [List.length_take]; omega
  have:=D.lst (w:=w) (S:=S) (k:=k) (b:=b) (off:=off) (cap:=cap) (xs:=xs.take n) (ys:=xs.drop n) vals (by rw [← Ko,List.take_append_drop]; exact hcap) hm (by rw [List.take_append_drop]; exact hk) (by rw [List.take_append_drop]; exact hS) (by rw [List.take_append_drop]; exact h)
  rwa [hl] at this
theorem D.whole {w:World} {S:Nat→Nat→Prop} {k n:Nat} {xs ys:List AV} {a:Option Addr} {len cap:Nat} (h:D w S (.lst k xs ys) (.slice a len cap)) (hn:n≤xs.length+ys.length) :
  D w S (.list k ((xs++ys).take n)) (.slice (if cap=0 then a else a.map (·.add (0*k))) n cap)∧xs.length+ys.length≤cap:=by
 cases h with
 | lnil h=>
  have:n=0:=by simpa using hn
  subst this
  exact⟨.nil h,Nat.zero_le _⟩
 | @lst _ b off _ _ _ vals hcap hm hk hS h=>
  refine⟨?_,hcap⟩
  have e:(if cap=0 then some (⟨b,off,none⟩:Addr) else (some (⟨b,off,none⟩:Addr)).map (·.add (0*k)))=some ⟨b,off,none⟩:=by
   split <;> simp [Addr.add_lit]
  rw [e]
  have hl:((xs++ys).take n).length=n:=by rw [List.length_take,Ko]; omega
  have hfl:flat ((xs++ys).take n)=(flat (xs++ys)).take (n*k):=G85 hk n
  have:=D.list (w:=w) (S:=S) (k:=k) (b:=b) (off:=off) (cap:=cap) (xs:=(xs++ys).take n) vals (by omega) hm (fun x hx=>hk x (List.mem_of_mem_take hx)) (fun j hj=>hS j (by rw [hfl,List.length_take] at hj; omega)) (fun j u hu=>h j u (by
   rw [hfl,List.getElem?_take] at hu
   split at hu
   ·exact hu
   ·cases hu))
  rwa [hl] at this
theorem Jdf {x p:Operand} {T E k n:Nat} {kd:IntKind} {ni:Int} {f:α→AV} {xs:List α} (ho:o.op=.slice T x none (some p) none) (hx:Qj (ev l x)=some (k,xs.map f)) (hp:ev l p=.sc (.int kd ni)) (hT:sliceB P T E k=true) (hn:ni=(n:Int)∧n≤xs.length):H5 P o l L (Is (LT k f (xs.take n,xs.drop n)) L):=
 Hx fun a w β hsat hf=>by
  obtain⟨rfl,hn⟩:=hn
  have h1:=(hf.ev x).Qj hx
  obtain⟨ao,cap,he,hc1,hc2⟩:=h1.len
  rw [he] at h1
  have hvp:=hf.ev p
  rw [hp] at hvp
  rw [Ks] at hc1
  refine⟨_,?_,.data (by
   have:=h1.cut (n:=n) (by rw [Ks]; exact hn)
   rw [← List.map_take,← List.map_drop] at this
   exact this)⟩
  simp only [execOp,ho,he,hvp.inv_sc,Sem.run_bind,Option.map_none,Option.map_some]
  rw [J6b hT ao _ cap n kd w (by omega)]
  rfl
theorem H93 {x p:Operand} {T E k n:Nat} {kd:IntKind} {ni:Int} {f:α→AV} {e:Ln α} (ho:o.op=.slice T x none (some p) none) (hx:ev l x=LT k f e) (hp:ev l p=.sc (.int kd ni)) (hT:sliceB P T E k=true) (hn:ni=(n:Int)∧n≤(e.1++e.2).length):H5 P o l L (Is (LS k f ((e.1++e.2).take n)) L):=
 Hx fun a w β hsat hf=>by
  obtain⟨rfl,hn⟩:=hn
  rw [Ko] at hn
  have h0:=hf.ev x
  rw [hx] at h0
  have hvp:=hf.ev p
  rw [hp] at hvp
  cases h0 with
  | data h0=>
   obtain⟨ao,cap,he,_,_⟩:=h0.lst_list.len
   rw [he] at h0
   obtain⟨h1,h2⟩:=h0.whole (n:=n) (by simpa using hn)
   rw [Ks,Ks] at h2
   refine⟨_,?_,.data (by
    rw [← List.map_append,← List.map_take] at h1
    exact h1)⟩
   simp only [execOp,ho,he,hvp.inv_sc,Sem.run_bind,Option.map_none,Option.map_some]
   rw [J6b hT ao _ cap n kd w (by omega)]
   rfl
end ops
end Go.Proofs.YthcpolfodgjekaaGreat
