/-
 Parts of slices that the call may write in place: slicing,copy,clear.
-/
import Derived.Test.YtecjdioomlhhiaaGreatSortI
namespace Go.Proofs.YtecjdioomlhhiaaGreat
open Go.RowKit

theorem J5c {w:World} {β:H5} {L:Loc} {i t k ver b off:Nat} {xs zs:List AV} {vs:Array Value} {cs:List Value} (hsat:Sat w β L) (hi:lk L i=some (.vec t k ver xs)) (hb:β.at_ i=some b) (q2:w.heap[b]? = some (.cells vs t (0,0)))
  (hz:∀ z∈zs,z.cells.length=k) (hcl:cs.length=zs.length*k) (hfit:off+zs.length≤xs.length) (hD:∀ (j:Nat) u x,(flat zs)[j]? = some u→cs[j]? = some x→D w (Jy w β L) u x) :
  Step w β L (w.setRow b (vs.toList.take (off*k)++cs++vs.toList.drop (off*k+cs.length)).toArray) (upP β i (β.at_ i)) ((i,.vec t k ver (xs.take off++zs++xs.drop (off+zs.length)))::L) ∧
  Sat (w.setRow b (vs.toList.take (off*k)++cs++vs.toList.drop (off*k+cs.length)).toArray) (upP β i (β.at_ i)) ((i,.vec t k ver (xs.take off++zs++xs.drop (off+zs.length)))::L):=by
 obtain⟨q1,vs',q2',q3,q4⟩:=Gf5 hsat hi hb
 rw [q2] at q2'; cases q2'
 have hmul:off*k+zs.length*k≤xs.length*k:=by rw [← Nat.add_mul]; exact Nat.mul_le_mul_right _ hfit
 have hb2:=setRow_heap w b vs (vs.toList.take (off*k)++cs++vs.toList.drop (off*k+cs.length)).toArray t (0,0) q2
 have hsz2:(vs.toList.take (off*k)++cs++vs.toList.drop (off*k+cs.length)).toArray.size=vs.size:=by
  simp; omega
 have hxl:(flat xs).length=xs.length*k:=Jd q1
 have hzl:(flat zs).length=zs.length*k:=Jd hz
 have hlen:(xs.take off++zs++xs.drop (off+zs.length)).length=xs.length:=by simp; omega
 have hxs:∀ y∈xs.take off++zs++xs.drop (off+zs.length),y.cells.length=k:=fun y hy=>by
  simp only [List.mem_append] at hy
  rcases hy with (h | h) | h
  ·exact q1 y (List.mem_of_mem_take h)
  ·exact hz y h
  ·exact q1 y (List.mem_of_mem_drop h)
 obtain⟨st,sat⟩:=Z6 (w':=w.setRow b (vs.toList.take (off*k)++cs++vs.toList.drop (off*k+cs.length)).toArray) (t:=t) (k:=k) (ver1:=ver) (xs':=xs.take off++zs++xs.drop (off+zs.length)) (ob':=β.at_ i) hsat
  (.inr ⟨ver,xs,hi,Nat.le_refl _,fun _=>⟨hlen,rfl,fun b' hb'=>by
   rw [hb] at hb'; cases hb'
   rw [World.shape?,hb2,World.shape?,q2]; simp only [hsz2]⟩⟩) rfl rfl ⟨rfl,Nat.le_refl _⟩ (by simp)
  (fun b' _ hne=>setRow_other w b b' _ (fun e=>hne (by rw [inL,hi]; rfl) (by rw [hb,e])))
  (.inr (.inl ⟨by rw [inL,hi]; rfl,rfl⟩))
 refine⟨st,sat ⟨hxs,.inr ⟨b,hb,_,hb2,by rw [hsz2,hlen]; exact q3,fun j u v hu hv=>?_⟩⟩⟩
 rw [G52,G52,G73 q1,Hff q1] at hu
 simp only [List.getElem?_toArray] at hv
 have old:∀ j',(flat xs)[j']? = some u→vs[j']? = some v→D _ _ u v:=fun j' a b=>(q4 j' u v a b).mono st.stab
 have e1:(off+zs.length)*k=off*k+zs.length*k:=Nat.add_mul _ _ _
 rw [e1] at hu
 have lu:(List.take (off*k) (flat xs)).length=off*k:=by simp; omega
 have lv:(List.take (off*k) vs.toList).length=off*k:=by simp; omega
 rcases Nat.lt_or_ge j (off*k) with hj | hj
 ·rw [List.append_assoc,List.getElem?_append_left (by omega),List.getElem?_take,if_pos hj] at hu
  rw [List.append_assoc,List.getElem?_append_left (by omega),List.getElem?_take,if_pos hj] at hv
  exact old j hu (by simpa using hv)
 rcases Nat.lt_or_ge j (off*k+zs.length*k) with hj2 | hj2
 ·rw [List.getElem?_append_left (by rw [List.length_append,lu,hzl]; omega),List.getElem?_append_right (by omega),lu] at hu
  rw [List.getElem?_append_left (by rw [List.length_append,lv,hcl]; omega),List.getElem?_append_right (by omega),lv] at hv
  exact(hD _ u v hu hv).mono st.stab
 ·rw [List.getElem?_append_right (by rw [List.length_append,lu,hzl]; omega),List.length_append,lu,hzl,List.getElem?_drop] at hu
  rw [List.getElem?_append_right (by rw [List.length_append,lv,hcl]; omega),List.length_append,lv,hcl,List.getElem?_drop] at hv
  rw [show off*k+zs.length*k+(j - (off*k+zs.length*k))=j by omega] at hu hv
  exact old j hu (by simpa using hv)

def Q0d (w:World) (S:Nat→Nat→Prop) (k:Nat) (ys:List AV) (v:Value):Prop:=
 (∀ y∈ys,y.cells.length=k)∧∃ (a:Option Addr) (cap:Nat) (cs:List Value),v=.slice a ys.length cap∧(a=none→ys=[])∧cs.length=ys.length*k∧(∀ (ad:Addr) (j:Nat) u,a=some ad→cs[j]? = some u→w.cell? (ad.add j)=some u) ∧
  ∀ (j:Nat) u x,(flat ys)[j]? = some u→cs[j]? = some x→D w S u x

theorem V.inv_vsl {w:World} {β:H5} {L:Loc} {i ver k k' off n t:Nat} {xs:List AV} {x:Value} (hi:lk L i=some (.vec t k' ver xs)) (h:V w β L (.vsl i ver k off n) x):k=k'∧off+n≤xs.length∧Q0b (β.at_ i) k off n x:=by
 cases h with
 | data h=>cases h
 | vsl hp _=>
  obtain⟨t',ver',xs',h1,_,h3⟩:=hp
  rw [hi] at h1; cases h1
  exact⟨rfl,(h3 rfl).1,(h3 rfl).2.1⟩
theorem V.inv_vsl0 {w:World} {β:H5} {L:Loc} {i ver k k' n t:Nat} {xs:List AV} {x:Value} (hi:lk L i=some (.vec t k' ver xs)) (h:V w β L (.vsl i ver k 0 n) x):Q0c w (β.at_ i) t k n x:=by
 cases h with
 | data h=>cases h
 | vsl hp _=>
  obtain⟨t',ver',xs',h1,_,h3⟩:=hp
  rw [hi] at h1; cases h1
  exact(h3 rfl).2.2 rfl

theorem J37 {w:World} {β:H5} {L:Loc} {i ver k t n:Nat} {xs:List AV} {x:Value} (hsat:Sat w β L) (hi:lk L i=some (.vec t k ver xs)) (hv:V w β L (.vec i ver k n) x):n=xs.length∧Q0b (β.at_ i) k 0 n x:=by
 obtain⟨rfl,_,h⟩:=Gb8 hsat hi hv
 refine⟨rfl,?_⟩
 rcases h with ⟨rfl,rfl,_⟩ | ⟨b,cap,vs,rfl,h1,h2,h3,_⟩
 ·exact⟨none,0,rfl,Nat.le_refl _,Nat.zero_le _,.inl rfl⟩
 ·exact⟨_,cap,rfl,h2,h3,.inr ⟨b,h1,by rw [Nat.zero_mul]⟩⟩

theorem Jf3 {w:World} {β:H5} {L:Loc} {i ver k t off n:Nat} {xs:List AV} {x:Value} (hsat:Sat w β L) (hi:lk L i=some (.vec t k ver xs)) (hn:off+n≤xs.length) (h:Q0b (β.at_ i) k off n x):Q0d w (Jy w β L) k ((xs.drop off).take n) x:=by
 obtain⟨o1,o2⟩:=hsat.obj i _ hi
 have hk:∀ y∈(xs.drop off).take n,y.cells.length=k:=fun y hy=>o1 y (List.mem_of_mem_drop (List.mem_of_mem_take hy))
 have hl:((xs.drop off).take n).length=n:=by simp; omega
 refine⟨hk,?_⟩
 obtain⟨a,cap,rfl,h1,h2,h3⟩:=h
 rw [hl]
 by_cases h0:n=0
 ·subst h0
  exact⟨a,cap,[],rfl,fun _=>by simp,by simp,fun ad j u _ hu=>by simp at hu,fun j u x _ hx=>by simp at hx⟩
 ·rcases h3 with h3 | ⟨b,hb,rfl⟩
  ·exact absurd h3 h0
  ·obtain⟨q1,vs,q2,q3,q4⟩:=Gf5 hsat hi hb
   have hm:off*k+n*k≤xs.length*k:=by rw [← Nat.add_mul]; exact Nat.mul_le_mul_right _ hn
   refine⟨_,cap,(vs.toList.drop (off*k)).take (n*k),rfl,(fun e=>by cases e),by simp; omega,fun ad j u e hu=>?_,fun j u x hu hx=>?_⟩
   ·cases e
    have hj:=(List.getElem?_eq_some_iff.1 hu).1
    rw [List.length_take] at hj
    rw [List.getElem?_take,if_pos (by omega),List.getElem?_drop] at hu
    rw [Addr.add_lit]
    simp [World.cell?,q2]
    simpa using hu
   ·have hj:=(List.getElem?_eq_some_iff.1 hx).1
    rw [List.length_take] at hj
    rw [List.getElem?_take,if_pos (by omega),List.getElem?_drop] at hx
    have hk2:∀ y∈xs.drop off,y.cells.length=k:=fun y hy=>o1 y (List.mem_of_mem_drop hy)
    rw [G73 hk2,Hff o1,List.getElem?_take,if_pos (by omega),List.getElem?_drop] at hu
    exact q4 _ u x hu (by simpa using hx)

theorem R3c {w:World} {S:Nat→Nat→Prop} {k k':Nat} {ys:List AV} {x:Value} (h:D w S (.list k' ys) x) (hk:k'=k∨ys=[]):Q0d w S k ys x:=by
 obtain⟨ao,cap,rfl,_⟩:=h.len
 obtain⟨_,h1,h2,cs,h3,h4,h5⟩:=h.vals
 have hk2:∀ y∈ys,y.cells.length=k:=by
  rcases hk with rfl | rfl
  ·exact h1
  ·simp
 refine⟨hk2,ao,cap,cs,rfl,fun e=>List.eq_nil_of_length_eq_zero (h2 e),h3.trans (Jd hk2),h4,fun j u x hu hx=>?_⟩
 obtain⟨x',hx',hd⟩:=h5 j u hu
 rw [hx] at hx'; cases hx'
 exact hd

def He8 (L:Loc) (k:Nat) (s:AV) (ys:List AV):Prop:=
 (∃ kx,Qd s=some (kx,ys)∧(kx=k∨ys=[]))∨(∃ i ver n t,s=.vec i ver k n∧lk L i=some (.vec t k ver ys))∨(∃ i ver off n t zs,s=.vsl i ver k off n∧lk L i=some (.vec t k ver zs)∧ys=(zs.drop off).take n)
theorem He8.reads {w:World} {β:H5} {L:Loc} {k:Nat} {s:AV} {ys:List AV} {x:Value} (hsat:Sat w β L) (h:He8 L k s ys) (hv:V w β L s x):Q0d w (Jy w β L) k ys x:=by
 rcases h with ⟨kx,h1,h2⟩ | ⟨i,ver,n,t,rfl,hi⟩ | ⟨i,ver,off,n,t,zs,rfl,hi,rfl⟩
 ·exact R3c (hv.Qd h1) h2
 ·obtain⟨rfl,h⟩:=J37 hsat hi hv
  have:=Jf3 hsat hi (by simp) h
  simpa using this
 ·obtain⟨_,h1,h2⟩:=hv.inv_vsl hi
  exact Jf3 hsat hi h1 h2
def Qf3 (L:Loc) (k:Nat) (s:AV) (i ver off n t:Nat) (xs:List AV):Prop:=
 lk L i=some (.vec t k ver xs)∧((s=.vec i ver k n∧off=0)∨s=.vsl i ver k off n)
theorem Qf3.out {w:World} {β:H5} {L:Loc} {k i ver off n t:Nat} {s:AV} {xs:List AV} {x:Value} (hsat:Sat w β L) (h:Qf3 L k s i ver off n t xs) (hv:V w β L s x):off+n≤xs.length∧Q0b (β.at_ i) k off n x:=by
 obtain⟨hi,⟨rfl,rfl⟩ | rfl⟩:=h
 ·obtain⟨rfl,h⟩:=J37 hsat hi hv
  exact⟨by simp,h⟩
 ·exact(hv.inv_vsl hi).2

section ops
variable {P:Program} {N:Cfg} {o:Oper} {l:Fr} {L L':Loc} {u:AV} {α:Type}

theorem Re8 {x:Operand} {T E k i ver n lo hi:Nat} {lop hip:Option Operand} {xs:List AV} (ho:o.op=.slice T x lop hip none) (hT:sliceB P T E k=true) (hx:ev l x=.vec i ver k n) (hL:lk L i=some (.vec E k ver xs))
  (hlo:(lop=none∧lo=0)∨∃ kd p,lop=some p∧ev l p=.sc (.int kd lo)) (hhi:(hip=none∧hi=xs.length)∨∃ kd p,hip=some p∧ev l p=.sc (.int kd hi)) (h1:lo≤hi) (h2:hi≤xs.length) :
  H1 P o l L (Is (.vsl i ver k lo (hi - lo)) L):=
 Hq fun a w β hsat hf=>by
  have hv:=hf.ev x
  rw [hx] at hv
  obtain⟨rfl,a',cap,he,hc1,hc2,hc3⟩:=J37 hsat hL hv
  refine⟨.slice (if cap=lo then a' else a'.map (·.add (lo*k))) (hi - lo) (cap - lo),?_,.vsl ⟨E,ver,xs,hL,Nat.le_refl _,fun _=>⟨by omega,⟨_,_,rfl,by omega,by omega,?_⟩,fun h0=>?_⟩⟩ rfl⟩
  ·simp only [execOp,ho,he,Sem.run_bind,Option.map_none]
   rw [Hf7 hT a' xs.length cap lo hi _ _ w h1 h2 hc1]
   ·rfl
   ·rcases hlo with ⟨rfl,rfl⟩ | ⟨kd,p,rfl,hp⟩
    ·exact .inl ⟨rfl,rfl⟩
    ·refine .inr ⟨kd,?_⟩
     have:=hf.ev p; rw [hp] at this
     simp [this.inv_sc]
   ·rcases hhi with ⟨rfl,rfl⟩ | ⟨kd,p,rfl,hp⟩
    ·exact .inl ⟨rfl,rfl⟩
    ·refine .inr ⟨kd,?_⟩
     have:=hf.ev p; rw [hp] at this
     simp [this.inv_sc]
  ·by_cases h0:hi - lo=0
   ·exact .inl h0
   ·right
    rcases hc3 with hc3 | ⟨b,hb,rfl⟩
    ·omega
    ·refine⟨b,hb,?_⟩
     rw [if_neg (by omega)]
     simp [Addr.add_lit]
  ·subst h0
   obtain⟨_,_,hc⟩:=Gb8 hsat hL hv
   rcases hc with ⟨e1,e2,e3⟩ | ⟨b,cap',vs,e1,e2,e3,e4,e5,e6,_⟩
   ·rw [he] at e1
    injection e1 with f1 f2 f3
    subst f1
    subst f3
    subst e2
    have h3:hi=0:=by simpa using h2
    subst h3
    exact .inl ⟨rfl,rfl,e3⟩
   ·rw [he] at e1
    injection e1 with f1 f2 f3
    subst f1
    subst f3
    refine .inr ⟨b,cap,?_,e2,by omega,e4,by simp [World.shape?,e5,e6]⟩
    split <;> simp [Addr.add_lit]

theorem R90 {T E k:Nat} (hT:sliceB P T E k=true) {T2 ty:Nat} (w:World) (a s:Option Addr) (n cap m cap2:Nat) (cs:List Value) (hs:s=none→m=0) (hcs:cs.length=min m n*k) (hsrc:∀ (ad:Addr) (j:Nat) u,s=some ad→cs[j]? = some u→w.cell? (ad.add j)=some u) :
  (Builtin.copy_ #[T,T2] ty #[.slice a n cap,.slice s m cap2]).run P w=(match a with | some ad=>((storeCells ad cs).run P w).andThen fun _ w=>.ok (goInt ((min m n:Nat):Int)) w | none=>.ok (goInt ((min m n:Nat):Int)) w):=by
 obtain⟨h1,h2⟩:=sliceB.out hT
 have h3:=Qr h2 w
 have hmin:Nat.min m n=min m n:=rfl
 cases s with
 | none=>
  have hm:=hs rfl
  subst hm
  have:cs=[]:=List.eq_nil_of_length_eq_zero (by rw [hcs]; simp)
  subst this
  cases a <;> simp [Builtin.copy_,run_underlying h1,Builtin.lenOf,Builtin.firstCells,h3,hmin,storeCells,Result.andThen]
 | some ad=>
  have hl:=run_loadCells_list (P:=P) w ad cs (fun j v h=>hsrc ad j v rfl h)
  rw [hcs] at hl
  cases a with
  | none=>simp [Builtin.copy_,run_underlying h1,Builtin.lenOf,Builtin.firstCells,h3,hmin,hl]
  | some a2=>
   simp [Builtin.copy_,run_underlying h1,Builtin.lenOf,Builtin.firstCells,h3,hmin,hl]

theorem Q94 {d x:Operand} {T T2 E k i ver off n:Nat} {xs ys:List AV} (ho:o.op=.call { callee:=.builtin .copy,args:=#[d,x],argTypes:=#[T,T2] }) (hT:sliceB P T E k=true) (hd:Qf3 L k (ev l d) i ver off n E xs) (hs:He8 L k (ev l x) ys) (hc:∀ y∈ys.take (min ys.length n),y.flatOk=true) :
  H1 P o l L (Is (I64 ((min ys.length n:Nat):Int)) ((i,.vec E k ver (xs.take off++ys.take (min ys.length n)++xs.drop (off+min ys.length n)))::L)):=by
 intro a w β K Q hsat hf hK
 have hi:=hd.1
 obtain⟨hfit,ad,cap,hdv,hc1,hc2,hc3⟩:=hd.out hsat (hf.ev d)
 obtain⟨hyk,asx,cap2,cs,hsv,hs0,hcl,hcell,hcD⟩:=hs.reads hsat (hf.ev x)
 have hyl:(flat ys).length=ys.length*k:=Jd hyk
 have hmk:min ys.length n*k≤ys.length*k:=Nat.mul_le_mul_right _ (Nat.min_le_left _ _)
 have hcs:(cs.take (min ys.length n*k)).length=min ys.length n*k:=by rw [List.length_take,hcl]; omega
 have hr:=R90 (P:=P) hT (T2:=T2) (ty:=o.type) w ad asx n cap ys.length cap2 (cs.take (min ys.length n*k)) (fun e=>by rw [hs0 e]; rfl) hcs (fun ad' j u e hu=>by
  have hj:=(List.getElem?_eq_some_iff.1 hu).1
  rw [List.getElem?_take,if_pos (by omega)] at hu
  exact hcell ad' j u e hu)
 have hex:(execOp a.eval o).run P w=((Builtin.copy_ #[T,T2] o.type #[.slice ad n cap,.slice asx ys.length cap2]).run P w).andThen fun v w=>.ok (.value v) w:=by
  simp [execOp,ho,resolve,invoke,builtin,hdv,hsv]
  try rfl
 have hyk':∀ y∈ys.take (min ys.length n),y.cells.length=k:=fun y hy=>hyk y (List.mem_of_mem_take hy)
 have hzl:(ys.take (min ys.length n)).length=min ys.length n:=by rw [List.length_take]; omega
 unfold Oper.wp
 rw [hex,hr]
 by_cases h0:min ys.length n=0
 ·-- nothing is written
  have hnil:cs.take (min ys.length n*k)=[]:=List.eq_nil_of_length_eq_zero (by rw [hcs,h0,Nat.zero_mul])
  rw [hnil]
  have hgo:(match ad with | some a2=>((storeCells a2 []).run P w).andThen fun _ w=>Result.ok (goInt ((min ys.length n:Nat):Int)) w | none=>Result.ok (goInt ((min ys.length n:Nat):Int)) w)=Result.ok (goInt ((min ys.length n:Nat):Int)) w:=by
   cases ad <;> simp [storeCells,Result.andThen]
  rw [hgo]
  have hxs:xs.take off++ys.take (min ys.length n)++xs.drop (off+min ys.length n)=xs:=by rw [h0]; simp
  rw [hxs] at hK
  have hq:H49 L ((i,Jg.vec E k ver xs)::L):=fun id=>by
   rw [Gr]
   by_cases e:i=id
   ·subst e; rw [if_pos rfl,hi]
   ·rw [if_neg e]
  exact hK _ _ _ w β ⟨rfl,rfl⟩ (hsat.locEq hq) ((Step.refl w β L).locEq hq) .sc
 ·rcases hc3 with hc3 | ⟨b,hb,rfl⟩
  ·omega
  ·obtain⟨q1,vs,q2,q3,q4⟩:=Gf5 hsat hi hb
   have hfit2:off+(ys.take (min ys.length n)).length≤xs.length:=by rw [hzl]; omega
   have hmul:off*k+min ys.length n*k≤xs.length*k:=by rw [← Nat.add_mul]; exact Nat.mul_le_mul_right _ (by omega)
   have hDz:∀ (j:Nat) u x,(flat (ys.take (min ys.length n)))[j]? = some u→(cs.take (min ys.length n*k))[j]? = some x→D w (Jy w β L) u x:=fun j u x hu hx=>by
    have hj:=(List.getElem?_eq_some_iff.1 hx).1
    rw [hcs] at hj
    rw [List.getElem?_take,if_pos hj] at hx
    rw [G73 hyk,List.getElem?_take,if_pos hj] at hu
    exact hcD j u x hu hx
   have h1c:∀ v∈cs.take (min ys.length n*k),v.oneCell'=true:=fun v hv=>by
    obtain⟨j,hj⟩:=List.mem_iff_getElem?.1 hv
    have hjl:=(List.getElem?_eq_some_iff.1 hj).1
    rw [hcs] at hjl
    have hu:(flat (ys.take (min ys.length n)))[j]? = some ((flat (ys.take (min ys.length n)))[j]'(by rw [Jd hyk',hzl]; exact hjl)):=List.getElem?_eq_getElem _
    exact(V.data (hDz j _ v hu hj)).cell (H88 hc (List.mem_of_getElem? hu))
   have hst:=run_storeCells_at P b (off*k) E (cs.take (min ys.length n*k)) 0 vs w q2 (by rw [hcs]; omega) h1c
   simp only [Nat.add_zero] at hst
   simp only [hst,Result.andThen]
   obtain⟨st,sat⟩:=J5c (off:=off) (zs:=ys.take (min ys.length n)) (cs:=cs.take (min ys.length n*k)) hsat hi hb q2 hyk' (by rw [hcs,hzl]) hfit2 hDz
   rw [hzl] at st sat
   exact hK _ _ _ _ _ ⟨rfl,rfl⟩ sat st .sc
theorem H9a (z:Array Value) (n j:Nat) (hj:j < n*z.size):(Builtin.zeroCells z n).toList[j]? = some z[j % z.size]! := by
 simp [Builtin.zeroCells,hj]

theorem Y1a {d:Operand} {T E k i ver off n:Nat} {xs:List AV} {y:AV} {zs:List Value} (ho:o.op=.call { callee:=.builtin .clear,args:=#[d],argTypes:=#[T] }) (hT:sliceB P T E k=true) (hd:Qf3 L k (ev l d) i ver off n E xs)
  (hz:(P.info? E).bind (fun i=>i.zero.map Value.cells)=some zs.toArray) (hzl:zs.length=k) (hpos:Nat.blt 0 k=true) (h1:zs.all Value.oneCell'=true) (hy:y.cells.length=k) (hD:∀ (w:World) (S:Nat→Nat→Prop) (j:Nat) u v,y.cells[j]? = some u→zs[j]? = some v→D w S u v) :
  H1 P o l L (Is (.tup []) ((i,.vec E k ver (xs.take off++List.replicate n y++xs.drop (off+n)))::L)):=by
 intro a w β K Q hsat hf hK
 have hi:=hd.1
 have hk0:0 < k:=by simpa [Nat.blt_eq] using hpos
 obtain⟨hfit,ad,cap,hdv,hc1,hc2,hc3⟩:=hd.out hsat (hf.ev d)
 obtain⟨t1,t2⟩:=sliceB.out hT
 by_cases h0:n=0
 ·subst h0
  have hex:(execOp a.eval o).run P w=.ok (.value (.tuple #[])) w:=by
   cases ad <;> simp [execOp,ho,resolve,invoke,builtin,hdv,Builtin.clear_,run_underlying t1]
  unfold Oper.wp
  rw [hex]
  have hxs:xs.take off++List.replicate 0 y++xs.drop (off+0)=xs:=by simp
  rw [hxs] at hK
  have hq:H49 L ((i,Jg.vec E k ver xs)::L):=fun id=>by
   rw [Gr]
   by_cases e:i=id
   ·subst e; rw [if_pos rfl,hi]
   ·rw [if_neg e]
  exact hK _ _ _ w β ⟨rfl,rfl⟩ (hsat.locEq hq) ((Step.refl w β L).locEq hq) (.tup rfl (fun j u v hu=>by simp at hu))
 ·rcases hc3 with hc3 | ⟨b,hb,rfl⟩
  ·omega
  ·obtain⟨q1,vs,q2,q3,q4⟩:=Gf5 hsat hi hb
   have hsz:zs.toArray.size=k:=by simpa using hzl
   have hcl:(Builtin.zeroCells zs.toArray n).toList.length=n*k:=by simp [Builtin.zeroCells,hzl]
   have hmul:off*k+n*k≤xs.length*k:=by rw [← Nat.add_mul]; exact Nat.mul_le_mul_right _ hfit
   have hyk:∀ z∈List.replicate n y,z.cells.length=k:=fun z hz=>by rw [List.eq_of_mem_replicate hz]; exact hy
   have hDz:∀ (j:Nat) u x,(flat (List.replicate n y))[j]? = some u→(Builtin.zeroCells zs.toArray n).toList[j]? = some x→D w (Jy w β L) u x:=fun j u x hu hx=>by
    have hj:=(List.getElem?_eq_some_iff.1 hx).1
    rw [hcl] at hj
    rw [H9a _ _ _ (by rw [hsz]; exact hj),hsz] at hx
    have hm:j % k < k:=Nat.mod_lt _ hk0
    have hdv:j / k < n:=(Nat.div_lt_iff_lt_mul hk0).2 hj
    have e:j=(j / k)*k+j % k:=by rw [Nat.mul_comm]; exact(Nat.div_add_mod j k).symm
    rw [e,Ga7 hyk (y:=y) (by rw [List.getElem?_replicate,if_pos hdv]) hm] at hu
    refine hD w _ (j % k) u x hu ?_
    rw [← hx]
    simp [hzl,hm]
   have h1c:∀ v∈(Builtin.zeroCells zs.toArray n).toList,v.oneCell'=true:=fun v hv=>by
    obtain⟨j,hj⟩:=List.mem_iff_getElem?.1 hv
    have hjl:=(List.getElem?_eq_some_iff.1 hj).1
    rw [hcl] at hjl
    rw [H9a _ _ _ (by rw [hsz]; exact hjl),hsz] at hj
    have hm:j % k < zs.length:=by rw [hzl]; exact Nat.mod_lt _ hk0
    cases hj
    have:zs.toArray[j % k]! = zs[j % k]:=by simp [hm]
    rw [this]
    exact List.all_eq_true.1 h1 _ (List.getElem_mem hm)
   have hst:=run_storeCells_at P b (off*k) E (Builtin.zeroCells zs.toArray n).toList 0 vs w q2 (by rw [hcl]; omega) h1c
   obtain⟨inf,e1,e2⟩:=Option.bind_eq_some_iff.1 hz
   obtain⟨z,e3,e4⟩:=Option.map_eq_some_iff.1 e2
   simp only [Nat.add_zero] at hst
   have hex:(execOp a.eval o).run P w=.ok (.value (.tuple #[])) (w.setRow b (vs.toList.take (off*k)++(Builtin.zeroCells zs.toArray n).toList++vs.toList.drop (off*k+(Builtin.zeroCells zs.toArray n).toList.length)).toArray):=by
    obtain⟨m,rfl⟩:∃ m,n=m+1:=⟨n - 1,by omega⟩
    simp only [execOp,ho,resolve,invoke,builtin,Sem.run_bind,List.map_toArray,List.map_cons,List.map_nil,hdv]
    simp [Builtin.clear_,run_underlying t1,zeroValue,typeInfo,e1,e3,e4,hst]
   unfold Oper.wp
   rw [hex]
   obtain⟨st,sat⟩:=J5c (off:=off) (zs:=List.replicate n y) (cs:=(Builtin.zeroCells zs.toArray n).toList) hsat hi hb q2 hyk (by rw [hcl,List.length_replicate]) (by simpa using hfit) hDz
   rw [List.length_replicate] at st sat
   exact hK _ _ _ _ _ ⟨rfl,rfl⟩ sat st (.tup rfl (fun j u v hu=>by simp at hu))
end ops

/-! ### Typed elements -/
section typed
variable {P:Program} {o:Oper} {l:Fr} {L:Loc} {α:Type}
theorem Gcb {x p:Operand} {T E k i ver n m:Nat} {kd:IntKind} {z:Int} {f:α→AV} {xs:List α} (ho:o.op=.slice T x (some p) none none) (hx:ev l x=.vec i ver k n) (hp:ev l p=.sc (.int kd z)) (hL:lk L i=some (.vec E k ver (xs.map f))) (hT:sliceB P T E k=true) (hm:z=(m:Int)∧m≤xs.length) :
  H1 P o l L (Is (.vsl i ver k m (xs.length - m)) L):=by
 obtain⟨rfl,hm⟩:=hm
 have h:=Re8 (lo:=m) (hi:=xs.length) ho hT hx hL (.inr ⟨kd,p,rfl,hp⟩) (.inl ⟨rfl,by simp⟩) hm (by simp)
 exact h
theorem J03 {x p:Operand} {T E k i ver n m:Nat} {kd:IntKind} {z:Int} {f:α→AV} {xs:List α} (ho:o.op=.slice T x none (some p) none) (hx:ev l x=.vec i ver k n) (hp:ev l p=.sc (.int kd z)) (hL:lk L i=some (.vec E k ver (xs.map f))) (hT:sliceB P T E k=true) (hm:z=(m:Int)∧m≤xs.length) :
  H1 P o l L (Is (.vsl i ver k 0 m) L):=by
 obtain⟨rfl,hm⟩:=hm
 have h:=Re8 (lo:=0) (hi:=m) ho hT hx hL (.inl ⟨rfl,rfl⟩) (.inr ⟨kd,p,rfl,hp⟩) (Nat.zero_le _) (by simpa using hm)
 exact h
def overlay (xs:List α) (off:Nat) (ys:List α) (n:Nat):List α:=xs.take off++ys.take (min ys.length n)++xs.drop (off+min ys.length n)
def blank (xs:List α) (off n:Nat) (z:α):List α:=xs.take off++List.replicate n z++xs.drop (off+n)
theorem Qe7 {k kx:Nat} {f:α→AV} {ys:List α} {u:AV} (h:Qd u=some (kx,ys.map f)) (hk:kx=k∨ys=[]):He8 L k u (ys.map f):=.inl ⟨kx,h,hk.imp id (fun e=>by rw [e]; rfl)⟩
theorem Jb6 {k i ver off n t:Nat} {f:α→AV} {zs:List α} {u:AV} (h:u=.vsl i ver k off n) (hi:lk L i=some (.vec t k ver (zs.map f))):He8 L k u (((zs.drop off).take n).map f):=.inr (.inr ⟨i,ver,off,n,t,zs.map f,h,hi,by rw [List.map_take,List.map_drop]⟩)
theorem Y19 {d x:Operand} {T T2 E k i ver off n:Nat} {f:α→AV} {xs ys:List α} (ho:o.op=.call { callee:=.builtin .copy,args:=#[d,x],argTypes:=#[T,T2] }) (hT:sliceB P T E k=true) (hd:(ev l d=.vec i ver k n∧off=0)∨ev l d=.vsl i ver k off n) (hi:lk L i=some (.vec E k ver (xs.map f))) (hs:He8 L k (ev l x) (ys.map f)) (hc:∀ y,(f y).flatOk=true) :
  H1 P o l L (Is (I64 ((min ys.length n:Nat):Int)) ((i,.vec E k ver ((overlay xs off ys n).map f))::L)):=by
 have h:=Q94 (off:=off) (n:=n) ho hT ⟨hi,hd⟩ hs (fun y hy=>by
  obtain⟨z,_,rfl⟩:=List.mem_map.1 (List.mem_of_mem_take hy)
  exact hc z)
 simp only [overlay,List.map_append,List.map_take,List.map_drop]
 simpa only [List.length_map] using h
theorem Qfd {d:Operand} {T E k i ver off n:Nat} {f:α→AV} {xs:List α} (y:α) (zs:List Value) (ho:o.op=.call { callee:=.builtin .clear,args:=#[d],argTypes:=#[T] }) (hT:sliceB P T E k=true) (hd:(ev l d=.vec i ver k n∧off=0)∨ev l d=.vsl i ver k off n) (hi:lk L i=some (.vec E k ver (xs.map f)))
  (hz:(P.info? E).bind (fun i=>i.zero.map Value.cells)=some zs.toArray) (hzl:zs.length=k) (hpos:Nat.blt 0 k=true) (h1:zs.all Value.oneCell'=true) (hzz:ZOk (f y).cells zs) :
  H1 P o l L (Is (.tup []) ((i,.vec E k ver ((blank xs off n y).map f))::L)):=by
 have h:=Y1a (off:=off) (n:=n) (y:=f y) ho hT ⟨hi,hd⟩ hz hzl hpos h1 (by rw [hzz.length,hzl]) (fun w S j a b ha hb'=>by
  have:=ZOk.get (w:=w) (β:=⟨fun _=>none,fun b i=>¬ S b i⟩) (L:=[]) hzz j a b ha hb'
  refine(this.data_of_nil).mono fun b i hs=>⟨Classical.byContradiction fun hn=>hs.seen hn,rfl⟩)
 simp only [blank,List.map_append,List.map_take,List.map_drop,List.map_replicate]
 exact h
def Rc3 (k:IntKind) (m:Int) (s:Nat):Int:=m.fdiv (2 ^ (min s k.bits))
theorem Y42 {T T':Nat} {x y:Operand} {k k':IntKind} {m n:Int} {s:Nat} (hn:n=(s:Int)) (ho:o.op=.binOp .shr T x y T') (hx:ev l x=.sc (.int k m)) (hy:ev l y=.sc (.int k' n)):H1 P o l L (Is (.sc (.int k (Rc3 k m s))) L):=
 Y79 hn rfl ho hx hy
end typed
end Go.Proofs.YtecjdioomlhhiaaGreat
