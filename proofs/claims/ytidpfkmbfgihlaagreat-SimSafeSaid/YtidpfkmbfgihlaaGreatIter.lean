/-
 Parts of slices that the call may write in place: Calls that leave objects whose versions are not known before Models of functions that range over maps: Functions that are ranged over:
-/
import Derived.Test.YtidpfkmbfgihlaaGreatSortI
namespace Go.Proofs.YtidpfkmbfgihlaaGreat
open Go.RowKit

theorem Jce {w:World} {β:H5} {L:Loc} {i t k ver b off:Nat} {xs zs:List AV} {vs:Array Value} {cs:List Value} (h0:Sat w β L) (hi:lk L i=some (.vec t k ver xs)) (hb:β.at_ i=some b) (q2:w.heap[b]? = some (.cells vs t (0,0)))
  (hz:∀ z∈zs,z.cells.length=k) (h1:cs.length=zs.length*k) (h7:off+zs.length≤xs.length) (hD:∀ (j:Nat) u x,(flat zs)[j]? = some u→cs[j]? = some x→D w (Ju w β L) u x) :
  Step w β L (w.setRow b (vs.toList.take (off*k)++cs++vs.toList.drop (off*k+cs.length)).toArray) (upP β i (β.at_ i)) ((i,.vec t k ver (xs.take off++zs++xs.drop (off+zs.length)))::L) ∧
  Sat (w.setRow b (vs.toList.take (off*k)++cs++vs.toList.drop (off*k+cs.length)).toArray) (upP β i (β.at_ i)) ((i,.vec t k ver (xs.take off++zs++xs.drop (off+zs.length)))::L):=by
 obtain⟨q1,vs',q2',q3,q4⟩:=H1c h0 hi hb
 rw [q2] at q2'; cases q2'
 have a1:off*k+zs.length*k≤xs.length*k:=by rw [← Nat.add_mul]; exact Nat.mul_le_mul_right _ h7
 have h5:=setRow_heap w b vs (vs.toList.take (off*k)++cs++vs.toList.drop (off*k+cs.length)).toArray t (0,0) q2
 have h2:(vs.toList.take (off*k)++cs++vs.toList.drop (off*k+cs.length)).toArray.size=vs.size:=by
  simp; omega
 have a2:(flat xs).length=xs.length*k:=J1 q1
 have h3:(flat zs).length=zs.length*k:=J1 hz
 have h4:(xs.take off++zs++xs.drop (off+zs.length)).length=xs.length:=by simp; omega
 have h8:∀ y∈xs.take off++zs++xs.drop (off+zs.length),y.cells.length=k:=fun y hy=>by
  simp only [Mk] at hy
  rcases hy with (h | h) | h
  ·exact q1 y (List.mem_of_mem_take h)
  ·exact hz y h
  ·exact q1 y (List.mem_of_mem_drop h)
 obtain⟨st,sat⟩:=Rw (w':=w.setRow b (vs.toList.take (off*k)++cs++vs.toList.drop (off*k+cs.length)).toArray) (t:=t) (k:=k) (ver1:=ver) (xs':=xs.take off++zs++xs.drop (off+zs.length)) (ob':=β.at_ i) h0
  (.inr ⟨ver,xs,hi,M8,fun _=>⟨h4,rfl,fun b' h6=>by
   rw [hb] at h6; cases h6
   rw [World.shape?,h5,World.shape?,q2]; simp only [h2]⟩⟩) rfl rfl ⟨rfl,M8⟩ (by simp)
  (fun b' _ h9=>setRow_other w b b' _ (fun e=>h9 (by rw [inL,hi]; rfl) (by rw [hb,e])))
  (.inr (.inl ⟨by rw [inL,hi]; rfl,rfl⟩))
 refine⟨st,sat ⟨h8,.inr ⟨b,hb,_,h5,by rw [h2,h4]; exact q3,fun j u v hu hv=>?_⟩⟩⟩
 rw [G3b,G3b,G7d q1,J47 q1] at hu
 simp only [List.getElem?_toArray] at hv
 have old:∀ j',(flat xs)[j']? = some u→vs[j']? = some v→D _ _ u v:=fun j' a b=>(q4 j' u v a b).mono st.stab
 have e1:(off+zs.length)*k=off*k+zs.length*k:=Nat.add_mul _ _ _
 rw [e1] at hu
 have lu:(List.take (off*k) (flat xs)).length=off*k:=by simp; omega
 have lv:(List.take (off*k) vs.toList).length=off*k:=by simp; omega
 rcases Kx j (off*k) with hj | hj
 ·rw [List.append_assoc,Ma (by omega),Md,if_pos hj] at hu
  rw [List.append_assoc,Ma (by omega),Md,if_pos hj] at hv
  exact old j hu (by simpa using hv)
 rcases Kx j (off*k+zs.length*k) with a0 | a0
 ·rw [Ma (by rw [Mf,lu,h3]; omega),M9 (by omega),lu] at hu
  rw [Ma (by rw [Mf,lv,h1]; omega),M9 (by omega),lv] at hv
  exact(hD _ u v hu hv).mono st.stab
 ·rw [M9 (by rw [Mf,lu,h3]; omega),Mf,lu,h3,Me] at hu
  rw [M9 (by rw [Mf,lv,h1]; omega),Mf,lv,h1,Me] at hv
  rw [show off*k+zs.length*k+(j - (off*k+zs.length*k))=j by omega] at hu hv
  exact old j hu (by simpa using hv)

def Qae (w:World) (S:Nat→Nat→Prop) (k:Nat) (ys:List AV) (v:Value):Prop:=
 (∀ y∈ys,y.cells.length=k)∧∃ (a:Option Addr) (cap:Nat) (cs:List Value),v=.slice a ys.length cap∧(a=none→ys=[])∧cs.length=ys.length*k∧(∀ (ad:Addr) (j:Nat) u,a=some ad→cs[j]? = some u→w.cell? (ad.add j)=some u) ∧
  ∀ (j:Nat) u x,(flat ys)[j]? = some u→cs[j]? = some x→D w S u x

theorem V.inv_vsl {w:World} {β:H5} {L:Loc} {i ver k k' off n t:Nat} {xs:List AV} {x:Value} (hi:lk L i=some (.vec t k' ver xs)) (h:V w β L (.vsl i ver k off n) x):k=k'∧off+n≤xs.length∧Qac (β.at_ i) k off n x:=by
 cases h with
 | data h=>cases h
 | vsl hp _=>
  obtain⟨t',ver',xs',h1,_,h3⟩:=hp
  rw [hi] at h1; cases h1
  exact⟨rfl,(h3 rfl).1,(h3 rfl).2.1⟩
theorem V.inv_vsl0 {w:World} {β:H5} {L:Loc} {i ver k k' n t:Nat} {xs:List AV} {x:Value} (hi:lk L i=some (.vec t k' ver xs)) (h:V w β L (.vsl i ver k 0 n) x):Qad w (β.at_ i) t k n x:=by
 cases h with
 | data h=>cases h
 | vsl hp _=>
  obtain⟨t',ver',xs',h1,_,h3⟩:=hp
  rw [hi] at h1; cases h1
  exact(h3 rfl).2.2 rfl

theorem J95 {w:World} {β:H5} {L:Loc} {i ver k t n:Nat} {xs:List AV} {x:Value} (h0:Sat w β L) (hi:lk L i=some (.vec t k ver xs)) (hv:V w β L (.vec i ver k n) x):n=xs.length∧Qac (β.at_ i) k 0 n x:=by
 obtain⟨rfl,_,h⟩:=G62 h0 hi hv
 refine⟨rfl,?_⟩
 rcases h with ⟨rfl,rfl,_⟩ | ⟨b,cap,vs,rfl,h1,h2,h3,_⟩
 ·exact⟨none,0,rfl,M8,Nat.zero_le _,.inl rfl⟩
 ·exact⟨_,cap,rfl,h2,h3,.inr ⟨b,h1,by rw [Nat.zero_mul]⟩⟩

theorem Q89 {w:World} {β:H5} {L:Loc} {i ver k t off n:Nat} {xs:List AV} {x:Value} (h4:Sat w β L) (hi:lk L i=some (.vec t k ver xs)) (hn:off+n≤xs.length) (h:Qac (β.at_ i) k off n x):Qae w (Ju w β L) k ((xs.drop off).take n) x:=by
 obtain⟨o1,o2⟩:=h4.obj i _ hi
 have hk:∀ y∈(xs.drop off).take n,y.cells.length=k:=fun y hy=>o1 y (List.mem_of_mem_drop (List.mem_of_mem_take hy))
 have hl:((xs.drop off).take n).length=n:=by simp; omega
 refine⟨hk,?_⟩
 obtain⟨a,cap,rfl,h1,h2,h3⟩:=h
 rw [hl]
 by_cases h0:n=0
 ·subst h0
  exact⟨a,cap,[],rfl,fun _=>by simp,by simp,fun ad j u _ hu=>by simp at hu,fun j u x _ hx=>by simp at hx⟩
 ·rcases h3 with h3 | ⟨b,hb,rfl⟩
  ·exact absurd h3 h0
  ·obtain⟨q1,vs,q2,q3,q4⟩:=H1c h4 hi hb
   have hm:off*k+n*k≤xs.length*k:=by rw [← Nat.add_mul]; exact Nat.mul_le_mul_right _ hn
   refine⟨_,cap,(vs.toList.drop (off*k)).take (n*k),rfl,(fun e=>by cases e),by simp; omega,fun ad j u e hu=>?_,fun j u x hu hx=>?_⟩
   ·cases e
    have hj:=(M3 hu).1
    rw [List.length_take] at hj
    rw [Md,if_pos (by omega),Me] at hu
    rw [Addr.add_lit]
    simp [World.cell?,q2]
    simpa using hu
   ·have hj:=(M3 hx).1
    rw [List.length_take] at hj
    rw [Md,if_pos (by omega),Me] at hx
    have h5:∀ y∈xs.drop off,y.cells.length=k:=fun y hy=>o1 y (List.mem_of_mem_drop hy)
    rw [G7d h5,J47 o1,Md,if_pos (by omega),Me] at hu
    exact q4 _ u x hu (by simpa using hx)

theorem Rfd {w:World} {S:Nat→Nat→Prop} {k k':Nat} {ys:List AV} {x:Value} (h:D w S (.list k' ys) x) (hk:k'=k∨ys=[]):Qae w S k ys x:=by
 obtain⟨ao,cap,rfl,_⟩:=h.len
 obtain⟨_,h1,h2,cs,h3,h4,h5⟩:=h.vals
 have h0:∀ y∈ys,y.cells.length=k:=by
  rcases hk with rfl | rfl
  ·exact h1
  ·simp
 refine⟨h0,ao,cap,cs,rfl,fun e=>Ku (h2 e),h3.trans (J1 h0),h4,fun j u x hu hx=>?_⟩
 obtain⟨x',h6,hd⟩:=h5 j u hu
 rw [hx] at h6; cases h6
 exact hd

def J2e (L:Loc) (k:Nat) (s:AV) (ys:List AV):Prop:=
 (∃ kx,Qf s=some (kx,ys)∧(kx=k∨ys=[]))∨(∃ i ver n t,s=.vec i ver k n∧lk L i=some (.vec t k ver ys))∨(∃ i ver off n t zs,s=.vsl i ver k off n∧lk L i=some (.vec t k ver zs)∧ys=(zs.drop off).take n)
theorem J2e.reads {w:World} {β:H5} {L:Loc} {k:Nat} {s:AV} {ys:List AV} {x:Value} (h0:Sat w β L) (h:J2e L k s ys) (hv:V w β L s x):Qae w (Ju w β L) k ys x:=by
 rcases h with ⟨kx,h1,h2⟩ | ⟨i,ver,n,t,rfl,hi⟩ | ⟨i,ver,off,n,t,zs,rfl,hi,rfl⟩
 ·exact Rfd (hv.Qf h1) h2
 ·obtain⟨rfl,h⟩:=J95 h0 hi hv
  have:=Q89 h0 hi (by simp) h
  simpa using this
 ·obtain⟨_,h1,h2⟩:=hv.inv_vsl hi
  exact Q89 h0 hi h1 h2
def Ra3 (L:Loc) (k:Nat) (s:AV) (i ver off n t:Nat) (xs:List AV):Prop:=
 lk L i=some (.vec t k ver xs)∧((s=.vec i ver k n∧off=0)∨s=.vsl i ver k off n)
theorem Ra3.out {w:World} {β:H5} {L:Loc} {k i ver off n t:Nat} {s:AV} {xs:List AV} {x:Value} (h0:Sat w β L) (h:Ra3 L k s i ver off n t xs) (hv:V w β L s x):off+n≤xs.length∧Qac (β.at_ i) k off n x:=by
 obtain⟨hi,⟨rfl,rfl⟩ | rfl⟩:=h
 ·obtain⟨rfl,h⟩:=J95 h0 hi hv
  exact⟨by simp,h⟩
 ·exact(hv.inv_vsl hi).2

section ops
variable {P:Program} {N:Cfg} {o:Oper} {l:Fr} {L L':Loc} {u:AV} {α:Type}

theorem Yc1 {x:Operand} {T E k i ver n lo hi:Nat} {lop h4:Option Operand} {xs:List AV} (ho:o.op=.slice T x lop h4 none) (hT:sliceB P T E k=true) (hx:ev l x=.vec i ver k n) (hL:lk L i=some (.vec E k ver xs))
  (h7:(lop=none∧lo=0)∨∃ kd p,lop=some p∧ev l p=.sc (.int kd lo)) (h8:(h4=none∧hi=xs.length)∨∃ kd p,h4=some p∧ev l p=.sc (.int kd hi)) (h1:lo≤hi) (h2:hi≤xs.length) :
  H2 P o l L (Is (.vsl i ver k lo (hi - lo)) L):=
 Hj fun a w β h5 hf=>by
  have hv:=hf.ev x
  rw [hx] at hv
  obtain⟨rfl,a',cap,he,h9,a0,h6⟩:=J95 h5 hL hv
  refine⟨.slice (if cap=lo then a' else a'.map (·.add (lo*k))) (hi - lo) (cap - lo),?_,.vsl ⟨E,ver,xs,hL,M8,fun _=>⟨by omega,⟨_,_,rfl,by omega,by omega,?_⟩,fun h0=>?_⟩⟩ rfl⟩
  ·simp only [execOp,ho,he,Sem.run_bind,Option.map_none]
   rw [J3a hT a' xs.length cap lo hi _ _ w h1 h2 h9]
   ·rfl
   ·rcases h7 with ⟨rfl,rfl⟩ | ⟨kd,p,rfl,hp⟩
    ·exact .inl ⟨rfl,rfl⟩
    ·refine .inr ⟨kd,?_⟩
     have:=hf.ev p; rw [hp] at this
     simp [this.inv_sc]
   ·rcases h8 with ⟨rfl,rfl⟩ | ⟨kd,p,rfl,hp⟩
    ·exact .inl ⟨rfl,rfl⟩
    ·refine .inr ⟨kd,?_⟩
     have:=hf.ev p; rw [hp] at this
     simp [this.inv_sc]
  ·by_cases h0:hi - lo=0
   ·exact .inl h0
   ·right
    rcases h6 with h6 | ⟨b,hb,rfl⟩
    ·omega
    ·refine⟨b,hb,?_⟩
     rw [if_neg (by omega)]
     simp [Addr.add_lit]
  ·subst h0
   obtain⟨_,_,hc⟩:=G62 h5 hL hv
   rcases hc with ⟨e1,e2,e3⟩ | ⟨b,cap',vs,e1,e2,e3,e4,e5,e6,_⟩
   ·rw [he] at e1
    injection e1 with f1 f2 f3
    subst f1
    subst f3
    subst e2
    have h3:hi=0:=by simpa using h2
    subst h3
    exact .inl ⟨rfl,rfl,e3⟩
   ·rw [he] at e1
    injection e1 with f1 f2 f3
    subst f1
    subst f3
    refine .inr ⟨b,cap,?_,e2,by omega,e4,by simp [World.shape?,e5,e6]⟩
    split <;> simp [Addr.add_lit]

theorem Y5d {T E k:Nat} (hT:sliceB P T E k=true) {T2 ty:Nat} (w:World) (a s:Option Addr) (n cap m cap2:Nat) (cs:List Value) (hs:s=none→m=0) (h4:cs.length=min m n*k) (h5:∀ (ad:Addr) (j:Nat) u,s=some ad→cs[j]? = some u→w.cell? (ad.add j)=some u) :
  (Builtin.copy_ #[T,T2] ty #[.slice a n cap,.slice s m cap2]).run P w=(match a with | some ad=>((storeCells ad cs).run P w).andThen fun _ w=>.ok (goInt ((min m n:Nat):Int)) w | none=>.ok (goInt ((min m n:Nat):Int)) w):=by
 obtain⟨h1,h2⟩:=sliceB.out hT
 have h3:=Qe h2 w
 have h0:Nat.min m n=min m n:=rfl
 cases s with
 | none=>
  have hm:=hs rfl
  subst hm
  have:cs=[]:=Ku (by rw [h4]; simp)
  subst this
  cases a <;> simp [Builtin.copy_,run_underlying h1,Builtin.lenOf,Builtin.firstCells,h3,h0,storeCells,Result.andThen]
 | some ad=>
  have hl:=run_loadCells_list (P:=P) w ad cs (fun j v h=>h5 ad j v rfl h)
  rw [h4] at hl
  cases a with
  | none=>simp [Builtin.copy_,run_underlying h1,Builtin.lenOf,Builtin.firstCells,h3,h0,hl]
  | some a2=>
   simp [Builtin.copy_,run_underlying h1,Builtin.lenOf,Builtin.firstCells,h3,h0,hl]

theorem R4a {d x:Operand} {T T2 E k i ver off n:Nat} {xs ys:List AV} (ho:o.op=.call { callee:=.builtin .copy,args:=#[d,x],argTypes:=#[T,T2] }) (hT:sliceB P T E k=true) (hd:Ra3 L k (ev l d) i ver off n E xs) (hs:J2e L k (ev l x) ys) (hc:∀ y∈ys.take (min ys.length n),y.flatOk=true) :
  H2 P o l L (Is (I64 ((min ys.length n:Nat):Int)) ((i,.vec E k ver (xs.take off++ys.take (min ys.length n)++xs.drop (off+min ys.length n)))::L)):=by
 intro a w β K Q h1 hf hK
 have hi:=hd.1
 obtain⟨b3,ad,cap,a4,b5,b6,h8⟩:=hd.out h1 (hf.ev d)
 obtain⟨h4,asx,cap2,cs,a5,a6,a7,h6,a8⟩:=hs.reads h1 (hf.ev x)
 have b7:(flat ys).length=ys.length*k:=J1 h4
 have b8:min ys.length n*k≤ys.length*k:=Nat.mul_le_mul_right _ (Nat.min_le_left _ _)
 have h2:(cs.take (min ys.length n*k)).length=min ys.length n*k:=by rw [List.length_take,a7]; omega
 have hr:=Y5d (P:=P) hT (T2:=T2) (ty:=o.type) w ad asx n cap ys.length cap2 (cs.take (min ys.length n*k)) (fun e=>by rw [a6 e]; rfl) h2 (fun ad' j u e hu=>by
  have hj:=(M3 hu).1
  rw [Md,if_pos (by omega)] at hu
  exact h6 ad' j u e hu)
 have a9:(execOp a.eval o).run P w=((Builtin.copy_ #[T,T2] o.type #[.slice ad n cap,.slice asx ys.length cap2]).run P w).andThen fun v w=>.ok (.value v) w:=by
  simp [execOp,ho,resolve,invoke,builtin,a4,a5]
  try rfl
 have h5:∀ y∈ys.take (min ys.length n),y.cells.length=k:=fun y hy=>h4 y (List.mem_of_mem_take hy)
 have h3:(ys.take (min ys.length n)).length=min ys.length n:=by rw [List.length_take]; omega
 unfold Oper.wp
 rw [a9,hr]
 by_cases h0:min ys.length n=0
 ·-- nothing is written
  have a3:cs.take (min ys.length n*k)=[]:=Ku (by rw [h2,h0,Nat.zero_mul])
  rw [a3]
  have b0:(match ad with | some a2=>((storeCells a2 []).run P w).andThen fun _ w=>Result.ok (goInt ((min ys.length n:Nat):Int)) w | none=>Result.ok (goInt ((min ys.length n:Nat):Int)) w)=Result.ok (goInt ((min ys.length n:Nat):Int)) w:=by
   cases ad <;> simp [storeCells,Result.andThen]
  rw [b0]
  have b1:xs.take off++ys.take (min ys.length n)++xs.drop (off+min ys.length n)=xs:=by rw [h0]; simp
  rw [b1] at hK
  have hq:Ha4 L ((i,Ji.vec E k ver xs)::L):=fun id=>by
   rw [Gi]
   by_cases e:i=id
   ·subst e; rw [if_pos rfl,hi]
   ·rw [if_neg e]
  exact hK _ _ _ w β ⟨rfl,rfl⟩ (h1.locEq hq) ((Step.refl w β L).locEq hq) .sc
 ·rcases h8 with h8 | ⟨b,hb,rfl⟩
  ·omega
  ·obtain⟨q1,vs,q2,q3,q4⟩:=H1c h1 hi hb
   have h7:off+(ys.take (min ys.length n)).length≤xs.length:=by rw [h3]; omega
   have b4:off*k+min ys.length n*k≤xs.length*k:=by rw [← Nat.add_mul]; exact Nat.mul_le_mul_right _ (by omega)
   have h9:∀ (j:Nat) u x,(flat (ys.take (min ys.length n)))[j]? = some u→(cs.take (min ys.length n*k))[j]? = some x→D w (Ju w β L) u x:=fun j u x hu hx=>by
    have hj:=(M3 hx).1
    rw [h2] at hj
    rw [Md,if_pos hj] at hx
    rw [G7d h4,Md,if_pos hj] at hu
    exact a8 j u x hu hx
   have b2:∀ v∈cs.take (min ys.length n*k),v.oneCell'=true:=fun v hv=>by
    obtain⟨j,hj⟩:=List.mem_iff_getElem?.1 hv
    have a0:=(M3 hj).1
    rw [h2] at a0
    have hu:(flat (ys.take (min ys.length n)))[j]? = some ((flat (ys.take (min ys.length n)))[j]'(by rw [J1 h5,h3]; exact a0)):=M4 _
    exact(V.data (h9 j _ v hu hj)).cell (Hbf hc (M6 hu))
   have a1:=run_storeCells_at P b (off*k) E (cs.take (min ys.length n*k)) 0 vs w q2 (by rw [h2]; omega) b2
   simp only [Nat.add_zero] at a1
   simp only [a1,Result.andThen]
   obtain⟨st,sat⟩:=Jce (off:=off) (zs:=ys.take (min ys.length n)) (cs:=cs.take (min ys.length n*k)) h1 hi hb q2 h5 (by rw [h2,h3]) h7 h9
   rw [h3] at st sat
   exact hK _ _ _ _ _ ⟨rfl,rfl⟩ sat st .sc
theorem Hcf (z:Array Value) (n j:Nat) (hj:j < n*z.size):(Builtin.zeroCells z n).toList[j]? = some z[j % z.size]! := by
 simp [Builtin.zeroCells,hj]

theorem Z02 {d:Operand} {T E k i ver off n:Nat} {xs:List AV} {y:AV} {zs:List Value} (ho:o.op=.call { callee:=.builtin .clear,args:=#[d],argTypes:=#[T] }) (hT:sliceB P T E k=true) (hd:Ra3 L k (ev l d) i ver off n E xs)
  (hz:(P.info? E).bind (fun i=>i.zero.map Value.cells)=some zs.toArray) (h3:zs.length=k) (a4:Nat.blt 0 k=true) (h1:zs.all Value.oneCell'=true) (hy:y.cells.length=k) (hD:∀ (w:World) (S:Nat→Nat→Prop) (j:Nat) u v,y.cells[j]? = some u→zs[j]? = some v→D w S u v) :
  H2 P o l L (Is (.tup []) ((i,.vec E k ver (xs.take off++List.replicate n y++xs.drop (off+n)))::L)):=by
 intro a w β K Q h2 hf hK
 have hi:=hd.1
 have h7:0 < k:=by simpa [Nat.blt_eq] using a4
 obtain⟨h8,ad,cap,h4,a9,b0,a0⟩:=hd.out h2 (hf.ev d)
 obtain⟨t1,t2⟩:=sliceB.out hT
 by_cases h0:n=0
 ·subst h0
  have h9:(execOp a.eval o).run P w=.ok (.value (.tuple #[])) w:=by
   cases ad <;> simp [execOp,ho,resolve,invoke,builtin,h4,Builtin.clear_,run_underlying t1]
  unfold Oper.wp
  rw [h9]
  have a5:xs.take off++List.replicate 0 y++xs.drop (off+0)=xs:=by simp
  rw [a5] at hK
  have hq:Ha4 L ((i,Ji.vec E k ver xs)::L):=fun id=>by
   rw [Gi]
   by_cases e:i=id
   ·subst e; rw [if_pos rfl,hi]
   ·rw [if_neg e]
  exact hK _ _ _ w β ⟨rfl,rfl⟩ (h2.locEq hq) ((Step.refl w β L).locEq hq) (.tup rfl (fun j u v hu=>by simp at hu))
 ·rcases a0 with a0 | ⟨b,hb,rfl⟩
  ·omega
  ·obtain⟨q1,vs,q2,q3,q4⟩:=H1c h2 hi hb
   have h5:zs.toArray.size=k:=by simpa using h3
   have h6:(Builtin.zeroCells zs.toArray n).toList.length=n*k:=by simp [Builtin.zeroCells,h3]
   have a8:off*k+n*k≤xs.length*k:=by rw [← Nat.add_mul]; exact Nat.mul_le_mul_right _ h8
   have a1:∀ z∈List.replicate n y,z.cells.length=k:=fun z hz=>by rw [List.eq_of_mem_replicate hz]; exact hy
   have a6:∀ (j:Nat) u x,(flat (List.replicate n y))[j]? = some u→(Builtin.zeroCells zs.toArray n).toList[j]? = some x→D w (Ju w β L) u x:=fun j u x hu hx=>by
    have hj:=(M3 hx).1
    rw [h6] at hj
    rw [Hcf _ _ _ (by rw [h5]; exact hj),h5] at hx
    have hm:j % k < k:=Nat.mod_lt _ h7
    have h4:j / k < n:=(Nat.div_lt_iff_lt_mul h7).2 hj
    have e:j=(j / k)*k+j % k:=by rw [Nat.mul_comm]; exact(Nat.div_add_mod j k).symm
    rw [e,Gc4 a1 (y:=y) (by rw [List.getElem?_replicate,if_pos h4]) hm] at hu
    refine hD w _ (j % k) u x hu ?_
    rw [← hx]
    simp [h3,hm]
   have a7:∀ v∈(Builtin.zeroCells zs.toArray n).toList,v.oneCell'=true:=fun v hv=>by
    obtain⟨j,hj⟩:=List.mem_iff_getElem?.1 hv
    have a2:=(M3 hj).1
    rw [h6] at a2
    rw [Hcf _ _ _ (by rw [h5]; exact a2),h5] at hj
    have hm:j % k < zs.length:=by rw [h3]; exact Nat.mod_lt _ h7
    cases hj
    have:zs.toArray[j % k]! = zs[j % k]:=by simp [hm]
    rw [this]
    exact List.all_eq_true.1 h1 _ (List.getElem_mem hm)
   have a3:=run_storeCells_at P b (off*k) E (Builtin.zeroCells zs.toArray n).toList 0 vs w q2 (by rw [h6]; omega) a7
   obtain⟨inf,e1,e2⟩:=Option.bind_eq_some_iff.1 hz
   obtain⟨z,e3,e4⟩:=Option.map_eq_some_iff.1 e2
   simp only [Nat.add_zero] at a3
   have h9:(execOp a.eval o).run P w=.ok (.value (.tuple #[])) (w.setRow b (vs.toList.take (off*k)++(Builtin.zeroCells zs.toArray n).toList++vs.toList.drop (off*k+(Builtin.zeroCells zs.toArray n).toList.length)).toArray):=by
    obtain⟨m,rfl⟩:∃ m,n=m+1:=⟨n - 1,by omega⟩
    simp only [execOp,ho,resolve,invoke,builtin,Sem.run_bind,List.map_toArray,List.map_cons,List.map_nil,h4]
    simp [Builtin.clear_,run_underlying t1,zeroValue,typeInfo,e1,e3,e4,a3]
   unfold Oper.wp
   rw [h9]
   obtain⟨st,sat⟩:=Jce (off:=off) (zs:=List.replicate n y) (cs:=(Builtin.zeroCells zs.toArray n).toList) h2 hi hb q2 a1 (by rw [h6,List.length_replicate]) (by simpa using h8) a6
   rw [List.length_replicate] at st sat
   exact hK _ _ _ _ _ ⟨rfl,rfl⟩ sat st (.tup rfl (fun j u v hu=>by simp at hu))
end ops

/-! ### Typed elements -/
section typed
variable {P:Program} {o:Oper} {l:Fr} {L:Loc} {α:Type}
theorem Geb {x p:Operand} {T E k i ver n m:Nat} {kd:IntKind} {z:Int} {f:α→AV} {xs:List α} (ho:o.op=.slice T x (some p) none none) (hx:ev l x=.vec i ver k n) (hp:ev l p=.sc (.int kd z)) (hL:lk L i=some (.vec E k ver (xs.map f))) (hT:sliceB P T E k=true) (hm:z=(m:Int)∧m≤xs.length) :
  H2 P o l L (Is (.vsl i ver k m (xs.length - m)) L):=by
 obtain⟨rfl,hm⟩:=hm
 have h:=Yc1 (lo:=m) (hi:=xs.length) ho hT hx hL (.inr ⟨kd,p,rfl,hp⟩) (.inl ⟨rfl,by simp⟩) hm (by simp)
 exact h
theorem R19 {x p:Operand} {T E k i ver n m:Nat} {kd:IntKind} {z:Int} {f:α→AV} {xs:List α} (ho:o.op=.slice T x none (some p) none) (hx:ev l x=.vec i ver k n) (hp:ev l p=.sc (.int kd z)) (hL:lk L i=some (.vec E k ver (xs.map f))) (hT:sliceB P T E k=true) (hm:z=(m:Int)∧m≤xs.length) :
  H2 P o l L (Is (.vsl i ver k 0 m) L):=by
 obtain⟨rfl,hm⟩:=hm
 have h:=Yc1 (lo:=0) (hi:=m) ho hT hx hL (.inl ⟨rfl,rfl⟩) (.inr ⟨kd,p,rfl,hp⟩) (Nat.zero_le _) (by simpa using hm)
 exact h
def overlay (xs:List α) (off:Nat) (ys:List α) (n:Nat):List α:=xs.take off++ys.take (min ys.length n)++xs.drop (off+min ys.length n)
def blank (xs:List α) (off n:Nat) (z:α):List α:=xs.take off++List.replicate n z++xs.drop (off+n)
theorem R9d {k kx:Nat} {f:α→AV} {ys:List α} {u:AV} (h:Qf u=some (kx,ys.map f)) (hk:kx=k∨ys=[]):J2e L k u (ys.map f):=.inl ⟨kx,h,hk.imp id (fun e=>by rw [e]; rfl)⟩
theorem Q45 {k i ver off n t:Nat} {f:α→AV} {zs:List α} {u:AV} (h:u=.vsl i ver k off n) (hi:lk L i=some (.vec t k ver (zs.map f))):J2e L k u (((zs.drop off).take n).map f):=.inr (.inr ⟨i,ver,off,n,t,zs.map f,h,hi,by rw [List.map_take,List.map_drop]⟩)
theorem Z01 {d x:Operand} {T T2 E k i ver off n:Nat} {f:α→AV} {xs ys:List α} (ho:o.op=.call { callee:=.builtin .copy,args:=#[d,x],argTypes:=#[T,T2] }) (hT:sliceB P T E k=true) (hd:(ev l d=.vec i ver k n∧off=0)∨ev l d=.vsl i ver k off n) (hi:lk L i=some (.vec E k ver (xs.map f))) (hs:J2e L k (ev l x) (ys.map f)) (hc:∀ y,(f y).flatOk=true) :
  H2 P o l L (Is (I64 ((min ys.length n:Nat):Int)) ((i,.vec E k ver ((overlay xs off ys n).map f))::L)):=by
 have h:=R4a (off:=off) (n:=n) ho hT ⟨hi,hd⟩ hs (fun y hy=>by
  obtain⟨z,_,rfl⟩:=Mm.1 (List.mem_of_mem_take hy)
  exact hc z)
 simp only [overlay,List.map_append,List.map_take,List.map_drop]
 simpa only [Mj] using h
theorem Rac {d:Operand} {T E k i ver off n:Nat} {f:α→AV} {xs:List α} (y:α) (zs:List Value) (ho:o.op=.call { callee:=.builtin .clear,args:=#[d],argTypes:=#[T] }) (hT:sliceB P T E k=true) (hd:(ev l d=.vec i ver k n∧off=0)∨ev l d=.vsl i ver k off n) (hi:lk L i=some (.vec E k ver (xs.map f)))
  (hz:(P.info? E).bind (fun i=>i.zero.map Value.cells)=some zs.toArray) (h0:zs.length=k) (h3:Nat.blt 0 k=true) (h1:zs.all Value.oneCell'=true) (h2:ZOk (f y).cells zs) :
  H2 P o l L (Is (.tup []) ((i,.vec E k ver ((blank xs off n y).map f))::L)):=by
 have h:=Z02 (off:=off) (n:=n) (y:=f y) ho hT ⟨hi,hd⟩ hz h0 h3 h1 (by rw [h2.length,h0]) (fun w S j a b ha h4=>by
  have:=ZOk.get (w:=w) (β:=⟨fun _=>none,fun b i=>¬ S b i⟩) (L:=[]) h2 j a b ha h4
  refine(this.data_of_nil).mono fun b i hs=>⟨Classical.byContradiction fun hn=>hs.seen hn,rfl⟩)
 simp only [blank,List.map_append,List.map_take,List.map_drop,List.map_replicate]
 exact h
def R98 (k:IntKind) (m n:Int):Int:=k.wrap (BitVec.ofInt k.bits m &&& BitVec.ofInt k.bits n).toNat
def Jd9 (k:IntKind) (m:Int) (s:Nat):Int:=m.fdiv (2 ^ (min s k.bits))
theorem Yce {T T':Nat} {x y:Operand} {k:IntKind} {m n:Int} (ho:o.op=.binOp .and T x y T') (hx:ev l x=.sc (.int k m)) (hy:ev l y=.sc (.int k n)):H2 P o l L (Is (.sc (.int k (R98 k m n))) L):=
 H90 (fun P w=>by simp [eqGuard,binOp,Op.intBits,R98]) hx hy ho
theorem Y15 {T T':Nat} {x y:Operand} {k k':IntKind} {m n:Int} {s:Nat} (hn:n=(s:Int)) (ho:o.op=.binOp .shr T x y T') (hx:ev l x=.sc (.int k m)) (hy:ev l y=.sc (.int k' n)):H2 P o l L (Is (.sc (.int k (Jd9 k m s))) L):=
 Z61 hn rfl ho hx hy
end typed
set_option linter.unusedVariables false

theorem Jh.mono {P:Program} {f:FuncId} {args:List AV} {L0:Loc} {R R':AV→Loc→Prop} (h:Jh P f args L0 R) (hr:∀ u L,R u L→R' u L):Jh P f args L0 R':=fun w β vs a b c=>
 (h w β vs a b c).mono fun e w' hh=>by
  obtain⟨v,r,β',L',h1,h2,h3,h4,h5⟩:=hh
  exact⟨v,r,β',L',h1,h2,h3,h4,hr _ _ h5⟩
theorem Pure.monoP {P:Program} {f:FuncId} {args:List AV} {R R':AV→Prop} (h:Pure P f args R) (hr:∀ u,R u→R' u):Pure P f args R':=Jh.mono h (fun u L hh=>⟨hh.1,hr u hh.2⟩)
def Y02:Loc→List Nat→Bool
 | [],_=>true
 | (i,_)::r,B=>B.any (Nat.beq i)&&Y02 r B
theorem G56 {B:List Nat}:∀ {L0:Loc},Y02 L0 B=true→∀ id,(lk L0 id).isSome=true→id∈B
 | [],_,id,h=>by simp [lk] at h
 | (i,o)::r,hb,id,h=>by
  simp only [Y02,Mh,List.any_eq_true] at hb
  rw [Gi] at h
  by_cases e:i=id
  ·obtain⟨x,hx,h0⟩:=hb.1
   rw [← e,Kv h0]; exact hx
  ·rw [if_neg e] at h; exact G56 hb.2 id h

theorem G87 {P:Program} {N:Cfg} {c:Code} {Q:Post} {l:Fr} {L:Loc} (s:Nat) {i ver k n E:Nat} {xs:List AV} (h1:look l s=.vec i ver k n) (hi:lk L i=some (.vec E k ver xs)) (h:n=xs.length→JC P N c Q l L):JC P N c Q l L:=fun n w0 β0 L0 a w β hs=>
 h (by
  have hv:=hs.frame.tmp s
  rw [h1] at hv
  exact(G62 hs.sat hi hv).1) n w0 β0 L0 a w β hs
theorem Ra1 {P:Program} {N:Cfg} {o:Oper} {ops:Array Oper} {rest:List Oper} {Q:Post} {l:Fr} {L:Loc} {α:Type} {x:Operand} {T E k k' d i ver n:Nat} {f:α→AV} {xs:List α} (hT:sliceB P T E k'=true) (ho:o.op=.call { callee:=.builtin .len,args:=#[x],argTypes:=#[T] }) (hx:ev l x=.vec i ver k n) (hi:lk L i=some (.vec E k ver (xs.map f)))
  (hk:xs.length≤maxLen→JL P N ops rest Q ((d,I64 (xs.length:Int))::l) L) (hg:o.guard=none) (hd:o.dst=some d) (hn:Nat.blt d N.n=true):JL P N ops (o::rest) Q l L:=by
 intro n w0 β0 L0 a w β hs
 have hv:=hs.frame.ev x
 rw [hx] at hv
 obtain⟨e,_,h⟩:=G62 hs.sat hi hv
 rw [Mj] at e
 subst e
 have hm:xs.length≤maxLen:=by
  rcases h with ⟨_,h2,_⟩ | ⟨b,cap,vs,_,_,h3,h4,_⟩
  ·rw [List.map_eq_nil_iff] at h2
   rw [h2]; exact Nat.zero_le _
  ·rw [Mj] at h3; exact Nat.le_trans h3 h4
 exact G0 (J8e hT ho hx hi) (hk hm) hg hd hn (by unfold G54; rw [ho]) n w0 β0 L0 a w β hs

section calls
variable {P:Program} {o:Oper} {l:Fr} {L:Loc} {γ:Type}
theorem Qa3 {f:FuncId} {vs:Array Value} {args:List AV} {L0:Loc} {u:γ→AV} {Lr:γ→Loc} {a:Act} {w:World} {β:H5} {K:Act→World→Prop} {Q:Exit→Act→World→Prop} (hc:Jh P f args L0 (fun r L'=>∃ p,r=u p∧L'=Lr p)) (h0:Sat w β L)
  (h4:Qdc L L0) (h6:closedIn (inL L0) L0=true) (h5:∀ p,H4a L L0 (Lr p)=true) (hl:vs.size=args.length)
  (hv:∀ (j:Nat) u v,args[j]? = some u→vs[j]? = some v→V w β L u v∧u.refs (inL L0)=true)
  (hK:∀ u' L' v w' β',(∃ p,u'=u p∧L'=Lr p++Hb9 L L0)→Sat w' β' L'→Step w β L w' β' L'→V w' β' L' u' v→K (a.put o.dst v) w') :
  Calls P f vs w fun
   | .returned v,w''=>K (a.put o.dst v) w''
   | .panicked chain,w''=>Q (.panic chain) a w''
   | .outgrown,_=>LetsOut Q:=by
 refine(Q99 hc h0 (fun id ob h=>h4.get h) (fun id ob h=>closedIn.get h6 h) hl hv (fun r L' hR id h=>by obtain⟨p,_,rfl⟩:=hR; exact H4a.get (h5 p) h)).mono fun e w' h=>?_
 obtain⟨v,r,β',L',rfl,⟨p,rfl,rfl⟩,h1,h2,h3⟩:=h
 exact hK _ _ v w' _ ⟨p,rfl,rfl⟩ h1 h2 h3

theorem Qd0 {f:FuncId} {xs:List Operand} {args:List AV} {ts:Array TypeId} {L0:Loc} {u:γ→AV} {Lr:γ→Loc} (ho:o.op=.call { callee:=.value (.func f),args:=xs.toArray,argTypes:=ts }) (hc:Jh P f args L0 (fun r L'=>∃ p,r=u p∧L'=Lr p)) (hB:H7 P f=true) (ha:J0a l L0 xs args)
  (h0:Qdc L L0) (h5:closedIn (inL L0) L0=true) (h3:∀ p,H4a L L0 (Lr p)=true):H2 P o l L (fun u' L''=>∃ p,u'=u p∧L''=Lr p++Hb9 L L0):=by
 intro a w β K Q h4 hf hK
 have hr:(execOp a.eval o).run P w=.ok (.enter f (xs.toArray.map a.eval)) w:=by
  simp [execOp,ho,resolve,Act.eval,Deferred.ofValue,invoke,H7.out hB]
 unfold Oper.wp
 rw [hr]
 refine Qa3 hc h4 h0 h5 h3 (by simp [ha.length]) (fun j u v hu hv=>?_) hK
 simp only [Array.getElem?_map,List.getElem?_toArray,Option.map_eq_some_iff] at hv
 obtain⟨x,hx,rfl⟩:=hv
 obtain⟨h1,h2⟩:=ha.get hx hu
 refine⟨?_,h2⟩
 rcases h1 with h1 | h1
 ·rw [← h1]; exact hf.ev x
 ·rw [← h1]; exact(hf.ev x).plain

end calls

section rel
variable {α β σ R:Type} {r:R}
def Rel (r:R) (m:Option Prop) (d:Option R):Prop:=d=some r→∃ p:Prop,m=some p∧p
theorem Ja8 {e:R}:Rel r (some (e=r)) (some e):=fun h=>⟨_,rfl,M5 h⟩
theorem J1f {m:Option Prop}:Rel r m none:=fun h=>by cases h
theorem J3b {m:Option α} {k:α→Option Prop} {k':α→Option R} (h:∀ x,Rel r (k x) (k' x)):Rel r (bnd m k) (bnd m k'):=by
 cases m with
 | none=>exact J1f
 | some x=>exact h x
theorem H9c {c:Bool} {x y:Option Prop} {x' y':Option R} (h1:c=true→Rel r x x') (h2:c=false→Rel r y y'):Rel r (bif c then x else y) (bif c then x' else y'):=by
 cases c with
 | true=>exact h1 rfl
 | false=>exact h2 rfl
theorem Y23 {z:Int} {k:Int→Option Prop} {k':Int→Option R} (h:∀ x,Rel r (k x) (k' x)):Rel r (chk z k) (chk z k'):=by
 unfold chk; exact H9c (fun _=>h z) (fun _=>J1f)
theorem Z1a {m:(α→Option Prop)→Option Prop} {m':(α→Option R)→Option R} {k:α→Option Prop} {k':α→Option R} (h:∀ K K',(∀ a,Rel r (K a) (K' a))→Rel r (m K) (m' K')) (hk:∀ a,Rel r (k a) (k' a)):Rel r (jp m k) (jp m' k'):=h k k' hk
theorem Ja9 {b:α→Nat→σ→(σ→Option Prop)→Option Prop} {b':α→Nat→σ→(σ→Option R)→Option R} {kx:σ→Option Prop} {kx':σ→Option R}
  (h:∀ x i s nx nx',(∀ s,Rel r (nx s) (nx' s))→Rel r (b x i s nx) (b' x i s nx')) (hk:∀ s,Rel r (kx s) (kx' s)):∀ {xs:List α} {i:Nat} {s:σ},Rel r (each b kx xs i s) (each b' kx' xs i s)
 | [],_,s=>hk s
 | x::_,i,s=>h x i s _ _ (fun _=>Ja9 h hk)
theorem Ja5 {c:α→Bool} {e e':β}:∀ (l:List α) (s:Unit),H2a (fun x (_:Unit) nx=>bif c x then lft (some e) else nx ()) (fun _=>some e') l s=some (bif l.any c then e else e')
 | [],_=>rfl
 | x::l,s=>by
  rw [H2a]
  cases hc:c x with
  | true=>simp [lft,hc]
  | false=>simp [hc,Ja5 l]
theorem Yd8 {c:α→Bool} {e e':R} {l:List α}:Rel r (J00 (fun x (_:Unit) nx=>bif c x then lft (some (e=r)) else nx ()) (fun _=>some (e'=r)) l ()) (H2a (fun x (_:Unit) nx=>bif c x then lft (some e) else nx ()) (fun _=>some e') l ()):=fun h=>by
 refine⟨_,rfl,fun q hq=>?_⟩
 rw [Ja5] at h
 refine⟨_,Ja5 q (),?_⟩
 have h0:q.any c=l.any c:=by
  rw [Bool.eq_iff_iff,List.any_eq_true,List.any_eq_true]
  exact⟨fun⟨x,h1,h2⟩=>⟨x,hq.mem_iff.1 h1,h2⟩,fun⟨x,h1,h2⟩=>⟨x,hq.mem_iff.2 h1,h2⟩⟩
 rw [h0]
 have:=M5 h
 cases hc:l.any c <;> rw [hc] at this <;> exact this
end rel
set_option linter.unusedSimpArgs false

structure Yb3 (X:Nat→Prop) (W W':World):Prop where
 os:W'.os=W.os
 tape:W'.tape=W.tape
 output:W'.output=W.output∧W.drawn≤W'.drawn
 size:W.heap.size≤W'.heap.size
 keep:∀ b,b < W.heap.size→¬ X b→W'.heap[b]? = W.heap[b]?

structure H96 (κ:Type) where
 W0:World
 S:Nat→Nat→Prop
 lp:Nat
 J:κ→(Nat→Prop)→(Nat→Nat→Prop)→World→Prop
 nx:κ→List AV→κ→Prop
def H96.After {κ:Type} (E:H96 κ) (k':κ) (X:Nat→Prop) (T:Nat→Nat→Prop) (W:World) (e:Ending) (W':World):Prop:=
 e=.returned (.bool true)∧∃ X':Nat→Prop,E.J k' X' T W'∧Yb3 X W W'∧(∀ b,b < W.heap.size→(X' b ↔ X b))∧∀ b,X' b→b < W'.heap.size
structure H96.Ok {κ:Type} (E:H96 κ) (P:Program):Prop where
 abide:∀ k X T W W',E.J k X T W→Yb3 (fun b=>E.W0.heap.size≤b∧¬ X b) W W'→(∀ b i,T b i→G3c W' b i=G3c W b i)→E.J k X T W'
 round:∀ (m:Nat) (k k':κ) us X T (T':Nat→Nat→Prop) W (vs:Array Value),E.nx k us k'→E.J k X T W→(∀ b i,T b i→T' b i)→(∀ b i,T' b i→¬ T b i→E.W0.heap.size≤b∧¬ X b∧b < W.heap.size)→vs.size=us.length →
  (∀ (j:Nat) u v,us[j]? = some u→vs[j]? = some v→D W (fun b i=>E.S b i∨T' b i) u v)→YieldAt Fence.wide m P E.lp vs W (E.After k' X T' W)

def Gbd (P:Program) (g:FuncId) (caps:List AV) {κ:Type} (k0:κ) (nx:κ→List AV→κ→Prop) (fin:κ→Prop):Prop:=
 ∀ (n:Nat) (E:H96 κ) (lb:Array Value) (X0:Nat→Prop),E.Ok P→E.nx=nx→lb.size=caps.length→(∀ (j:Nat) u v,caps[j]? = some u→lb[j]? = some v→D E.W0 E.S u v)→(∀ b i,E.S b i→b < E.W0.heap.size∧¬ X0 b)→(∀ b,X0 b→b < E.W0.heap.size) →
  E.J k0 X0 (fun _ _=>False) E.W0→CallsIn Fence.wide n P g (#[.func (.yield E.lp) #[] #[]]++lb) E.W0 fun e W'=>(∃ v,e=.returned v)∧∃ k X T,fin k∧E.J k X T W'
def Y36 (ys:List (List AV)):Nat→List AV→Nat→Prop:=fun k us k'=>ys[k]? = some us∧k'=k+1
def Iter (P:Program) (g:FuncId) (caps:List AV) (ys:List (List AV)):Prop:=Gbd P g caps 0 (Y36 ys) (fun k=>k=ys.length)

structure StI {κ:Type} (E:H96 κ) (N:Cfg) (a:Act) (w:World) (β:H5) (l:Fr) (L:Loc) (k:κ):Prop where
 sat:Sat w β L
 frame:Q8 a w β L l
 size:N.n≤a.tmps.size
 defers:a.defers=[]
 old:E.W0.heap.size≤w.heap.size
 own:∀ id b,(lk L id).isSome=true→β id=some b→E.W0.heap.size≤b
 gh:∃ X T,E.J k X T w∧(∀ b,X b→b < w.heap.size∧∀ i,β.hid b i)∧∀ b i,T b i→Ju w β L b i
 vis:∀ b i,b < E.W0.heap.size→¬ β.hid b i→E.S b i

structure H06 (κ:Type) where
 norm:Fr→Loc→κ→Prop
 ret:Fr→Loc→κ→Prop
 exit:Nat→Fr→Loc→κ→Prop
def H06.seq {κ:Type} (Q:H06 κ) (K:Fr→Loc→κ→Prop):H06 κ:=⟨K,Q.ret,Q.exit⟩
def H06.blk {κ:Type} (Q:H06 κ) (i:Nat):H06 κ:=⟨Q.norm,Q.ret,fun j l L k=>bif Nat.beq j i then Q.norm l L k else Q.exit j l L k⟩
def H06.out {κ:Type} (Q:H06 κ) (E:H96 κ) (N:Cfg):Exit→Act→World→Prop
 | .normal,a,w=>∃ β l L k,StI E N a w β l L k∧Q.norm l L k
 | .ret,a,w=>∃ β l L k,StI E N a w β l L k∧Q.ret l L k
 | .exit i,a,w=>∃ β l L k,StI E N a w β l L k∧Q.exit i l L k
 | _,_,_=>False
def JI {κ:Type} (E:H96 κ) (P:Program) (N:Cfg) (c:Code) (Q:H06 κ) (l:Fr) (L:Loc) (k:κ):Prop:=
 ∀ (n:Nat) a w β,StI E N a w β l L k→c.wpIn Fence.wide n P (Q.out E N) a w
def JIL {κ:Type} (E:H96 κ) (P:Program) (N:Cfg) (ops:Array Oper) (rest:List Oper) (Q:H06 κ) (l:Fr) (L:Loc) (k:κ):Prop:=
 ∀ (n:Nat) a w β,StI E N a w β l L k→wpListIn Fence.wide n P ops (Q.out E N) rest a w

theorem StI.step {κ:Type} {E:H96 κ} {P:Program} {N:Cfg} {a a':Act} {w w':World} {β β':H5} {l l':Fr} {L L':Loc} {k:κ} (hE:E.Ok P) (h:StI E N a w β l L k) (h0:Step w β L w' β' L') (h5:Sat w' β' L') (hf:Q8 a' w' β' L' l') (h6:a'.tmps.size=a.tmps.size) (hd:a'.defers=a.defers):StI E N a' w' β' l' L' k:=by
 have old':=h.old
 refine⟨h5,hf,by rw [h6]; exact h.size,by rw [hd]; exact h.defers,Nat.le_trans h.old h0.size,fun id b h1 h2=>?_,?_,fun b i hb hn=>h.vis b i hb fun hh=>hn ((h0.hid b i (Kt hb h.old)).2 hh)⟩
 ·rcases Kx b w.heap.size with hb | hb
  ·refine Classical.byContradiction fun hn=>?_
   have:∀ id0,(lk L id0).isSome=true→β id0≠some b:=fun id0 h3 h4=>hn (h.own id0 b h3 h4)
   exact(h0.far b hb this).2 id h1 h2
  ·omega
 ·obtain⟨X,T,hJ,hX,hT⟩:=h.gh
  refine⟨X,T,hE.abide k X T w w' hJ ⟨h0.os,h0.tape,h0.output,h0.size,fun b hb hn=>(h0.far b hb fun id h1 h2=>?_).1⟩ (fun b i h=>(h0.stab b i (hT b i h)).2),fun b hb=>⟨Kt (hX b hb).1 h0.size,fun i=>(h0.hid b i (hX b hb).1).2 ((hX b hb).2 i)⟩,fun b i h=>(h0.stab b i (hT b i h)).1⟩
  exact hn ⟨h.own id b h1 h2,fun hx=>h.sat.apart id b 0 h1 h2 ((hX b hx).2 0)⟩

theorem Sat.fits {B:List Nat} {w:World} {β:H5} {l l':Fr} {L L':Loc} (hs:Sat w β L) (h:Fits B l L l' L'):Sat w β L':=by
 have hd:=h.drop
 refine⟨hs.hid,fun id b hid hb=>hs.bnd id b (hd.some hid) hb,fun id b j hid hb=>hs.apart id b j (hd.some hid) hb,fun id id' b h1 h2=>hs.inj id id' b (hd.some h1) (hd.some h2),fun id o' h6=>?_⟩
 obtain⟨o,ho,hc⟩:=h.loc.get h6
 have h0:=hs.obj id o ho
 cases hc with
 | same=>exact h0
 | map=>
  obtain⟨b,h1,h2⟩:=h0
  exact⟨b,h1,h2.mono rfl fun h=>h.mono fun b i hs=>⟨hd.stab hs,rfl⟩⟩
 | vec=>
  obtain⟨h7,h0⟩:=h0
  refine⟨h7,?_⟩
  rcases h0 with h0 | ⟨b,h1,vs,h2,h3,h4⟩
  ·exact .inl h0
  ·exact .inr ⟨b,h1,vs,h2,h3,fun j u v hu hv=>(h4 j u v hu hv).mono fun b i hs=>⟨hd.stab hs,rfl⟩⟩
 | iter hm=>
  obtain⟨b,h1,bm,h2,h4⟩:=h0
  exact⟨b,h1,bm,h2.drop hd hm,h4⟩
 | box hl hc=>
  obtain⟨b,h1,vs,h2,h3,h4⟩:=h0
  refine⟨b,h1,vs,h2,h3.trans hl,fun j u' v h5 hv=>?_⟩
  rename_i cs cs'
  have hj:j < cs.length:=by
   rcases Kx j cs'.length with h | h
   ·omega
   ·simp [List.getElem?_eq_none h] at h5
  exact(h4 j cs[j] v (by simp [hj]) hv).conv hd (hc j _ _ (by simp [hj]) h5)
theorem StI.fits {κ:Type} {E:H96 κ} {N:Cfg} {a:Act} {w:World} {β:H5} {l l':Fr} {L L':Loc} {k:κ} (h:StI E N a w β l L k) (h0:Fits N.base l L l' L'):StI E N a w β l' L' k:=
 ⟨h.sat.fits h0,⟨fun t=>(h.frame.tmp t).conv h0.drop (h0.fr.get t)⟩,h.size,h.defers,h.old,fun id b h1 h2=>h.own id b (h0.drop.some h1) h2,(by obtain⟨X,T,h1,h2,h3⟩:=h.gh; exact⟨X,T,h1,h2,fun b i h=>h0.drop.stab (h3 b i h)⟩),h.vis⟩

section code
variable {κ:Type} {E:H96 κ} {P:Program} {N:Cfg} {Q:H06 κ} {l:Fr} {L:Loc} {k:κ}

theorem Rj {x y:Code} (h:∀ K:Fr→Loc→κ→Prop,(∀ l L k,JI E P N y Q l L k→K l L k)→JI E P N x (Q.seq K) l L k):JI E P N (.seq x y) Q l L k:=
 fun n a w β hs=>wpIn_seq (Code.wpIn_mono (fun e a' w' q=>by
  cases e with
  | normal=>obtain⟨β',l',L',k',h0,hq⟩:=q; exact hq n a' w' β' h0
  | exit i=>exact q
  | ret=>exact q
  | goto l=>exact q
  | panic c=>exact q
  | outgrown=>exact q) (h (fun l L k=>JI E P N y Q l L k) (fun _ _ _ h=>h) n a w β hs))
theorem Gcf (h:Q.norm l L k):JI E P N .skip Q l L k:=fun _ _ _ β hs=>wpIn_skip ⟨β,l,L,k,hs,h⟩
theorem Hfb {i:Nat} (h:Q.exit i l L k):JI E P N (.exit i) Q l L k:=fun _ _ _ β hs=>wpIn_exit ⟨β,l,L,k,hs,h⟩
theorem J4e {c:Operand} {x y:Code} {b:Bool} (hc:ev l c=.sc (.bool b)) (ht:b=true→JI E P N x Q l L k) (hf:b=false→JI E P N y Q l L k):JI E P N (.cond c x y) Q l L k:=
 fun n a w β hs=>by
  have hv:=hs.frame.ev c
  rw [hc] at hv
  exact wpIn_cond_split hv.inv_sc (fun e=>ht e n a w β hs) (fun e=>hf e n a w β hs)
theorem G47 {i:Nat} {c:Code} (h:JI E P N c (Q.blk i) l L k):JI E P N (.block i c) Q l L k:=
 fun n a w β hs=>wpIn_block (Code.wpIn_mono (fun e a' w' q=>by
  cases e with
  | normal=>exact q
  | exit j=>
   obtain⟨β',l',L',k',h0,hq⟩:=q
   simp only [Exit.inBlock]
   by_cases e:j=i
   ·subst e
    simp only [if_true]
    exact⟨β',l',L',k',h0,by simpa [H06.blk] using hq⟩
   ·have hb:Nat.beq j i=false:=by
     cases hb:Nat.beq j i with
     | false=>rfl
     | true=>exact absurd (Kv hb) e
    simp only [if_neg e]
    exact⟨β',l',L',k',h0,by simpa [H06.blk,e] using hq⟩
  | ret=>exact q
  | goto l=>exact q
  | panic c=>exact q
  | outgrown=>exact q) (h n a w β hs))
theorem Qh {id:Nat} {ops:List Oper} (h:JIL E P N ops.toArray ops Q l L k):JI E P N (.region id ops.toArray false) Q l L k:=
 fun n a w β hs=>wpIn_region_lit (h n a w β hs)
theorem Rh {ops:Array Oper} (h:Q.norm l L k):JIL E P N ops [] Q l L k:=fun _ _ _ β hs=>⟨β,l,L,k,hs,h⟩

theorem Q47 {body:Code} {X:Type} (I:X→Prop) (F:X→Fr) (M:X→Loc) (kf:X→κ) (μ:X→Nat) (x0:X) (h0:I x0) (hf:Fits N.base l L (F x0) (M x0)) (hk:k=kf x0)
  (hr:∀ x,I x→∀ K:Fr→Loc→κ→Prop,(∀ l L x',I x'→μ x' < μ x→Fits N.base l L (F x') (M x')→K l L (kf x'))→JI E P N body (Q.seq K) (F x) (M x) (kf x)):JI E P N (.loop body) Q l L k:=by
 subst hk
 intro n a w β hs b kk cs h8 h6 h5
 have key:∀ m x a w β,μ x=m→I x→StI E N a w β (F x) (M x) (kf x) →
   ∃ e a' w',Q.out E N e a' w'∧ArrivesIn (Machine.fenced P Fence.wide) P (lone (b.atR a (.code body::.inLoop body::kk)) cs w) b kk cs e a' w':=by
  intro m
  induction m using Nat.strongRecOn with
  | _ m ih=>
   intro x a w β hn hI hs
   obtain⟨e,a₁,w₁,hq,h4⟩:=hr x hI (fun l L q=>∃ x',I x'∧μ x' < μ x∧Fits N.base l L (F x') (M x')∧q=kf x') (fun l L x' h1 h2 h3=>⟨x',h1,h2,h3,rfl⟩) n a w β hs b (.inLoop body::kk) cs h8 h6 h5
   cases e with
   | normal=>
    obtain⟨β',l',L',q,h9,x',a0,a1,h7,rfl⟩:=hq
    obtain⟨e₂,a₂,w₂,hq₂,harr₂⟩:=ih (μ x') (hn ▸ a1) x' a₁ w₁ β' rfl a0 (h9.fits h7)
    exact⟨e₂,a₂,w₂,hq₂,.of_steps (StepsIn.trans h4 (.one (fenced_calm h6 h5 rfl) stepR_inLoop)) harr₂⟩
   | exit id=>exact⟨.exit id,a₁,w₁,hq,.pass (x:=.inLoop body) rfl (fun _ _=>.inl (by simp)) h4⟩
   | goto l=>exact hq.elim
   | ret=>exact⟨.ret,a₁,w₁,hq,.pass (x:=.inLoop body) rfl (fun _ _=>.inl (by simp)) h4⟩
   | panic ch=>exact hq.elim
   | outgrown=>exact hq.elim
 obtain⟨e,a',w',hq,h4⟩:=key _ x0 a w β rfl h0 (hs.fits hf)
 exact⟨e,a',w',hq,.of_steps (.one (fenced_calm h6 h5 rfl) stepR_loop) h4⟩
end code

section ops
variable {κ:Type} {E:H96 κ} {P:Program} {N:Cfg} {Q:H06 κ} {l:Fr} {L L':Loc} {k:κ} {ops:Array Oper} {o:Oper} {rest:List Oper} {u:AV}

theorem J2 {d:Nat} (hE:E.Ok P) (h:H2 P o l L (Is u L')) (hk:JIL E P N ops rest Q ((d,u)::l) L' k) (hg:o.guard=none) (hd:o.dst=some d) (hn:Nat.blt d N.n=true) (h2:G54 o=true):JIL E P N ops (o::rest) Q l L k:=by
 intro n a w β hs
 refine Gd8 (ro:=none) hg h2 fun K hK=>h a w β K _ hs.sat hs.frame ?_
 intro u' L'' v w' β' hr h1 h0 hv
 obtain⟨rfl,rfl⟩:=hr
 have h3:d < a.tmps.size:=Kt (by simpa [Nat.blt_eq] using hn) hs.size
 rw [hd]
 exact hK _ _ (hk n _ w' β' (hs.step hE h0 h1 ((hs.frame.step h0).put h3 hv) (Act.put_size ..) (Act.put_defers' ..)))
theorem Y3e (hE:E.Ok P) (h:H2 P o l L (Is u L')) (hk:JIL E P N ops rest Q l L' k) (hg:o.guard=none) (hd:o.dst=none) (h2:G54 o=true):JIL E P N ops (o::rest) Q l L k:=by
 intro n a w β hs
 refine Gd8 (ro:=none) hg h2 fun K hK=>h a w β K _ hs.sat hs.frame ?_
 intro u' L'' v w' β' hr h1 h0 hv
 obtain⟨rfl,rfl⟩:=hr
 rw [hd]
 exact hK _ _ (hk n _ w' β' (hs.step hE h0 h1 (hs.frame.step h0) rfl rfl))

theorem StI.round {L:Loc} {w w':World} {β:H5} {X X':Nat→Prop} {T:Nat→Nat→Prop} (h0:Sat w β L) (hX:∀ b,X b→b < w.heap.size∧∀ i,¬ T b i→β.hid b i) (notX:∀ id b,(lk L id).isSome=true→β id=some b→¬ X b) (ht:Yb3 X w w')
  (hT:∀ b i,T b i→X b→G3c w' b i=G3c w b i) (h4:∀ b,b < w.heap.size→(X' b ↔ X b)) (h3:∀ b,X' b→b < w'.heap.size) :
  let β':H5:=⟨β.at_,fun b i=>β.hid b i∨(w.heap.size≤b∧b < w'.heap.size)⟩
  Sat w' β' L∧Hc2 w β L w' β' L∧∀ b,X' b→b < w'.heap.size∧∀ i,¬ T b i→β'.hid b i:=by
 intro β'
 have same:∀ id b,(lk L id).isSome=true→β id=some b→w'.heap[b]? = w.heap[b]? := fun id b h1 h2=>ht.keep b (h0.bnd id b h1 h2) (notX id b h1 h2)
 have stab:∀ b i,Ju w β L b i→Ju w' β' L b i:=fun b i hs=>⟨Kt hs.lt ht.size,fun h=>h.elim hs.seen (fun h=>by have:=hs.lt; omega),hs.kept⟩
 have cell:∀ b i,Ju w β L b i→G3c w' b i=G3c w b i:=fun b i hs=>by
  by_cases hx:X b
  ·by_cases h:T b i
   ·exact hT b i h hx
   ·exact(hs.seen ((hX b hx).2 i h)).elim
  ·exact Q2 (w:=w) (ht.keep b hs.lt hx)
 have stw:Hc2 w β L w' β' L:=⟨fun b i hs=>⟨stab b i hs,cell b i hs⟩,fun _ _ cs h=>⟨rfl,cs,h⟩,fun _ _ es h=>⟨rfl,es,h⟩,fun _ _ n es h=>⟨rfl,n,es,h⟩,
  fun id _ _ ver xs h=>⟨ver,xs,h,M8,fun _=>⟨rfl,rfl,fun b hb=>G18 (same id b (by rw [h]; rfl) hb)⟩⟩,
  fun id _ _ ver hw h=>⟨ver,hw,h,M8,fun _=>⟨rfl,rfl,fun b hb=>same id b (by rw [h]; rfl) hb⟩⟩⟩
 refine⟨⟨fun b i h=>h.elim (fun h=>Kt (h0.hid b i h) ht.size) (fun h=>h.2),fun id b h1 h2=>Kt (h0.bnd id b h1 h2) ht.size,fun id b j h1 h2 h=>h.elim (h0.apart id b j h1 h2) (fun h=>by have:=h0.bnd id b h1 h2; omega),h0.inj,
  fun id o ho=>(h0.obj id o ho).stepW stw (fun b hb=>same id b (by rw [ho]; rfl) hb)⟩,stw,fun b hb=>⟨h3 b hb,fun i hn=>?_⟩⟩
 rcases Kx b w.heap.size with h | h
 ·exact .inl ((hX b ((h4 b h).1 hb)).2 i hn)
 ·exact .inr ⟨h,h3 b hb⟩

def Jc9 (l:Fr):List Operand→List AV→Prop
 | [],[]=>True
 | x::r,u::s=>ev l x=u∧u.isData=true∧Jc9 l r s
 | _,_=>False
theorem Jc9.length {l:Fr}:∀ {xs:List Operand} {us:List AV},Jc9 l xs us→xs.length=us.length
 | [],[],_=>rfl
 | _::_,_::_,h=>by simp [Jc9.length h.2.2]
 | [],_::_,h=>h.elim
 | _::_,[],h=>h.elim
theorem Jc9.get {l:Fr}:∀ {xs:List Operand} {us:List AV},Jc9 l xs us→∀ {j:Nat} {x:Operand} {u:AV},xs[j]? = some x→us[j]? = some u→ev l x=u∧u.isData=true
 | _::_,_::_,h,0,x,u,hx,hu=>by simp at hx hu; subst hx; subst hu; exact⟨h.1,h.2.1⟩
 | _::_,_::_,h,j+1,x,u,hx,hu=>Jc9.get h.2.2 (by simpa using hx) (by simpa using hu)
 | [],[],_,j,x,u,hx,_=>by simp at hx
 | [],_::_,h,_,_,_,_,_=>h.elim
 | _::_,[],h,_,_,_,_,_=>h.elim

theorem Hcb {k':κ} {d:Nat} {x:Operand} {xs:List Operand} {us:List AV} {ts:Array TypeId} (hE:E.Ok P) (ho:o.op=.call { callee:=.value x,args:=xs.toArray,argTypes:=ts }) (hx:ev l x=.sc (.func (.yield E.lp) #[] #[]))
  (ha:Jc9 l xs us) (hy:E.nx k us k') (hk:JIL E P N ops rest Q ((d,BL true)::l) L k') (hg:o.guard=none) (hd:o.dst=some d) (hn:Nat.blt d N.n=true):JIL E P N ops (o::rest) Q l L k:=by
 intro n a w β hs
 obtain⟨X,T,hJ,hX,hT⟩:=hs.gh
 have h7:d < a.tmps.size:=Kt (by simpa [Nat.blt_eq] using hn) hs.size
 have hv:=hs.frame.ev x
 rw [hx] at hv
 have h8:=hv.inv_sc
 obtain⟨fn,tmps,assign,body,hr,hR⟩:=hE.round (n - 1) k k' us X T (fun b i=>T b i∨(E.W0.heap.size≤b∧Ju w β L b i)) w (xs.toArray.map a.eval) hy hJ (fun b i h=>.inl h) (fun b i h hn=>h.elim (fun h=>(hn h).elim) fun h=>⟨h.1,fun hx=>h.2.seen ((hX b hx).2 i),h.2.lt⟩) (by simp [ha.length]) (fun j u v hu hv=>by
  simp only [Array.getElem?_map,List.getElem?_toArray,Option.map_eq_some_iff] at hv
  obtain⟨y,hy,rfl⟩:=hv
  obtain⟨h1,h2⟩:=ha.get hy hu
  have:=hs.frame.ev y
  rw [h1] at this
  exact(this.toD h2).mono fun b i h4=>⟨(Kx b E.W0.heap.size).elim (fun h=>.inl (hs.vis b i h h4.seen)) (fun h=>.inr (.inr ⟨h,h4⟩)),rfl⟩)
 refine wpListIn_plain hg fun K hK=>?_
 refine⟨fun _ _=>trivial,?_⟩
 have h5:(execOp a.eval o).run P w=.ok (.round E.lp fn tmps assign body) w:=by
  have h0:(execOp a.eval o).run P w=(Instr.yield E.lp (xs.toArray.map a.eval)).run P w:=by
   simp [execOp,ho,resolve,h8,Deferred.ofValue,invoke]
   done
  rw [h0,hr]
 rw [show o.semAt Fence.wide.round a.eval=execOp a.eval o from rfl,h5,Oper.uponIn_round]
 refine⟨fun e=>(by cases e),hR.mono fun e w' h=>?_⟩
 obtain⟨rfl,X',h9,ht,a0,h6⟩:=h
 have a1:∀ b i,(T b i∨(E.W0.heap.size≤b∧Ju w β L b i))→Ju w β L b i:=fun b i h=>h.elim (hT b i) (·.2)
 obtain⟨h1,h2,h3⟩:=StI.round (T:=fun _ _=>False) hs.sat (fun b h=>⟨(hX b h).1,fun i _=>(hX b h).2 i⟩) (fun id b h1 h2 hx=>hs.sat.apart id b 0 h1 h2 ((hX b hx).2 0)) ht (fun _ _ h=>h.elim) a0 h6
 rw [hd]
 refine hK _ _ (hk n _ w' _ ⟨h1,(hs.frame.stepW h2).put h7 .sc,by rw [Act.put_size]; exact hs.size,by rw [Act.put_defers']; exact hs.defers,Nat.le_trans hs.old ht.size,hs.own,⟨X',_,h9,fun b h=>⟨(h3 b h).1,fun i=>(h3 b h).2 i id⟩,fun b i h=>(h2.stab b i (a1 b i h)).1⟩,fun b i hb hn=>hs.vis b i hb fun h=>hn (.inl h)⟩)

theorem Jc6 {g:FuncId} {fn:Func} {c:Code} {caps:List AV} {κ:Type} {k0:κ} {nx:κ→List AV→κ→Prop} {fi:κ→Prop} (hf:P.funcs[g]? = some fn) (hb:fn.body=some c) (h2:fn.results=#[])
  (h:∀ E:H96 κ,E.Ok P→E.nx=nx→JI E P ⟨fn.ntmps,[],none⟩ c ⟨fun _ _ k=>fi k,fun _ _ k=>fi k,fun _ _ _ _=>False⟩ (H15 0 (.sc (.func (.yield E.lp) #[] #[])::caps)) [] k0):Gbd P g caps k0 nx fi:=by
 intro n E lb X0 hE h4 hl h3 hS h0 hJ
 have h5:(#[Value.func (.yield E.lp) #[] #[]]++lb).size=(AV.sc (.func (.yield E.lp) #[] #[])::caps).length:=by simp [hl]; omega
 refine callsIn_of_wp hf hb trivial (Code.wpIn_mono (fun e a' w' q=>?_) (h E hE h4 n _ E.W0 ⟨fun _=>none,fun b i=>¬ E.S b i∧b < E.W0.heap.size⟩ ⟨⟨fun b i h=>h.2,fun id b h=>by simp [lk] at h,fun id b j h=>by simp [lk] at h,fun id id' b h=>by simp [lk] at h,fun id o h=>by simp [lk] at h⟩,⟨fun t=>?_⟩,?_,rfl,M8,fun id b h=>by simp [lk] at h,⟨X0,_,hJ,fun b hb=>⟨h0 b hb,fun i=>⟨fun hs=>(hS b i hs).2 hb,h0 b hb⟩⟩,fun _ _ h=>h.elim⟩,fun b i hb hn=>Classical.byContradiction fun h=>hn ⟨h,hb⟩⟩))
 ·have fin:(∃ β' l' L' k',StI E ⟨fn.ntmps,[],none⟩ a' w' β' l' L' k'∧fi k')→a'.defers=[]∧∃ v,(results fn a'.tmps).run P w'=.ok v w'∧((∃ v',Ending.returned v=.returned v')∧∃ k X T,fi k∧E.J k X T w'):=by
   rintro⟨β',l',L',k',hs,h6⟩
   obtain⟨X,T,hX,_⟩:=hs.gh
   exact⟨hs.defers,_,results_none h2 _ _ _,⟨_,rfl⟩,k',X,T,h6,hX⟩
  cases e with
  | normal=>exact fin q
  | ret=>exact fin q
  | exit i=>obtain⟨_,_,_,_,_,hq⟩:=q; exact hq.elim
  | goto l=>exact q.elim
  | panic c=>exact q.elim
  | outgrown=>exact q.elim
 ·rw [J23]
  simp only [Nat.zero_le,if_true,Nat.sub_zero]
  cases hu:(AV.sc (.func (.yield E.lp) #[] #[])::caps)[t]? with
  | none=>exact .junk
  | some u=>
   have ht:t < (#[Value.func (.yield E.lp) #[] #[]]++lb).size:=by rw [h5]; exact(M3 hu).1
   have e:((#[Value.func (.yield E.lp) #[] #[]]++lb)++Array.replicate (fn.ntmps - (#[Value.func (.yield E.lp) #[] #[]]++lb).size) undef).getD t undef=(#[Value.func (.yield E.lp) #[] #[]]++lb)[t]:=by
    rw [Array.getD_eq_getD_getElem?,Array.getElem?_append_left ht,Array.getElem?_eq_getElem ht]; rfl
   rw [e]
   cases t with
   | zero=>simp at hu; subst hu; simp; exact .sc
   | succ t=>
    have h1:caps[t]? = some u:=by simpa using hu
    have h7:t < lb.size:=by rw [hl]; exact(M3 h1).1
    have hv:=h3 t u lb[t] h1 (by simp [h7])
    have ev:(#[Value.func (.yield E.lp) #[] #[]]++lb)[t+1]=lb[t]:=by simp [Array.getElem_append]
    rw [ev]
    exact .data (hv.mono fun b i hs=>⟨⟨(hS b i hs).1,fun h=>h.1 hs,fun id o h=>by simp [lk] at h⟩,rfl⟩)
 ·simp; omega
theorem Y41 {g:FuncId} {fn:Func} {c:Code} {caps:List AV} {ys:List (List AV)} (hf:P.funcs[g]? = some fn) (hb:fn.body=some c) (h0:fn.results=#[])
  (h:∀ E:H96 Nat,E.Ok P→E.nx=Y36 ys→JI E P ⟨fn.ntmps,[],none⟩ c ⟨fun _ _ k=>k=ys.length,fun _ _ k=>k=ys.length,fun _ _ _ _=>False⟩ (H15 0 (.sc (.func (.yield E.lp) #[] #[])::caps)) [] 0):Iter P g caps ys:=Jc6 hf hb h0 h
end ops

section code
variable {κ:Type} {E:H96 κ} {P:Program} {N:Cfg} {Q:H06 κ} {l:Fr} {L:Loc} {k:κ}
theorem Jc4 {body:Code} {σ:Type} (I:Nat→σ→Prop) (F:Nat→σ→Fr) (M:Nat→σ→Loc) (kf:Nat→σ→κ) (μ:Nat→Nat) (i0:Nat) (s0:σ) (h0:I i0 s0) (hf:Fits N.base l L (F i0 s0) (M i0 s0)) (hk:k=kf i0 s0)
  (hr:∀ i s,I i s→∀ K:Fr→Loc→κ→Prop,(∀ l L i' s' k',I i' s'→μ i' < μ i→Fits N.base l L (F i' s') (M i' s')→k'=kf i' s'→K l L k')→JI E P N body (Q.seq K) (F i s) (M i s) (kf i s)):JI E P N (.loop body) Q l L k:=
 Q47 (fun x:Nat×σ=>I x.1 x.2) (fun x=>F x.1 x.2) (fun x=>M x.1 x.2) (fun x=>kf x.1 x.2) (fun x=>μ x.1) (i0,s0) h0 hf hk
  (fun x hi K hK=>hr x.1 x.2 hi K (fun l L i' s' k' h1 h2 h3 h4=>h4 ▸ hK l L (i',s') h1 h2 h3))
theorem Qc4 {c:Operand} {x y:Code} (hc:ev l c=.sc (.bool true)) (ht:JI E P N x Q l L k):JI E P N (.cond c x y) Q l L k:=J4e hc (fun _=>ht) (fun e=>by cases e)
theorem H3e {c:Operand} {x y:Code} (hc:ev l c=.sc (.bool false)) (hf:JI E P N y Q l L k):JI E P N (.cond c x y) Q l L k:=J4e hc (fun e=>by cases e) (fun _=>hf)
theorem Yf0 {ops:Array Oper} {o:Oper} {rest:List Oper} {T Et k' d kk:Nat} {x:Operand} {xs:List AV} (hE:E.Ok P) (hT:sliceB P T Et k'=true) (hk:xs.length≤maxLen→JIL E P N ops rest Q ((d,I64 (xs.length:Int))::l) L k) (ho:o.op=.call { callee:=.builtin .len,args:=#[x],argTypes:=#[T] }) (hx:Qf (ev l x)=some (kk,xs))
  (hg:o.guard=none) (hd:o.dst=some d) (hn:Nat.blt d N.n=true):JIL E P N ops (o::rest) Q l L k:=by
 intro n a w β hs
 obtain⟨ao,cap,h1,h2,h3⟩:=((hs.frame.ev x).Qf hx).len
 exact J2 hE (Yc9 hT ho hx) (hk (Nat.le_trans h2 h3)) hg hd hn (by unfold G54; rw [ho]) n a w β hs
theorem Qc6 {ops:Array Oper} {o:Oper} {rest:List Oper} {x:Operand} {T Et kk k' d:Nat} {α:Type} {f:α→AV} {xs:List α} (hE:E.Ok P) (hT:sliceB P T Et k'=true) (ho:o.op=.call { callee:=.builtin .len,args:=#[x],argTypes:=#[T] }) (hx:Qf (ev l x)=some (kk,xs.map f))
  (hk:xs.length≤maxLen→JIL E P N ops rest Q ((d,I64 (xs.length:Int))::l) L k) (hg:o.guard=none) (hd:o.dst=some d) (hn:Nat.blt d N.n=true):JIL E P N ops (o::rest) Q l L k:=
 Yf0 hE hT (fun hm=>by simp only [Mj] at hm ⊢; exact hk hm) ho hx hg hd hn
theorem Rb1 {E:H96 Nat} {k:Nat} {α:Type} [DecidableEq α] {f:α→List AV} {ys:List α} {x:α} (h0:E.nx=Y36 (ys.map f)) (h:decide (ys[k]? = some x)=true):E.nx k (f x) (k+1):=by
 rw [h0]; exact⟨by rw [Mc,Kz h]; rfl,rfl⟩
theorem Y1b {k:Nat} {α:Type} {f:α→List AV} {ys:List α} (h:decide (k=ys.length)=true):k=(ys.map f).length:=by
 rw [Mj]; exact Kz h
theorem Y2d {α β:Type} {f:α→β} {ys:List α} {k:Nat} {u:β} (h:(ys.map f)[k]? = some u):∃ hk:k < ys.length,u=f ys[k]:=by
 rw [Mc] at h
 cases hy:ys[k]? with
 | none=>rw [hy] at h; cases h
 | some y=>
  rw [hy] at h
  obtain⟨hk,e⟩:=M3 hy
  exact⟨hk,by rw [e]; exact(M5 h).symm⟩
end code
end Go.Proofs.YtidpfkmbfgihlaaGreat
