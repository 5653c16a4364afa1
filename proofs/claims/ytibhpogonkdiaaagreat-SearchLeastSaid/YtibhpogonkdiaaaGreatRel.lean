/-
 Parts of slices that the call may write in place: Calls that leave objects whose versions are not known before Models of functions that range over maps:
-/
import Derived.Test.YtibhpogonkdiaaaGreatSort
namespace Go.Proofs.YtibhpogonkdiaaaGreat
open Go.RowKit

variable {β:H2} {xs:AG} {L:Loc} {i k off t ver:Nat} {w:World}
theorem QN {b:Nat} {zs:AG} {vs:Array Value} {cs:AM} (h0:Sat w β L) (hi:lk L i=some (.vec t k ver xs)) (hb:β.at_ i=some b) (q2:w.heap[b]? = some (.cells vs t (0,0)))
  (hz:∀ z∈zs,z.cells.length=k) (h1:cs.length=zs.length*k) (h7:off+zs.length<=xs.length) (hD:∀ (j:Nat) u x,(flat zs)[j]? = some u->cs[j]? = some x->D w (J6 w β L) u x) :
  Step w β L (w.setRow b (vs.toList.take (off*k)++cs++vs.toList.drop (off*k+cs.length)).toArray) (upP β i (β.at_ i)) ((i,.vec t k ver (xs.take off++zs++xs.drop (off+zs.length)))::L) ∧
  Sat (w.setRow b (vs.toList.take (off*k)++cs++vs.toList.drop (off*k+cs.length)).toArray) (upP β i (β.at_ i)) ((i,.vec t k ver (xs.take off++zs++xs.drop (off+zs.length)))::L):=by
 obtain⟨q1,vs',q2',q3,q4⟩:=nH h0 hi hb;rw [q2] at q2'; cases q2';have a1:off*k+zs.length*k<=xs.length*k:=by rw [<- Nat.add_mul]; exact Nat.mul_le_mul_right _ h7
 have h5:=setRow_heap w b vs (vs.toList.take (off*k)++cs++vs.toList.drop (off*k+cs.length)).toArray t (0,0) q2;have h2:(vs.toList.take (off*k)++cs++vs.toList.drop (off*k+cs.length)).toArray.size=vs.size:=by
  simp; omega
 have a2:(flat xs).length=xs.length*k:=Jd q1;have h3:(flat zs).length=zs.length*k:=Jd hz;have h4:(xs.take off++zs++xs.drop (off+zs.length)).length=xs.length:=by simp; omega
 have h8:∀ y∈xs.take off++zs++xs.drop (off+zs.length),y.cells.length=k:=fun y hy=>by
  simp only [St] at hy;rcases hy with (h | h) | h
  ·exact q1 y (List.mem_of_mem_take h)
  ·exact hz y h
  ·exact q1 y (List.mem_of_mem_drop h)
 obtain⟨st,sat⟩:=Rn (w':=w.setRow b (vs.toList.take (off*k)++cs++vs.toList.drop (off*k+cs.length)).toArray) (t:=t) (k:=k) (AZ:=ver) (xs':=xs.take off++zs++xs.drop (off+zs.length)) (ob':=β.at_ i) h0
  (.inr ⟨ver,xs,hi,Sf,fun _=>⟨h4,rfl,fun b' h6=>by
   rw [hb] at h6; cases h6;rw [World.shape?,h5,World.shape?,q2]; simp only [h2]⟩⟩) rfl rfl ⟨rfl,Sf⟩ (by simp)
  (fun b' _ h9=>setRow_other w b b' _ (fun e=>h9 (by rw [inL,hi]; rfl) (by rw [hb,e])))
  (.inr (.inl ⟨by rw [inL,hi]; rfl,rfl⟩))
 refine⟨st,sat ⟨h8,.inr ⟨b,hb,_,h5,by rw [h2,h4]; exact q3,fun j u v hu hv=>?_⟩⟩⟩;rw [dM,dM,gF q1,yL q1] at hu;simp only [List.getElem?_toArray] at hv;have old:∀ j',(flat xs)[j']? = some u->vs[j']? = some v->D _ _ u v:=fun j' a b=>(q4 j' u v a b).mono st.AX;have e1:(off+zs.length)*k=off*k+zs.length*k:=Nat.add_mul _ _ _;rw [e1] at hu;have lu:(List.take (off*k) (flat xs)).length=off*k:=by simp; omega
 have lv:(List.take (off*k) vs.toList).length=off*k:=by simp; omega
 rcases S4 j (off*k) with hj | hj
 ·rw [List.append_assoc,Sh (by omega),Sk,if_pos hj] at hu;rw [List.append_assoc,Sh (by omega),Sk,if_pos hj] at hv;exact old j hu (by simpa using hv)
 rcases S4 j (off*k+zs.length*k) with a0 | a0
 ·rw [Sh (by rw [Sn,lu,h3]; omega),Sg (by omega),lu] at hu;rw [Sh (by rw [Sn,lv,h1]; omega),Sg (by omega),lv] at hv;exact(hD _ u v hu hv).mono st.AX
 ·rw [Sg (by rw [Sn,lu,h3]; omega),Sn,lu,h3,Sm] at hu;rw [Sg (by rw [Sn,lv,h1]; omega),Sn,lv,h1,Sm] at hv;rw [show off*k+zs.length*k+(j - (off*k+zs.length*k))=j by omega] at hu hv;exact old j hu (by simpa using hv)

def G7c (w:World) (S:Nat->Nat->Prop) (k:Nat) (ys:AG) (v:Value):Prop:=
 (∀ y∈ys,y.cells.length=k)∧∃ (a:Option Addr) (cap:Nat) (cs:AM),v=.slice a ys.length cap∧(a=none->ys=[])∧cs.length=ys.length*k∧(∀ (ad:Addr) (j:Nat) u,a=some ad->cs[j]? = some u->w.cell? (ad.add j)=some u) ∧
  ∀ (j:Nat) u x,(flat ys)[j]? = some u->cs[j]? = some x->D w S u x

variable {k' n:Nat} {x:Value}
theorem V.inv_vsl (hi:lk L i=some (.vec t k' ver xs)) (h:V w β L (.vsl i ver k off n) x):k=k'∧off+n<=xs.length∧G7b (β.at_ i) k off n x:=by
 cases h with
 | data h=>cases h
 | vsl hp _=>
  grind
theorem V.inv_vsl0 (hi:lk L i=some (.vec t k' ver xs)) (h:V w β L (.vsl i ver k 0 n) x):RN w (β.at_ i) t k n x:=by
 cases h with
 | data h=>cases h
 | vsl hp _=>
  grind

theorem HM (h0:Sat w β L) (hi:lk L i=some (.vec t k ver xs)) (hv:V w β L (.vec i ver k n) x):n=xs.length∧G7b (β.at_ i) k 0 n x:=by
 obtain⟨rfl,_,h⟩:=fF h0 hi hv;refine⟨rfl,?_⟩;rcases h with ⟨rfl,rfl,_⟩ | ⟨b,cap,vs,rfl,h1,h2,h3,_⟩
 ·exact⟨none,0,rfl,Sf,Nat.zero_le _,.inl rfl⟩
 ·exact⟨_,cap,rfl,h2,h3,.inr ⟨b,h1,by rw [Nat.zero_mul]⟩⟩

theorem G56 (h4:Sat w β L) (hi:lk L i=some (.vec t k ver xs)) (hn:off+n<=xs.length) (h:G7b (β.at_ i) k off n x):G7c w (J6 w β L) k ((xs.drop off).take n) x:=by
 obtain⟨o1,o2⟩:=h4.obj i _ hi;have hk:∀ y∈(xs.drop off).take n,y.cells.length=k:=fun y hy=>o1 y (List.mem_of_mem_drop (List.mem_of_mem_take hy));have hl:((xs.drop off).take n).length=n:=by simp; omega
 refine⟨hk,?_⟩;obtain⟨a,cap,rfl,h1,h2,h3⟩:=h;rw [hl];by_cases h0:n=0
 ·subst h0;exact⟨a,cap,[],rfl,fun _=>by simp,by simp,fun ad j u _ hu=>by simp at hu,fun j u x _ hx=>by simp at hx⟩
 ·rcases h3 with h3 | ⟨b,hb,rfl⟩
  ·exact absurd h3 h0
  ·obtain⟨q1,vs,q2,q3,q4⟩:=nH h4 hi hb;have hm:off*k+n*k<=xs.length*k:=by rw [<- Nat.add_mul]; exact Nat.mul_le_mul_right _ hn
   refine⟨_,cap,(vs.toList.drop (off*k)).take (n*k),rfl,(fun e=>by cases e),by simp; omega,fun ad j u e hu=>?_,fun j u x hu hx=>?_⟩
   ·cases e;have hj:=(Sa hu).1;rw [List.length_take] at hj;rw [Sk,if_pos (by omega),Sm] at hu;rw [Addr.add_lit];simp [World.cell?,q2];simpa using hu
   ·have hj:=(Sa hx).1;rw [List.length_take] at hj;rw [Sk,if_pos (by omega),Sm] at hx;have h5:∀ y∈xs.drop off,y.cells.length=k:=fun y hy=>o1 y (List.mem_of_mem_drop hy);rw [gF h5,yL o1,Sk,if_pos (by omega),Sm] at hu;exact q4 _ u x hu (by simpa using hx)

theorem J0c {S:Nat->Nat->Prop} {ys:AG} (h:D w S (.list k' ys) x) (hk:k'=k∨ys=[]):G7c w S k ys x:=by
 obtain⟨ao,cap,rfl,_⟩:=h.len;obtain⟨_,h1,h2,cs,h3,h4,h5⟩:=h.vals;have h0:∀ y∈ys,y.cells.length=k:=by
  grind
 refine⟨h0,ao,cap,cs,rfl,fun e=>S1 (h2 e),h3.trans (Jd h0),h4,fun j u x hu hx=>?_⟩;grind

def xJ (L:Loc) (k:Nat) (s:AV) (ys:AG):Prop:=
 (∃ kx,Qi s=some (kx,ys)∧(kx=k∨ys=[]))∨(∃ i ver n t,s=.vec i ver k n∧lk L i=some (.vec t k ver ys))∨(∃ i ver off n t zs,s=.vsl i ver k off n∧lk L i=some (.vec t k ver zs)∧ys=(zs.drop off).take n)
theorem xJ.reads {s:AV} {ys:AG} (h0:Sat w β L) (h:xJ L k s ys) (hv:V w β L s x):G7c w (J6 w β L) k ys x:=by
 rcases h with ⟨kx,h1,h2⟩ | ⟨i,ver,n,t,rfl,hi⟩ | ⟨i,ver,off,n,t,zs,rfl,hi,rfl⟩
 ·exact J0c (hv.Qi h1) h2
 ·obtain⟨rfl,h⟩:=HM h0 hi hv;have:=G56 h0 hi (by simp) h;grind
 ·obtain⟨_,h1,h2⟩:=hv.inv_vsl hi;exact G56 h0 hi h1 h2
def H9c (L:Loc) (k:Nat) (s:AV) (i ver off n t:Nat) (xs:AG):Prop:=
 lk L i=some (.vec t k ver xs)∧((s=.vec i ver k n∧off=0)∨s=.vsl i ver k off n)
theorem H9c.out {s:AV} (h0:Sat w β L) (h:H9c L k s i ver off n t xs) (hv:V w β L s x):off+n<=xs.length∧G7b (β.at_ i) k off n x:=by
 obtain⟨hi,⟨rfl,rfl⟩ | rfl⟩:=h
 ·obtain⟨rfl,h⟩:=HM h0 hi hv;grind
 ·exact(hv.inv_vsl hi).2

section ops
variable {P:Program} {N:Cfg} {o:Oper} {l:Fr} {L L':Loc} {u:AV} {α:Type}

variable {xs:AG} {E T i k n ver:Nat} {x:Operand}
theorem Je2 {lo hi:Nat} {lop h4:Option Operand} (ho:o.op=.slice T x lop h4 none) (hT:sliceB P T E k=true) (hx:ev l x=.vec i ver k n) (hL:lk L i=some (.vec E k ver xs))
  (h7:(lop=none∧lo=0)∨∃ kd p,lop=some p∧ev l p=.sc (.int kd lo)) (h8:(h4=none∧hi=xs.length)∨∃ kd p,h4=some p∧ev l p=.sc (.int kd hi)) (h1:lo<=hi) (h2:hi<=xs.length) :
  H7 P o l L (Is (.vsl i ver k lo (hi - lo)) L):=
 J1 fun a w β h5 hf=>by
  have hv:=hf.ev x;rw [hx] at hv;obtain⟨rfl,a',cap,he,h9,a0,h6⟩:=HM h5 hL hv;refine⟨.slice (if cap=lo then a' else a'.map (·.add (lo*k))) (hi - lo) (cap - lo),?_,.vsl ⟨E,ver,xs,hL,Sf,fun _=>⟨by omega,⟨_,_,rfl,by omega,by omega,?_⟩,fun h0=>?_⟩⟩ rfl⟩
  ·simp only [execOp,ho,he,Sem.run_bind,Option.map_none];rw [yB hT a' xs.length cap lo hi _ _ w h1 h2 h9]
   ·rfl
   ·rcases h7 with ⟨rfl,rfl⟩ | ⟨kd,p,rfl,hp⟩
    ·exact .inl ⟨rfl,rfl⟩
    ·refine .inr ⟨kd,?_⟩;have:=hf.ev p; rw [hp] at this;simp [this.inv_sc]
   ·rcases h8 with ⟨rfl,rfl⟩ | ⟨kd,p,rfl,hp⟩
    ·exact .inl ⟨rfl,rfl⟩
    ·refine .inr ⟨kd,?_⟩;have:=hf.ev p; rw [hp] at this;simp [this.inv_sc]
  ·by_cases h0:hi - lo=0
   ·exact .inl h0
   ·right;rcases h6 with h6 | ⟨b,hb,rfl⟩
    ·omega
    ·refine⟨b,hb,?_⟩;rw [if_neg (by omega)];simp [Addr.add_lit]
  ·subst h0;obtain⟨_,_,hc⟩:=fF h5 hL hv;rcases hc with ⟨e1,e2,e3⟩ | ⟨b,cap',vs,e1,e2,e3,e4,e5,e6,_⟩
   ·rw [he] at e1;injection e1 with f1 f2 f3;subst f1;subst f3;subst e2;have h3:hi=0:=by simpa using h2
    subst h3;exact .inl ⟨rfl,rfl,e3⟩
   ·rw [he] at e1;injection e1 with f1 f2 f3;subst f1;subst f3;refine .inr ⟨b,cap,?_,e2,by omega,e4,by simp [World.shape?,e5,e6]⟩;split <;> simp [Addr.add_lit]

theorem J6c (hT:sliceB P T E k=true) {T2 ty:Nat} (w:World) (a s:Option Addr) (n cap m cap2:Nat) (cs:AM) (hs:s=none->m=0) (h4:cs.length=min m n*k) (h5:∀ (ad:Addr) (j:Nat) u,s=some ad->cs[j]? = some u->w.cell? (ad.add j)=some u) :
  (Builtin.copy_ #[T,T2] ty #[.slice a n cap,.slice s m cap2]).run P w=(match a with | some ad=>((storeCells ad cs).run P w).andThen fun _ w=>.ok (goInt ((min m n:Nat):Int)) w | none=>.ok (goInt ((min m n:Nat):Int)) w):=by
 obtain⟨h1,h2⟩:=sliceB.out hT;have h3:=Qd h2 w;have h0:Nat.min m n=min m n:=rfl;cases s with
 | none=>
  have hm:=hs rfl;subst hm;have:cs=[]:=S1 (by rw [h4]; simp);subst this;cases a <;> simp [Builtin.copy_,run_underlying h1,Builtin.lenOf,Builtin.firstCells,h3,h0,storeCells,Result.andThen]
 | some ad=>
  have hl:=run_loadCells_list (P:=P) w ad cs (fun j v h=>h5 ad j v rfl h);rw [h4] at hl;cases a with
  | none=>simp [Builtin.copy_,run_underlying h1,Builtin.lenOf,Builtin.firstCells,h3,h0,hl]
  | some a2=>
   simp [Builtin.copy_,run_underlying h1,Builtin.lenOf,Builtin.firstCells,h3,h0,hl]

theorem Jec {d:Operand} {T2 off:Nat} {ys:AG} (ho:o.op=.call { callee:=.builtin .copy,args:=#[d,x],argTypes:=#[T,T2] }) (hT:sliceB P T E k=true) (hd:H9c L k (ev l d) i ver off n E xs) (hs:xJ L k (ev l x) ys) (hc:∀ y∈ys.take (min ys.length n),y.BJ=true) :
  H7 P o l L (Is (I64 ((min ys.length n:Nat):Int)) ((i,.vec E k ver (xs.take off++ys.take (min ys.length n)++xs.drop (off+min ys.length n)))::L)):=by
 intro a w β K Q h1 hf hK;have hi:=hd.1;obtain⟨b3,ad,cap,a4,b5,b6,h8⟩:=hd.out h1 (hf.ev d);obtain⟨h4,asx,cap2,cs,a5,a6,a7,h6,a8⟩:=hs.reads h1 (hf.ev x);have b7:(flat ys).length=ys.length*k:=Jd h4;have b8:min ys.length n*k<=ys.length*k:=Nat.mul_le_mul_right _ (Nat.min_le_left _ _);have h2:(cs.take (min ys.length n*k)).length=min ys.length n*k:=by rw [List.length_take,a7]; omega
 have hr:=J6c (P:=P) hT (T2:=T2) (ty:=o.type) w ad asx n cap ys.length cap2 (cs.take (min ys.length n*k)) (fun e=>by rw [a6 e]; rfl) h2 (fun ad' j u e hu=>by
  have hj:=(Sa hu).1;rw [Sk,if_pos (by omega)] at hu;exact h6 ad' j u e hu)
 have a9:(execOp a.eval o).run P w=((Builtin.copy_ #[T,T2] o.type #[.slice ad n cap,.slice asx ys.length cap2]).run P w).andThen fun v w=>.ok (.value v) w:=by
  simp [execOp,ho,resolve,invoke,builtin,a4,a5]
  try rfl
 have h5:∀ y∈ys.take (min ys.length n),y.cells.length=k:=fun y hy=>h4 y (List.mem_of_mem_take hy);have h3:(ys.take (min ys.length n)).length=min ys.length n:=by rw [List.length_take]; omega
 unfold Oper.wp;rw [a9,hr];by_cases h0:min ys.length n=0
 ·-- nothing is written
  have a3:cs.take (min ys.length n*k)=[]:=S1 (by rw [h2,h0,Nat.zero_mul]);rw [a3];have b0:(match ad with | some a2=>((storeCells a2 []).run P w).andThen fun _ w=>Result.ok (goInt ((min ys.length n:Nat):Int)) w | none=>Result.ok (goInt ((min ys.length n:Nat):Int)) w)=Result.ok (goInt ((min ys.length n:Nat):Int)) w:=by
   cases ad <;> simp [storeCells,Result.andThen]
  rw [b0];have b1:xs.take off++ys.take (min ys.length n)++xs.drop (off+min ys.length n)=xs:=by rw [h0]; simp
  rw [b1] at hK;have hq:jM L ((i,Jn.vec E k ver xs)::L):=fun id=>by
   rw [Gm];by_cases e:i=id
   ·subst e; rw [if_pos rfl,hi]
   ·rw [if_neg e]
  exact hK _ _ _ w β ⟨rfl,rfl⟩ (h1.BI hq) ((Step.refl w β L).BI hq) .sc
 ·rcases h8 with h8 | ⟨b,hb,rfl⟩
  ·omega
  ·obtain⟨q1,vs,q2,q3,q4⟩:=nH h1 hi hb;have h7:off+(ys.take (min ys.length n)).length<=xs.length:=by rw [h3]; omega
   have b4:off*k+min ys.length n*k<=xs.length*k:=by rw [<- Nat.add_mul]; exact Nat.mul_le_mul_right _ (by omega)
   have h9:∀ (j:Nat) u x,(flat (ys.take (min ys.length n)))[j]? = some u->(cs.take (min ys.length n*k))[j]? = some x->D w (J6 w β L) u x:=fun j u x hu hx=>by
    have hj:=(Sa hx).1;rw [h2] at hj;rw [Sk,if_pos hj] at hx;rw [gF h4,Sk,if_pos hj] at hu;exact a8 j u x hu hx
   have b2:∀ v∈cs.take (min ys.length n*k),v.oneCell'=true:=fun v hv=>by
    obtain⟨j,hj⟩:=List.mem_iff_getElem?.1 hv;have a0:=(Sa hj).1;rw [h2] at a0;have hu:(flat (ys.take (min ys.length n)))[j]? = some ((flat (ys.take (min ys.length n)))[j]'(by rw [Jd h5,h3]; exact a0)):=Sb _;exact(V.data (h9 j _ v hu hj)).cell (tE hc (Sd hu))
   have a1:=run_storeCells_at P b (off*k) E (cs.take (min ys.length n*k)) 0 vs w q2 (by rw [h2]; omega) b2;simp only [Nat.add_zero] at a1;simp only [a1,Result.andThen];obtain⟨st,sat⟩:=QN (off:=off) (zs:=ys.take (min ys.length n)) (cs:=cs.take (min ys.length n*k)) h1 hi hb q2 h5 (by rw [h2,h3]) h7 h9;rw [h3] at st sat;exact hK _ _ _ _ _ ⟨rfl,rfl⟩ sat st .sc
theorem tU (z:Array Value) (n j:Nat) (hj:j < n*z.size):(Builtin.zeroCells z n).toList[j]? = some z[j % z.size]! := by
 simp [Builtin.zeroCells,hj]

theorem Q23 {d:Operand} {off:Nat} {y:AV} {zs:AM} (ho:o.op=.call { callee:=.builtin .clear,args:=#[d],argTypes:=#[T] }) (hT:sliceB P T E k=true) (hd:H9c L k (ev l d) i ver off n E xs)
  (hz:(P.info? E).bind (fun i=>i.zero.map Value.cells)=some zs.toArray) (h3:zs.length=k) (a4:Nat.blt 0 k=true) (h1:zs.all Value.oneCell'=true) (hy:y.cells.length=k) (hD:∀ (w:World) (S:Nat->Nat->Prop) (j:Nat) u v,y.cells[j]? = some u->zs[j]? = some v->D w S u v) :
  H7 P o l L (Is (.tup []) ((i,.vec E k ver (xs.take off++List.replicate n y++xs.drop (off+n)))::L)):=by
 intro a w β K Q h2 hf hK;have hi:=hd.1;have h7:0 < k:=by simpa [Nat.blt_eq] using a4
 obtain⟨h8,ad,cap,h4,a9,b0,a0⟩:=hd.out h2 (hf.ev d);obtain⟨t1,t2⟩:=sliceB.out hT;by_cases h0:n=0
 ·subst h0;have h9:(execOp a.eval o).run P w=.ok (.value (.tuple #[])) w:=by
   cases ad <;> simp [execOp,ho,resolve,invoke,builtin,h4,Builtin.clear_,run_underlying t1]
  unfold Oper.wp;rw [h9];have a5:xs.take off++List.replicate 0 y++xs.drop (off+0)=xs:=by simp
  rw [a5] at hK;have hq:jM L ((i,Jn.vec E k ver xs)::L):=fun id=>by
   rw [Gm];by_cases e:i=id
   ·subst e; rw [if_pos rfl,hi]
   ·rw [if_neg e]
  exact hK _ _ _ w β ⟨rfl,rfl⟩ (h2.BI hq) ((Step.refl w β L).BI hq) (.tup rfl (fun j u v hu=>by simp at hu))
 ·rcases a0 with a0 | ⟨b,hb,rfl⟩
  ·omega
  ·obtain⟨q1,vs,q2,q3,q4⟩:=nH h2 hi hb;have h5:zs.toArray.size=k:=by simpa using h3
   have h6:(Builtin.zeroCells zs.toArray n).toList.length=n*k:=by simp [Builtin.zeroCells,h3]
   have a8:off*k+n*k<=xs.length*k:=by rw [<- Nat.add_mul]; exact Nat.mul_le_mul_right _ h8
   have a1:∀ z∈List.replicate n y,z.cells.length=k:=fun z hz=>by rw [List.eq_of_mem_replicate hz]; exact hy
   have a6:∀ (j:Nat) u x,(flat (List.replicate n y))[j]? = some u->(Builtin.zeroCells zs.toArray n).toList[j]? = some x->D w (J6 w β L) u x:=fun j u x hu hx=>by
    have hj:=(Sa hx).1;rw [h6] at hj;rw [tU _ _ _ (by rw [h5]; exact hj),h5] at hx;have hm:j % k < k:=Nat.mod_lt _ h7;have h4:j / k < n:=(Nat.div_lt_iff_lt_mul h7).2 hj;have e:j=(j / k)*k+j % k:=by rw [Nat.mul_comm]; exact(Nat.div_add_mod j k).symm
    rw [e,jE a1 (y:=y) (by rw [List.getElem?_replicate,if_pos h4]) hm] at hu;refine hD w _ (j % k) u x hu ?_;rw [<- hx];simp [h3,hm]
   have a7:∀ v∈(Builtin.zeroCells zs.toArray n).toList,v.oneCell'=true:=fun v hv=>by
    obtain⟨j,hj⟩:=List.mem_iff_getElem?.1 hv;have a2:=(Sa hj).1;rw [h6] at a2;rw [tU _ _ _ (by rw [h5]; exact a2),h5] at hj;have hm:j % k < zs.length:=by rw [h3]; exact Nat.mod_lt _ h7
    cases hj;have:zs.toArray[j % k]! = zs[j % k]:=by simp [hm]
    rw [this];exact List.all_eq_true.1 h1 _ (List.getElem_mem hm)
   have a3:=run_storeCells_at P b (off*k) E (Builtin.zeroCells zs.toArray n).toList 0 vs w q2 (by rw [h6]; omega) a7;obtain⟨inf,e1,e2⟩:=Option.bind_eq_some_iff.1 hz;obtain⟨z,e3,e4⟩:=Option.map_eq_some_iff.1 e2;simp only [Nat.add_zero] at a3;have h9:(execOp a.eval o).run P w=.ok (.value (.tuple #[])) (w.setRow b (vs.toList.take (off*k)++(Builtin.zeroCells zs.toArray n).toList++vs.toList.drop (off*k+(Builtin.zeroCells zs.toArray n).toList.length)).toArray):=by
    obtain⟨m,rfl⟩:∃ m,n=m+1:=⟨n - 1,by omega⟩;simp only [execOp,ho,resolve,invoke,builtin,Sem.run_bind,List.map_toArray,List.map_cons,List.map_nil,h4];simp [Builtin.clear_,run_underlying t1,zeroValue,typeInfo,e1,e3,e4,a3]
   unfold Oper.wp;rw [h9];obtain⟨st,sat⟩:=QN (off:=off) (zs:=List.replicate n y) (cs:=(Builtin.zeroCells zs.toArray n).toList) h2 hi hb q2 a1 (by rw [h6,List.length_replicate]) (by simpa using h8) a6;rw [List.length_replicate] at st sat;exact hK _ _ _ _ _ ⟨rfl,rfl⟩ sat st (.tup rfl (fun j u v hu=>by simp at hu))
theorem Q17 {p:Operand} {hi:Nat} {kd:IntKind} {z:Int} (ho:o.op=.slice T x none (some p) none) (hT:sliceB P T E k=true) (hx:ev l x=.vec i ver k n) (hp:ev l p=.sc (.int kd z)) (hL:lk L i=some (.vec E k ver xs)) (hz:z=(hi:Int)) (h2:hi<=xs.length) :
  H7 P o l L (Is (.vec i (ver+1) k hi) ((i,.vec E k (ver+1) (xs.take hi))::L)):=by
 subst hz;intro a w β K Q h0 hf hK;have hv:=hf.ev x;rw [hx] at hv;have h4:=hf.ev p;rw [hp] at h4;obtain⟨rfl,q1,h⟩:=fF h0 hL hv;have h5:(xs.take hi).length=hi:=by rw [List.length_take]; omega
 have hk:∀ y∈xs.take hi,y.cells.length=k:=fun y hy=>q1 y (List.mem_of_mem_take hy);obtain⟨st,sat⟩:=Rn (w':=w) (t:=E) (k:=k) (AZ:=ver+1) (xs':=xs.take hi) (ob':=β.at_ i) h0 (.inr ⟨ver,xs,hL,by omega,fun e=>by omega⟩) rfl rfl ⟨rfl,Sf⟩ (Sf) (fun _ _ _=>rfl) (.inr (.inl ⟨by rw [inL,hL]; rfl,rfl⟩));have h6:lk ((i,Jn.vec E k (ver+1) (xs.take hi))::L) i=some (.vec E k (ver+1) (xs.take hi)):=by rw [Gm,if_pos rfl]
 unfold Oper.wp;rcases h with ⟨h1,h3,hb⟩ | ⟨b,cap,vs,h1,hb,c1,c2,c3,c4,c5⟩
 ·subst h3;have:hi=0:=by simpa using h2
  subst this;have hr:(execOp a.eval o).run P w=.ok (.value (.slice none 0 0)) w:=by
   simp only [execOp,ho,h1,Sem.run_bind,Option.map_none,Option.map_some,h4.inv_sc];rw [yB hT none 0 0 0 0 _ _ w (Sf) (Sf) (Sf) (.inl ⟨rfl,rfl⟩) (.inr ⟨kd,rfl⟩)];rfl
  rw [hr];exact hK _ _ _ _ _ ⟨rfl,rfl⟩ (sat ⟨hk,.inl ⟨hb,by simp⟩⟩) st (.vec ⟨E,ver+1,_,h6,Sf,fun _=>⟨by simp,.inl ⟨rfl,rfl,by simp [upP,hb]⟩⟩⟩ rfl)
 ·have hr:(execOp a.eval o).run P w=.ok (.value (.slice (some ⟨b,0,none⟩) hi cap)) w:=by
   simp only [execOp,ho,h1,Sem.run_bind,Option.map_none,Option.map_some,h4.inv_sc];rw [yB hT (some ⟨b,0,none⟩) xs.length cap 0 hi _ _ w (Nat.zero_le _) h2 c1 (.inl ⟨rfl,rfl⟩) (.inr ⟨kd,rfl⟩)];simp [Addr.add_lit]
  rw [hr];refine hK _ _ _ _ _ ⟨rfl,rfl⟩ (sat ⟨hk,.inr ⟨b,hb,vs,c3,by rw [h5,c4]; exact Nat.mul_le_mul_right _ (by omega),fun j u v hu hv=>?_⟩⟩) st (.vec ⟨E,ver+1,_,h6,Sf,fun _=>⟨h5.symm,.inr ⟨b,cap,rfl,by simp [upP,hb],by omega,c2,by simp [World.shape?,c3,c4]⟩⟩⟩ rfl);rw [gF q1] at hu;have hj:=(Sa hu).1;rw [List.length_take] at hj;rw [Sk,if_pos (by omega)] at hu;exact(c5 j u v hu hv).mono st.AX
end ops

/-! ### Typed elements -/
section typed
variable {P:Program} {o:Oper} {l:Fr} {L:Loc} {α:Type}
variable {z:Int} {kd:IntKind} {xs:List α} {E T i k m n ver:Nat} {p x:Operand} {f:α->AV}
theorem tO (ho:o.op=.slice T x (some p) none none) (hx:ev l x=.vec i ver k n) (hp:ev l p=.sc (.int kd z)) (hL:lk L i=some (.vec E k ver (xs.map f))) (hT:sliceB P T E k=true) (hm:z=(m:Int)∧m<=xs.length) :
  H7 P o l L (Is (.vsl i ver k m (xs.length - m)) L):=by
 obtain⟨rfl,hm⟩:=hm;have h:=Je2 (lo:=m) (hi:=xs.length) ho hT hx hL (.inr ⟨kd,p,rfl,hp⟩) (.inl ⟨rfl,by simp⟩) hm (by simp);exact h
theorem YF (ho:o.op=.slice T x none (some p) none) (hx:ev l x=.vec i ver k n) (hp:ev l p=.sc (.int kd z)) (hL:lk L i=some (.vec E k ver (xs.map f))) (hT:sliceB P T E k=true) (hm:z=(m:Int)∧m<=xs.length) :
  H7 P o l L (Is (.vsl i ver k 0 m) L):=by
 obtain⟨rfl,hm⟩:=hm;have h:=Je2 (lo:=0) (hi:=m) ho hT hx hL (.inl ⟨rfl,rfl⟩) (.inr ⟨kd,p,rfl,hp⟩) (Nat.zero_le _) (by simpa using hm);exact h
theorem H9d (ho:o.op=.slice T x none (some p) none) (hx:ev l x=.vec i ver k n) (hp:ev l p=.sc (.int kd z)) (hL:lk L i=some (.vec E k ver (xs.map f))) (hT:sliceB P T E k=true) (hm:z=(m:Int)∧m<=xs.length) :
  H7 P o l L (Is (.vec i (ver+1) k (xs.take m).length) ((i,.vec E k (ver+1) ((xs.take m).map f))::L)):=by
 have h:=Q17 (hi:=m) ho hT hx hp hL hm.1 (by simpa using hm.2);rw [List.map_take,show (xs.take m).length=m by rw [List.length_take]; omega];exact h
def overlay (xs:List α) (off:Nat) (ys:List α) (n:Nat):List α:=xs.take off++ys.take (min ys.length n)++xs.drop (off+min ys.length n)
def blank (xs:List α) (off n:Nat) (z:α):List α:=xs.take off++List.replicate n z++xs.drop (off+n)
theorem H95 {kx:Nat} {ys:List α} {u:AV} (h:Qi u=some (kx,ys.map f)) (hk:kx=k∨ys=[]):xJ L k u (ys.map f):=.inl ⟨kx,h,hk.imp id (fun e=>by rw [e]; rfl)⟩
variable {off:Nat}
theorem H24 {t:Nat} {zs:List α} {u:AV} (h:u=.vsl i ver k off n) (hi:lk L i=some (.vec t k ver (zs.map f))):xJ L k u (((zs.drop off).take n).map f):=.inr (.inr ⟨i,ver,off,n,t,zs.map f,h,hi,by rw [List.map_take,List.map_drop]⟩)
theorem QL {d:Operand} {T2:Nat} {ys:List α} (ho:o.op=.call { callee:=.builtin .copy,args:=#[d,x],argTypes:=#[T,T2] }) (hT:sliceB P T E k=true) (hd:(ev l d=.vec i ver k n∧off=0)∨ev l d=.vsl i ver k off n) (hi:lk L i=some (.vec E k ver (xs.map f))) (hs:xJ L k (ev l x) (ys.map f)) (hc:∀ y,(f y).BJ=true) :
  H7 P o l L (Is (I64 ((min ys.length n:Nat):Int)) ((i,.vec E k ver ((overlay xs off ys n).map f))::L)):=by
 have h:=Jec (off:=off) (n:=n) ho hT ⟨hi,hd⟩ hs (fun y hy=>by
  obtain⟨z,_,rfl⟩:=Su.1 (List.mem_of_mem_take hy);exact hc z)
 simp only [overlay,List.map_append,List.map_take,List.map_drop];grind
theorem G9a {d:Operand} (y:α) (zs:AM) (ho:o.op=.call { callee:=.builtin .clear,args:=#[d],argTypes:=#[T] }) (hT:sliceB P T E k=true) (hd:(ev l d=.vec i ver k n∧off=0)∨ev l d=.vsl i ver k off n) (hi:lk L i=some (.vec E k ver (xs.map f)))
  (hz:(P.info? E).bind (fun i=>i.zero.map Value.cells)=some zs.toArray) (h0:zs.length=k) (h3:Nat.blt 0 k=true) (h1:zs.all Value.oneCell'=true) (h2:ZOk (f y).cells zs) :
  H7 P o l L (Is (.tup []) ((i,.vec E k ver ((blank xs off n y).map f))::L)):=by
 have h:=Q23 (off:=off) (n:=n) (y:=f y) ho hT ⟨hi,hd⟩ hz h0 h3 h1 (by rw [h2.length,h0]) (fun w S j a b ha h4=>by
  have:=ZOk.get (w:=w) (β:=⟨fun _=>none,fun b i=>¬ S b i⟩) (L:=[]) h2 j a b ha h4;refine(this.data_of_nil).mono fun b i hs=>⟨Classical.byContradiction fun hn=>hs.seen hn,rfl⟩)
 simp only [blank,List.map_append,List.map_take,List.map_drop,List.map_replicate];exact h
def Qa (k:IntKind) (m n:Int):Int:=k.wrap (BitVec.ofInt k.bits m &&& BitVec.ofInt k.bits n).toNat
def Qk (k:IntKind) (m:Int) (s:Nat):Int:=m.fdiv (2 ^ (min s k.bits))
theorem G9b {T':Nat} {y:Operand} {k:IntKind} {m n:Int} (ho:o.op=.binOp .and T x y T':=by rfl) (hx:ev l x=.sc (.int k m):=by rfl) (hy:ev l y=.sc (.int k n):=by rfl):H7 P o l L (Is (.sc (.int k (Qa k m n))) L):=
 qW (fun P w=>by simp [eqGuard,binOp,Op.intBits,Qa]) hx hy ho
theorem xV {T':Nat} {y:Operand} {k k':IntKind} {m n:Int} {s:Nat} (hn:n=(s:Int):=by rfl) (ho:o.op=.binOp .shr T x y T':=by rfl) (hx:ev l x=.sc (.int k m):=by rfl) (hy:ev l y=.sc (.int k' n):=by rfl):H7 P o l L (Is (.sc (.int k (Qk k m s))) L):=
 Q8a hn rfl ho hx hy
end typed
set_option linter.unusedVariables false

variable {P:Program}
theorem Q4.mono {f:FuncId} {args:AG} {L0:Loc} {R R':AV->Loc->Prop} (h:Q4 P f args L0 R) (hr:∀ u L,R u L->R' u L):Q4 P f args L0 R':=fun w β vs a b c=>
 (h w β vs a b c).mono fun e w' hh=>by
  grind
theorem Pure.monoP {f:FuncId} {args:AG} {R R':AV->Prop} (h:Pure P f args R) (hr:∀ u,R u->R' u):Pure P f args R':=Q4.mono h (fun u L hh=>⟨hh.1,hr u hh.2⟩)
def J12:Loc->AK->Bool
 | [],_=>true
 | (i,_)::r,B=>B.any (Nat.beq i)&&J12 r B
theorem nV {B:AK}:∀ {L0:Loc},J12 L0 B=true->∀ id,(lk L0 id).isSome=true->id∈B
 | [],_,id,h=>by simp [lk] at h
 | (i,o)::r,hb,id,h=>by
  simp only [J12,Sq,List.any_eq_true] at hb;rw [Gm] at h;by_cases e:i=id
  ·obtain⟨x,hx,h0⟩:=hb.1;rw [<- e,S2 h0]; exact hx
  ·rw [if_neg e] at h; exact nV hb.2 id h

theorem pG {N:Cfg} {c:Code} {Q:Post} {l:Fr} (s:Nat) {E:Nat} (h1:look l s=.vec i ver k n) (hi:lk L i=some (.vec E k ver xs)) (h:n=xs.length->JC P N c Q l L):JC P N c Q l L:=fun n w0 β0 L0 a w β hs=>
 h (by
  have hv:=hs.frame.tmp s;rw [h1] at hv;exact(fF hs.sat hi hv).1) n w0 β0 L0 a w β hs
theorem qT {N:Cfg} {o:Oper} {ops:Array Oper} {rest:AN} {Q:Post} {l:Fr} {α:Type} {x:Operand} {T E d:Nat} {f:α->AV} {xs:List α} (hT:sliceB P T E k'=true) (ho:o.op=.call { callee:=.builtin .len,args:=#[x],argTypes:=#[T] }) (hx:ev l x=.vec i ver k n) (hi:lk L i=some (.vec E k ver (xs.map f)))
  (hk:xs.length<=maxLen->JL P N ops rest Q ((d,I64 (xs.length:Int))::l) L) (hg:o.guard=none:=by rfl) (hd:o.dst=some d:=by rfl) (hn:Nat.blt d N.n=true:=by rfl):JL P N ops (o::rest) Q l L:=by
 intro n w0 β0 L0 a w β hs;have hv:=hs.frame.ev x;rw [hx] at hv;obtain⟨e,_,h⟩:=fF hs.sat hi hv;rw [Ss] at e;subst e;have hm:xs.length<=maxLen:=by
  rcases h with ⟨_,h2,_⟩ | ⟨b,cap,vs,_,_,h3,h4,_⟩
  ·rw [List.map_eq_nil_iff] at h2;grind
  ·grind
 exact G0 (J2e hT ho hx hi) (hk hm) hg hd hn (by unfold bR; rw [ho]) n w0 β0 L0 a w β hs

section AJ
variable {P:Program} {o:Oper} {l:Fr} {L:Loc} {γ:Type}
theorem G75 {f:FuncId} {vs:Array Value} {args:AG} {L0:Loc} {u:γ->AV} {Lr:γ->Loc} {a:Act} {w:World} {β:H2} {K:Act->World->Prop} {Q:Exit->Act->World->Prop} (hc:Q4 P f args L0 (fun r L'=>∃ p,r=u p∧L'=Lr p)) (h0:Sat w β L)
  (h4:Ga6 L L0) (h6:closedIn (inL L0) L0=true) (h5:∀ p,oS L L0 (Lr p)=true) (hl:vs.size=args.length)
  (hv:∀ (j:Nat) u v,args[j]? = some u->vs[j]? = some v->V w β L u v∧u.refs (inL L0)=true)
  (hK:∀ u' L' v w' β',(∃ p,u'=u p∧L'=Lr p++sY L L0)->Sat w' β' L'->Step w β L w' β' L'->V w' β' L' u' v->K (a.put o.dst v) w') :
  Calls P f vs w fun
   | .returned v,w''=>K (a.put o.dst v) w''
   | .panicked chain,w''=>Q (.panic chain) a w''
   | .outgrown,_=>LetsOut Q:=by
 refine(G65 hc h0 (fun id ob h=>h4.get h) (fun id ob h=>closedIn.get h6 h) hl hv (fun r L' hR id h=>by obtain⟨p,_,rfl⟩:=hR; exact oS.get (h5 p) h)).mono fun e w' h=>?_;obtain⟨v,r,β',L',rfl,⟨p,rfl,rfl⟩,h1,h2,h3⟩:=h;exact hK _ _ v w' _ ⟨p,rfl,rfl⟩ h1 h2 h3

theorem xW {f:FuncId} {xs:List Operand} {args:AG} {ts:Array TypeId} {L0:Loc} {u:γ->AV} {Lr:γ->Loc} (ho:o.op=.call { callee:=.value (.func f),args:=xs.toArray,argTypes:=ts }) (hc:Q4 P f args L0 (fun r L'=>∃ p,r=u p∧L'=Lr p)) (hB:Hh P f=true) (ha:xT l L0 xs args)
  (h0:Ga6 L L0) (h5:closedIn (inL L0) L0=true) (h3:∀ p,oS L L0 (Lr p)=true):H7 P o l L (fun u' L''=>∃ p,u'=u p∧L''=Lr p++sY L L0):=by
 intro a w β K Q h4 hf hK;have hr:(execOp a.eval o).run P w=.ok (.enter f (xs.toArray.map a.eval)) w:=by
  simp [execOp,ho,resolve,Act.eval,Deferred.ofValue,invoke,Hh.out hB]
 unfold Oper.wp;rw [hr];refine G75 hc h4 h0 h5 h3 (by simp [ha.length]) (fun j u v hu hv=>?_) hK;simp only [Array.getElem?_map,List.getElem?_toArray,Option.map_eq_some_iff] at hv;obtain⟨x,hx,rfl⟩:=hv;obtain⟨h1,h2⟩:=ha.get hx hu;refine⟨?_,h2⟩;rcases h1 with h1 | h1
 ·rw [<- h1]; exact hf.ev x
 ·rw [<- h1]; exact(hf.ev x).plain

end AJ

section rel
variable {α β σ R:Type} {r:R}
def Rel (r:R) (m:Option Prop) (d:Option R):Prop:=d=some r->∃ p:Prop,m=some p∧p
theorem JB {e:R}:Rel r (some (e=r)) (some e):=fun h=>⟨_,rfl,Sc h⟩
theorem wQ {m:Option Prop}:Rel r m none:=fun h=>by cases h
theorem uN {m:Option α} {k:α->Option Prop} {k':α->Option R} (h:∀ x,Rel r (k x) (k' x)):Rel r (bnd m k) (bnd m k'):=by
 cases m with
 | none=>exact wQ
 | some x=>exact h x
theorem nJ {c:Bool} {x y:Option Prop} {x' y':Option R} (h1:c=true->Rel r x x') (h2:c=false->Rel r y y'):Rel r (bif c then x else y) (bif c then x' else y'):=by
 grind
theorem G18 {z:Int} {k:Int->Option Prop} {k':Int->Option R} (h:∀ x,Rel r (k x) (k' x)):Rel r (chk z k) (chk z k'):=by
 unfold chk; exact nJ (fun _=>h z) (fun _=>wQ)
theorem Jb9 {m:(α->Option Prop)->Option Prop} {m':(α->Option R)->Option R} {k:α->Option Prop} {k':α->Option R} (h:∀ K K',(∀ a,Rel r (K a) (K' a))->Rel r (m K) (m' K')) (hk:∀ a,Rel r (k a) (k' a)):Rel r (jp m k) (jp m' k'):=h k k' hk
theorem JD {b:α->Nat->σ->(σ->Option Prop)->Option Prop} {b':α->Nat->σ->(σ->Option R)->Option R} {kx:σ->Option Prop} {kx':σ->Option R}
  (h:∀ x i s nx nx',(∀ s,Rel r (nx s) (nx' s))->Rel r (b x i s nx) (b' x i s nx')) (hk:∀ s,Rel r (kx s) (kx' s)):∀ {xs:List α} {i:Nat} {s:σ},Rel r (each b kx xs i s) (each b' kx' xs i s)
 | [],_,s=>hk s
 | x::_,i,s=>h x i s _ _ (fun _=>JD h hk)
theorem HZ {c:α->Bool} {e e':β}:∀ (l:List α) (s:Unit),JA (fun x (_:Unit) nx=>bif c x then lft (some e) else nx ()) (fun _=>some e') l s=some (bif l.any c then e else e')
 | [],_=>rfl
 | x::l,s=>by
  rw [JA];cases hc:c x with
  | true=>simp [lft,hc]
  | false=>simp [hc,HZ l]
theorem Jfa {c:α->Bool} {e e':R} {l:List α}:Rel r (Gdf (fun x (_:Unit) nx=>bif c x then lft (some (e=r)) else nx ()) (fun _=>some (e'=r)) l ()) (JA (fun x (_:Unit) nx=>bif c x then lft (some e) else nx ()) (fun _=>some e') l ()):=fun h=>by
 refine⟨_,rfl,fun q hq=>?_⟩;rw [HZ] at h;refine⟨_,HZ q (),?_⟩;grind
end rel
end Go.Proofs.YtibhpogonkdiaaaGreat
