/-
 Parts of slices that the call may write in place: Calls that leave objects whose versions are not known before Models of functions that range over maps:
-/
import Derived.Test.YtbgfgnddogfpcaaGreatDraw2
namespace Go.Proofs.YtbgfgnddogfpcaaGreat
open Go.RowKit

variable {U:Gx} {xs:AD} {L:Loc} {i k off t ver:Nat} {w:World}
theorem QV {b:Nat} {zs:AD} {vs:Array Value} {cs:AK} (h0:Sat w U L) (hi:lk L i=some (.vec t k ver xs)) (hb:U.at_ i=some b) (q2:w.heap[b]? = some (.cells vs t (0,0)))
  (hz:∀ z∈zs,z.cells.length=k) (h1:cs.length=zs.length*k) (h7:off+zs.length<=xs.length) (hD:∀ (j:Nat) u x,(flat zs)[j]? = some u->cs[j]? = some x->D w (Hs w U L) u x) :
  Step w U L (w.setRow b (vs.toList.take (off*k)++cs++vs.toList.drop (off*k+cs.length)).toArray) (upP U i (U.at_ i)) ((i,.vec t k ver (xs.take off++zs++xs.drop (off+zs.length)))::L) /\
  Sat (w.setRow b (vs.toList.take (off*k)++cs++vs.toList.drop (off*k+cs.length)).toArray) (upP U i (U.at_ i)) ((i,.vec t k ver (xs.take off++zs++xs.drop (off+zs.length)))::L):=by
 obtain⟨q1,vs',q2',q3,q4⟩:=nB h0 hi hb;rw [q2] at q2'; cases q2';have a1:off*k+zs.length*k<=xs.length*k:=by rw [<- Nat.add_mul]; exact Nat.mul_le_mul_right _ h7
 have h5:=setRow_heap w b vs (vs.toList.take (off*k)++cs++vs.toList.drop (off*k+cs.length)).toArray t (0,0) q2;have h2:(vs.toList.take (off*k)++cs++vs.toList.drop (off*k+cs.length)).toArray.size=vs.size:=by
  simp; omega
 have a2:(flat xs).length=xs.length*k:=J2 q1;have h3:(flat zs).length=zs.length*k:=J2 hz;have h4:(xs.take off++zs++xs.drop (off+zs.length)).length=xs.length:=by simp; omega
 have h8:∀ y∈xs.take off++zs++xs.drop (off+zs.length),y.cells.length=k:=fun y hy=>by
  simp only [Ps] at hy;rcases hy with (h | h) | h
  .exact q1 y (List.mem_of_mem_take h)
  .exact hz y h
  .exact q1 y (List.mem_of_mem_drop h)
 obtain⟨st,sat⟩:=R0 (w':=w.setRow b (vs.toList.take (off*k)++cs++vs.toList.drop (off*k+cs.length)).toArray) (t:=t) (k:=k) (BA:=ver) (xs':=xs.take off++zs++xs.drop (off+zs.length)) (ob':=U.at_ i) h0
  (.inr ⟨ver,xs,hi,Pf,fun _=>⟨h4,rfl,fun b' h6=>by
   rw [hb] at h6; cases h6;rw [World.shape?,h5,World.shape?,q2]; simp only [h2]⟩⟩) rfl rfl ⟨rfl,Pf⟩ (by simp)
  (fun b' _ h9=>setRow_other w b b' _ (fun e=>h9 (by rw [inL,hi]; rfl) (by rw [hb,e])))
  (.inr (.inl ⟨by rw [inL,hi]; rfl,rfl⟩))
 refine⟨st,sat ⟨h8,.inr ⟨b,hb,_,h5,by rw [h2,h4]; exact q3,fun j u v hu hv=>?_⟩⟩⟩;rw [dU,dU,gN q1,yY q1] at hu;simp only [List.getElem?_toArray] at hv;have old:∀ j',(flat xs)[j']? = some u->vs[j']? = some v->D _ _ u v:=fun j' a b=>(q4 j' u v a b).mono st.AX;have e1:(off+zs.length)*k=off*k+zs.length*k:=Nat.add_mul _ _ _;rw [e1] at hu;have lu:(List.take (off*k) (flat xs)).length=off*k:=by simp; omega
 have lv:(List.take (off*k) vs.toList).length=off*k:=by simp; omega
 rcases P4 j (off*k) with hj | hj
 .rw [List.append_assoc,Ph (by omega),Pk,if_pos hj] at hu;rw [List.append_assoc,Ph (by omega),Pk,if_pos hj] at hv;exact old j hu (by simpa using hv)
 rcases P4 j (off*k+zs.length*k) with a0 | a0
 .rw [Ph (by rw [Pn,lu,h3]; omega),Pg (by omega),lu] at hu;rw [Ph (by rw [Pn,lv,h1]; omega),Pg (by omega),lv] at hv;exact(hD _ u v hu hv).mono st.AX
 .rw [Pg (by rw [Pn,lu,h3]; omega),Pn,lu,h3,Pm] at hu;rw [Pg (by rw [Pn,lv,h1]; omega),Pn,lv,h1,Pm] at hv;rw [show off*k+zs.length*k+(j - (off*k+zs.length*k))=j by omega] at hu hv;exact old j hu (by simpa using hv)

def G6f (w:World) (S:Nat->Nat->Prop) (k:Nat) (ys:AD) (v:Value):Prop:=
 (∀ y∈ys,y.cells.length=k)/\∃ (a:Option Addr) (cap:Nat) (cs:AK),v=.slice a ys.length cap/\(a=none->ys=[])/\cs.length=ys.length*k/\(∀ (ad:Addr) (j:Nat) u,a=some ad->cs[j]? = some u->w.cell? (ad.add j)=some u) /\
  ∀ (j:Nat) u x,(flat ys)[j]? = some u->cs[j]? = some x->D w S u x

variable {k' n:Nat} {x:Value}
theorem V.inv_vsl (hi:lk L i=some (.vec t k' ver xs)) (h:V w U L (.vsl i ver k off n) x):k=k'/\off+n<=xs.length/\G6d (U.at_ i) k off n x:=by
 cases h with
 | data h=>cases h
 | vsl hp _=>
  obtain⟨t',ver',xs',h1,_,h3⟩:=hp;rw [hi] at h1; cases h1;exact⟨rfl,(h3 rfl).1,(h3 rfl).2.1⟩
theorem V.inv_vsl0 (hi:lk L i=some (.vec t k' ver xs)) (h:V w U L (.vsl i ver k 0 n) x):RX w (U.at_ i) t k n x:=by
 cases h with
 | data h=>cases h
 | vsl hp _=>
  obtain⟨t',ver',xs',h1,_,h3⟩:=hp;rw [hi] at h1; cases h1;exact(h3 rfl).2.2 rfl

theorem HT (h0:Sat w U L) (hi:lk L i=some (.vec t k ver xs)) (hv:V w U L (.vec i ver k n) x):n=xs.length/\G6d (U.at_ i) k 0 n x:=by
 obtain⟨rfl,_,h⟩:=cX h0 hi hv;refine⟨rfl,?_⟩;rcases h with ⟨rfl,rfl,_⟩ | ⟨b,cap,vs,rfl,h1,h2,h3,_⟩
 .exact⟨none,0,rfl,Pf,Nat.zero_le _,.inl rfl⟩
 .exact⟨_,cap,rfl,h2,h3,.inr ⟨b,h1,by rw [Nat.zero_mul]⟩⟩

theorem G51 (h4:Sat w U L) (hi:lk L i=some (.vec t k ver xs)) (hn:off+n<=xs.length) (h:G6d (U.at_ i) k off n x):G6f w (Hs w U L) k ((xs.drop off).take n) x:=by
 obtain⟨o1,o2⟩:=h4.obj i _ hi;have hk:∀ y∈(xs.drop off).take n,y.cells.length=k:=fun y hy=>o1 y (List.mem_of_mem_drop (List.mem_of_mem_take hy));have hl:((xs.drop off).take n).length=n:=by simp; omega
 refine⟨hk,?_⟩;obtain⟨a,cap,rfl,h1,h2,h3⟩:=h;rw [hl];by_cases h0:n=0
 .subst h0;exact⟨a,cap,[],rfl,fun _=>by simp,by simp,fun ad j u _ hu=>by simp at hu,fun j u x _ hx=>by simp at hx⟩
 .rcases h3 with h3 | ⟨b,hb,rfl⟩
  .exact absurd h3 h0
  .obtain⟨q1,vs,q2,q3,q4⟩:=nB h4 hi hb;have hm:off*k+n*k<=xs.length*k:=by rw [<- Nat.add_mul]; exact Nat.mul_le_mul_right _ hn
   refine⟨_,cap,(vs.toList.drop (off*k)).take (n*k),rfl,(fun e=>by cases e),by simp; omega,fun ad j u e hu=>?_,fun j u x hu hx=>?_⟩
   .cases e;have hj:=(Pa hu).1;rw [List.length_take] at hj;rw [Pk,if_pos (by omega),Pm] at hu;rw [Addr.add_lit];simp [World.cell?,q2];simpa using hu
   .have hj:=(Pa hx).1;rw [List.length_take] at hj;rw [Pk,if_pos (by omega),Pm] at hx;have h5:∀ y∈xs.drop off,y.cells.length=k:=fun y hy=>o1 y (List.mem_of_mem_drop hy);rw [gN h5,yY o1,Pk,if_pos (by omega),Pm] at hu;exact q4 _ u x hu (by simpa using hx)

theorem J0b {S:Nat->Nat->Prop} {ys:AD} (h:D w S (.list k' ys) x) (hk:k'=k\/ys=[]):G6f w S k ys x:=by
 obtain⟨ao,cap,rfl,_⟩:=h.len;obtain⟨_,h1,h2,cs,h3,h4,h5⟩:=h.vals;have h0:∀ y∈ys,y.cells.length=k:=by
  rcases hk with rfl | rfl
  .exact h1
  .simp
 refine⟨h0,ao,cap,cs,rfl,fun e=>P1 (h2 e),h3.trans (J2 h0),h4,fun j u x hu hx=>?_⟩;obtain⟨x',h6,hd⟩:=h5 j u hu;rw [hx] at h6; cases h6;exact hd

def yE (L:Loc) (k:Nat) (s:AV) (ys:AD):Prop:=
 (∃ kx,Jv s=some (kx,ys)/\(kx=k\/ys=[]))\/(∃ i ver n t,s=.vec i ver k n/\lk L i=some (.vec t k ver ys))\/(∃ i ver off n t zs,s=.vsl i ver k off n/\lk L i=some (.vec t k ver zs)/\ys=(zs.drop off).take n)
theorem yE.reads {s:AV} {ys:AD} (h0:Sat w U L) (h:yE L k s ys) (hv:V w U L s x):G6f w (Hs w U L) k ys x:=by
 rcases h with ⟨kx,h1,h2⟩ | ⟨i,ver,n,t,rfl,hi⟩ | ⟨i,ver,off,n,t,zs,rfl,hi,rfl⟩
 .exact J0b (hv.Jv h1) h2
 .obtain⟨rfl,h⟩:=HT h0 hi hv;have:=G51 h0 hi (by simp) h;simpa using this
 .obtain⟨_,h1,h2⟩:=hv.inv_vsl hi;exact G51 h0 hi h1 h2
def H9f (L:Loc) (k:Nat) (s:AV) (i ver off n t:Nat) (xs:AD):Prop:=
 lk L i=some (.vec t k ver xs)/\((s=.vec i ver k n/\off=0)\/s=.vsl i ver k off n)
theorem H9f.out {s:AV} (h0:Sat w U L) (h:H9f L k s i ver off n t xs) (hv:V w U L s x):off+n<=xs.length/\G6d (U.at_ i) k off n x:=by
 obtain⟨hi,⟨rfl,rfl⟩ | rfl⟩:=h
 .obtain⟨rfl,h⟩:=HT h0 hi hv;exact⟨by simp,h⟩
 .exact(hv.inv_vsl hi).2

section ops
variable {P:Program} {N:Cfg} {o:Oper} {l:Fr} {L L':Loc} {u:AV} {W:Type}

theorem Jd9 {x:Operand} {T E k i ver n lo hi:Nat} {lop h4:Option Operand} {xs:AD} (ho:o.op=.slice T x lop h4 none) (hT:sliceB P T E k=true) (hx:ev l x=.vec i ver k n) (hL:lk L i=some (.vec E k ver xs))
  (h7:(lop=none/\lo=0)\/∃ kd p,lop=some p/\ev l p=.sc (.int kd lo)) (h8:(h4=none/\hi=xs.length)\/∃ kd p,h4=some p/\ev l p=.sc (.int kd hi)) (h1:lo<=hi) (h2:hi<=xs.length) :
  Gy P o l L (Is (.vsl i ver k lo (hi - lo)) L):=
 Hj fun a w U h5 hf=>by
  have hv:=hf.ev x;rw [hx] at hv;obtain⟨rfl,a',cap,he,h9,a0,h6⟩:=HT h5 hL hv;refine⟨.slice (if cap=lo then a' else a'.map (·.add (lo*k))) (hi - lo) (cap - lo),?_,.vsl ⟨E,ver,xs,hL,Pf,fun _=>⟨by omega,⟨_,_,rfl,by omega,by omega,?_⟩,fun h0=>?_⟩⟩ rfl⟩
  .simp only [execOp,ho,he,Sem.run_bind,Option.map_none];rw [pJ hT a' xs.length cap lo hi _ _ w h1 h2 h9]
   .rfl
   .rcases h7 with ⟨rfl,rfl⟩ | ⟨kd,p,rfl,hp⟩
    .exact .inl ⟨rfl,rfl⟩
    .refine .inr ⟨kd,?_⟩;have:=hf.ev p; rw [hp] at this;simp [this.inv_sc]
   .rcases h8 with ⟨rfl,rfl⟩ | ⟨kd,p,rfl,hp⟩
    .exact .inl ⟨rfl,rfl⟩
    .refine .inr ⟨kd,?_⟩;have:=hf.ev p; rw [hp] at this;simp [this.inv_sc]
  .by_cases h0:hi - lo=0
   .exact .inl h0
   .right;rcases h6 with h6 | ⟨b,hb,rfl⟩
    .omega
    .refine⟨b,hb,?_⟩;rw [if_neg (by omega)];simp [Addr.add_lit]
  .subst h0;obtain⟨_,_,hc⟩:=cX h5 hL hv;rcases hc with ⟨e1,e2,e3⟩ | ⟨b,cap',vs,e1,e2,e3,e4,e5,e6,_⟩
   .rw [he] at e1;injection e1 with f1 f2 f3;subst f1;subst f3;subst e2;have h3:hi=0:=by simpa using h2
    subst h3;exact .inl ⟨rfl,rfl,e3⟩
   .rw [he] at e1;injection e1 with f1 f2 f3;subst f1;subst f3;refine .inr ⟨b,cap,?_,e2,by omega,e4,by simp [World.shape?,e5,e6]⟩;split <;> simp [Addr.add_lit]

theorem uN (z:Array Value) (n j:Nat) (hj:j < n*z.size):(Builtin.zeroCells z n).toList[j]? = some z[j % z.size]! := by
 simp [Builtin.zeroCells,hj]

theorem Q58 {d:Operand} {T E k i ver off n:Nat} {xs:AD} {y:AV} {zs:AK} (ho:o.op=.call { callee:=.builtin .clear,args:=#[d],argTypes:=#[T] }) (hT:sliceB P T E k=true) (hd:H9f L k (ev l d) i ver off n E xs)
  (hz:(P.info? E).bind (fun i=>i.zero.map Value.cells)=some zs.toArray) (h3:zs.length=k) (a4:Nat.blt 0 k=true) (h1:zs.all Value.oneCell'=true) (hy:y.cells.length=k) (hD:∀ (w:World) (S:Nat->Nat->Prop) (j:Nat) u v,y.cells[j]? = some u->zs[j]? = some v->D w S u v) :
  Gy P o l L (Is (.tup []) ((i,.vec E k ver (xs.take off++List.replicate n y++xs.drop (off+n)))::L)):=by
 intro a w U K Q h2 hf hK;have hi:=hd.1;have h7:0 < k:=by simpa [Nat.blt_eq] using a4
 obtain⟨h8,ad,cap,h4,a9,b0,a0⟩:=hd.out h2 (hf.ev d);obtain⟨t1,t2⟩:=sliceB.out hT;by_cases h0:n=0
 .subst h0;have h9:(execOp a.eval o).run P w=.ok (.value (.tuple #[])) w:=by
   cases ad <;> simp [execOp,ho,resolve,invoke,builtin,h4,Builtin.clear_,run_underlying t1]
  unfold Oper.wp;rw [h9];have a5:xs.take off++List.replicate 0 y++xs.drop (off+0)=xs:=by simp
  rw [a5] at hK;have hq:fL L ((i,Jb.vec E k ver xs)::L):=fun id=>by
   rw [Ge];by_cases e:i=id
   .subst e; rw [if_pos rfl,hi]
   .rw [if_neg e]
  exact hK _ _ _ w U ⟨rfl,rfl⟩ (h2.BK hq) ((Step.refl w U L).BK hq) (.tup rfl (fun j u v hu=>by simp at hu))
 .rcases a0 with a0 | ⟨b,hb,rfl⟩
  .omega
  .obtain⟨q1,vs,q2,q3,q4⟩:=nB h2 hi hb;have h5:zs.toArray.size=k:=by simpa using h3
   have h6:(Builtin.zeroCells zs.toArray n).toList.length=n*k:=by simp [Builtin.zeroCells,h3]
   have a8:off*k+n*k<=xs.length*k:=by rw [<- Nat.add_mul]; exact Nat.mul_le_mul_right _ h8
   have a1:∀ z∈List.replicate n y,z.cells.length=k:=fun z hz=>by rw [List.eq_of_mem_replicate hz]; exact hy
   have a6:∀ (j:Nat) u x,(flat (List.replicate n y))[j]? = some u->(Builtin.zeroCells zs.toArray n).toList[j]? = some x->D w (Hs w U L) u x:=fun j u x hu hx=>by
    have hj:=(Pa hx).1;rw [h6] at hj;rw [uN _ _ _ (by rw [h5]; exact hj),h5] at hx;have hm:j % k < k:=Nat.mod_lt _ h7;have h4:j / k < n:=(Nat.div_lt_iff_lt_mul h7).2 hj;have e:j=(j / k)*k+j % k:=by rw [Nat.mul_comm]; exact(Nat.div_add_mod j k).symm
    rw [e,jI a1 (y:=y) (by rw [List.getElem?_replicate,if_pos h4]) hm] at hu;refine hD w _ (j % k) u x hu ?_;rw [<- hx];simp [h3,hm]
   have a7:∀ v∈(Builtin.zeroCells zs.toArray n).toList,v.oneCell'=true:=fun v hv=>by
    obtain⟨j,hj⟩:=List.mem_iff_getElem?.1 hv;have a2:=(Pa hj).1;rw [h6] at a2;rw [uN _ _ _ (by rw [h5]; exact a2),h5] at hj;have hm:j % k < zs.length:=by rw [h3]; exact Nat.mod_lt _ h7
    cases hj;have:zs.toArray[j % k]! = zs[j % k]:=by simp [hm]
    rw [this];exact List.all_eq_true.1 h1 _ (List.getElem_mem hm)
   have a3:=run_storeCells_at P b (off*k) E (Builtin.zeroCells zs.toArray n).toList 0 vs w q2 (by rw [h6]; omega) a7;obtain⟨inf,e1,e2⟩:=Option.bind_eq_some_iff.1 hz;obtain⟨z,e3,e4⟩:=Option.map_eq_some_iff.1 e2;simp only [Nat.add_zero] at a3;have h9:(execOp a.eval o).run P w=.ok (.value (.tuple #[])) (w.setRow b (vs.toList.take (off*k)++(Builtin.zeroCells zs.toArray n).toList++vs.toList.drop (off*k+(Builtin.zeroCells zs.toArray n).toList.length)).toArray):=by
    obtain⟨m,rfl⟩:∃ m,n=m+1:=⟨n - 1,by omega⟩;simp only [execOp,ho,resolve,invoke,builtin,Sem.run_bind,List.map_toArray,List.map_cons,List.map_nil,h4];simp [Builtin.clear_,run_underlying t1,zeroValue,typeInfo,e1,e3,e4,a3]
   unfold Oper.wp;rw [h9];obtain⟨st,sat⟩:=QV (off:=off) (zs:=List.replicate n y) (cs:=(Builtin.zeroCells zs.toArray n).toList) h2 hi hb q2 a1 (by rw [h6,List.length_replicate]) (by simpa using h8) a6;rw [List.length_replicate] at st sat;exact hK _ _ _ _ _ ⟨rfl,rfl⟩ sat st (.tup rfl (fun j u v hu=>by simp at hu))
end ops

/-! ### Typed elements -/
section typed
variable {P:Program} {o:Oper} {l:Fr} {L:Loc} {W:Type}
variable {xs:List W} {E T i k n ver:Nat} {f:W->AV}
theorem J8c {x p:Operand} {m:Nat} {kd:IntKind} {z:Int} (ho:o.op=.slice T x (some p) none none) (hx:ev l x=.vec i ver k n) (hp:ev l p=.sc (.int kd z)) (hL:lk L i=some (.vec E k ver (xs.map f))) (hT:sliceB P T E k=true) (hm:z=(m:Int)/\m<=xs.length) :
  Gy P o l L (Is (.vsl i ver k m (xs.length - m)) L):=by
 obtain⟨rfl,hm⟩:=hm;have h:=Jd9 (lo:=m) (hi:=xs.length) ho hT hx hL (.inr ⟨kd,p,rfl,hp⟩) (.inl ⟨rfl,by simp⟩) hm (by simp);exact h
theorem J8d {x p:Operand} {m:Nat} {kd:IntKind} {z:Int} (ho:o.op=.slice T x none (some p) none) (hx:ev l x=.vec i ver k n) (hp:ev l p=.sc (.int kd z)) (hL:lk L i=some (.vec E k ver (xs.map f))) (hT:sliceB P T E k=true) (hm:z=(m:Int)/\m<=xs.length) :
  Gy P o l L (Is (.vsl i ver k 0 m) L):=by
 obtain⟨rfl,hm⟩:=hm;have h:=Jd9 (lo:=0) (hi:=m) ho hT hx hL (.inl ⟨rfl,rfl⟩) (.inr ⟨kd,p,rfl,hp⟩) (Nat.zero_le _) (by simpa using hm);exact h
def blank (xs:List W) (off n:Nat) (z:W):List W:=xs.take off++List.replicate n z++xs.drop (off+n)
theorem Q38 {off t:Nat} {zs:List W} {u:AV} (h:u=.vsl i ver k off n) (hi:lk L i=some (.vec t k ver (zs.map f))):yE L k u (((zs.drop off).take n).map f):=.inr (.inr ⟨i,ver,off,n,t,zs.map f,h,hi,by rw [List.map_take,List.map_drop]⟩)
theorem Jea {d:Operand} {off:Nat} (y:W) (zs:AK) (ho:o.op=.call { callee:=.builtin .clear,args:=#[d],argTypes:=#[T] }) (hT:sliceB P T E k=true) (hd:(ev l d=.vec i ver k n/\off=0)\/ev l d=.vsl i ver k off n) (hi:lk L i=some (.vec E k ver (xs.map f)))
  (hz:(P.info? E).bind (fun i=>i.zero.map Value.cells)=some zs.toArray) (h0:zs.length=k) (h3:Nat.blt 0 k=true) (h1:zs.all Value.oneCell'=true) (h2:ZOk (f y).cells zs) :
  Gy P o l L (Is (.tup []) ((i,.vec E k ver ((blank xs off n y).map f))::L)):=by
 have h:=Q58 (off:=off) (n:=n) (y:=f y) ho hT ⟨hi,hd⟩ hz h0 h3 h1 (by rw [h2.length,h0]) (fun w S j a b ha h4=>by
  have:=ZOk.get (w:=w) (U:=⟨fun _=>none,fun b i=>¬ S b i⟩) (L:=[]) h2 j a b ha h4;refine(this.data_of_nil).mono fun b i hs=>⟨Classical.byContradiction fun hn=>hs.seen hn,rfl⟩)
 simp only [blank,List.map_append,List.map_take,List.map_drop,List.map_replicate];exact h
end typed
set_option linter.unusedVariables false

variable {P:Program}
theorem Q2.mono {f:FuncId} {args:AD} {L0:Loc} {R R':AV->Loc->Prop} (h:Q2 P f args L0 R) (hr:∀ u L,R u L->R' u L):Q2 P f args L0 R':=fun w U vs a b c=>
 (h w U vs a b c).mono fun e w' hh=>by
  obtain⟨v,r,U',L',h1,h2,h3,h4,h5⟩:=hh;exact⟨v,r,U',L',h1,h2,h3,h4,hr _ _ h5⟩
theorem Pure.monoP {f:FuncId} {args:AD} {R R':AV->Prop} (h:Pure P f args R) (hr:∀ u,R u->R' u):Pure P f args R':=Q2.mono h (fun u L hh=>⟨hh.1,hr u hh.2⟩)
def J0f:Loc->AI->Bool
 | [],_=>true
 | (i,_)::r,B=>B.any (Nat.beq i)&&J0f r B
theorem zR {B:AI}:∀ {L0:Loc},J0f L0 B=true->∀ id,(lk L0 id).isSome=true->id∈B
 | [],_,id,h=>by simp [lk] at h
 | (i,o)::r,hb,id,h=>by
  simp only [J0f,Pp,List.any_eq_true] at hb;rw [Ge] at h;by_cases e:i=id
  .obtain⟨x,hx,h0⟩:=hb.1;rw [<- e,P2 h0]; exact hx
  .rw [if_neg e] at h; exact zR hb.2 id h

theorem G24 {N:Cfg} {c:Code} {Q:Post} {l:Fr} (s:Nat) {E:Nat} (h1:look l s=.vec i ver k n) (hi:lk L i=some (.vec E k ver xs)) (h:n=xs.length->JC P N c Q l L):JC P N c Q l L:=fun n w0 U0 L0 a w U hs=>
 h (by
  have hv:=hs.frame.tmp s;rw [h1] at hv;exact(cX hs.sat hi hv).1) n w0 U0 L0 a w U hs
section AA
variable {P:Program} {o:Oper} {l:Fr} {L:Loc} {Y:Type}
theorem G67 {f:FuncId} {vs:Array Value} {args:AD} {L0:Loc} {u:Y->AV} {Lr:Y->Loc} {a:Act} {w:World} {U:Gx} {K:Act->World->Prop} {Q:Exit->Act->World->Prop} (hc:Q2 P f args L0 (fun r L'=>∃ p,r=u p/\L'=Lr p)) (h0:Sat w U L)
  (h4:Ga4 L L0) (h6:closedIn (inL L0) L0=true) (h5:∀ p,nQ L L0 (Lr p)=true) (hl:vs.size=args.length)
  (hv:∀ (j:Nat) u v,args[j]? = some u->vs[j]? = some v->V w U L u v/\u.refs (inL L0)=true)
  (hK:∀ u' L' v w' U',(∃ p,u'=u p/\L'=Lr p++qA L L0)->Sat w' U' L'->Step w U L w' U' L'->V w' U' L' u' v->K (a.put o.dst v) w') :
  Calls P f vs w fun
   | .returned v,w''=>K (a.put o.dst v) w''
   | .panicked chain,w''=>Q (.panic chain) a w''
   | .outgrown,_=>LetsOut Q:=by
 refine(G5c hc h0 (fun id ob h=>h4.get h) (fun id ob h=>closedIn.get h6 h) hl hv (fun r L' hR id h=>by obtain⟨p,_,rfl⟩:=hR; exact nQ.get (h5 p) h)).mono fun e w' h=>?_;obtain⟨v,r,U',L',rfl,⟨p,rfl,rfl⟩,h1,h2,h3⟩:=h;exact hK _ _ v w' _ ⟨p,rfl,rfl⟩ h1 h2 h3

theorem QU {f:FuncId} {xs:List Operand} {args:AD} {ts:Array TypeId} {L0:Loc} {u:Y->AV} {Lr:Y->Loc} (ho:o.op=.call { callee:=.value (.func f),args:=xs.toArray,argTypes:=ts }) (hc:Q2 P f args L0 (fun r L'=>∃ p,r=u p/\L'=Lr p)) (hB:H5 P f=true) (ha:yL l L0 xs args)
  (h0:Ga4 L L0) (h5:closedIn (inL L0) L0=true) (h3:∀ p,nQ L L0 (Lr p)=true):Gy P o l L (fun u' L''=>∃ p,u'=u p/\L''=Lr p++qA L L0):=by
 intro a w U K Q h4 hf hK;have hr:(execOp a.eval o).run P w=.ok (.enter f (xs.toArray.map a.eval)) w:=by
  simp [execOp,ho,resolve,Act.eval,Deferred.ofValue,invoke,H5.out hB]
 unfold Oper.wp;rw [hr];refine G67 hc h4 h0 h5 h3 (by simp [ha.length]) (fun j u v hu hv=>?_) hK;simp only [Array.getElem?_map,List.getElem?_toArray,Option.map_eq_some_iff] at hv;obtain⟨x,hx,rfl⟩:=hv;obtain⟨h1,h2⟩:=ha.get hx hu;refine⟨?_,h2⟩;rcases h1 with h1 | h1
 .rw [<- h1]; exact hf.ev x
 .rw [<- h1]; exact(hf.ev x).plain

end AA

section rel
variable {W U Z R:Type} {r:R}
def Rel (r:R) (m:Option Prop) (d:Option R):Prop:=d=some r->∃ p:Prop,m=some p/\p
theorem JF {e:R}:Rel r (some (e=r)) (some e):=fun h=>⟨_,rfl,Pc h⟩
theorem xQ {m:Option Prop}:Rel r m none:=fun h=>by cases h
theorem yO {m:Option W} {k:W->Option Prop} {k':W->Option R} (h:∀ x,Rel r (k x) (k' x)):Rel r (bnd m k) (bnd m k'):=by
 cases m with
 | none=>exact xQ
 | some x=>exact h x
theorem sD {c:Bool} {x y:Option Prop} {x' y':Option R} (h1:c=true->Rel r x x') (h2:c=false->Rel r y y'):Rel r (bif c then x else y) (bif c then x' else y'):=by
 cases c with
 | true=>exact h1 rfl
 | false=>exact h2 rfl
theorem J31 {z:Int} {k:Int->Option Prop} {k':Int->Option R} (h:∀ x,Rel r (k x) (k' x)):Rel r (chk z k) (chk z k'):=by
 unfold chk; exact sD (fun _=>h z) (fun _=>xQ)
theorem Q88 {m:(W->Option Prop)->Option Prop} {m':(W->Option R)->Option R} {k:W->Option Prop} {k':W->Option R} (h:∀ K K',(∀ a,Rel r (K a) (K' a))->Rel r (m K) (m' K')) (hk:∀ a,Rel r (k a) (k' a)):Rel r (jp m k) (jp m' k'):=h k k' hk
theorem JG {b:W->Nat->Z->(Z->Option Prop)->Option Prop} {b':W->Nat->Z->(Z->Option R)->Option R} {kx:Z->Option Prop} {kx':Z->Option R}
  (h:∀ x i s nx nx',(∀ s,Rel r (nx s) (nx' s))->Rel r (b x i s nx) (b' x i s nx')) (hk:∀ s,Rel r (kx s) (kx' s)):∀ {xs:List W} {i:Nat} {s:Z},Rel r (each b kx xs i s) (each b' kx' xs i s)
 | [],_,s=>hk s
 | x::_,i,s=>h x i s _ _ (fun _=>JG h hk)
theorem JE {c:W->Bool} {e e':U}:∀ (l:List W) (s:Unit),Ga7 (fun x (_:Unit) nx=>bif c x then lft (some e) else nx ()) (fun _=>some e') l s=some (bif l.any c then e else e')
 | [],_=>rfl
 | x::l,s=>by
  rw [Ga7];cases hc:c x with
  | true=>simp [lft,hc]
  | false=>simp [hc,JE l]
theorem Q19 {c:W->Bool} {e e':R} {l:List W}:Rel r (H8a (fun x (_:Unit) nx=>bif c x then lft (some (e=r)) else nx ()) (fun _=>some (e'=r)) l ()) (Ga7 (fun x (_:Unit) nx=>bif c x then lft (some e) else nx ()) (fun _=>some e') l ()):=fun h=>by
 refine⟨_,rfl,fun q hq=>?_⟩;rw [JE] at h;refine⟨_,JE q (),?_⟩;have h0:q.any c=l.any c:=by
  rw [Bool.eq_iff_iff,List.any_eq_true,List.any_eq_true];exact⟨fun⟨x,h1,h2⟩=>⟨x,hq.mem_iff.1 h1,h2⟩,fun⟨x,h1,h2⟩=>⟨x,hq.mem_iff.2 h1,h2⟩⟩
 rw [h0];have:=Pc h;cases hc:l.any c <;> rw [hc] at this <;> exact this
end rel
end Go.Proofs.YtbgfgnddogfpcaaGreat
