/-
 What slices.Insert and slices.Delete do to a slice of the ca Fresh results that bear a slice which may be written in plac A slice that is laid out in the text,and is written later: Iterators:
-/
import Derived.Test.YtibhpogonkdiaaaGreatLent
import Derived.Lib.Overlaps
import Derived.Lib.AppendZerosOnto
import Derived.Test.YtibhpogonkdiaaaGreatRangeF
namespace Go.Proofs.YtibhpogonkdiaaaGreat
open Go.RowKit

variable {k:Nat} {P:Program}
theorem qE {T E:Nat} (hT:sliceB P T E k=true) (a:Option Addr) (len cap m n:Nat) (lo hi:Option Value) (w:World) (h0:m<=n) (hn:n<=cap)
  (h4:(lo=none∧m=0)∨∃ kd,lo=some (.int kd m)) (h5:(hi=none∧n=len)∨∃ kd,hi=some (.int kd n)) :
  (Instr.sliceAt T (.slice a len cap) lo hi none).run P w=.ok (.slice (if cap=m then a else a.map (·.add (m*k))) (n - m) (cap - m)) w:=by
 obtain⟨h1,h2⟩:=sliceB.out hT;have h3:=Qd h2 w;have hb:∀ (kd:IntKind) (i:Nat) (y:Nat) (c:BoundsCode),i<=y->(Instr.sliceBound (.int kd (i:Int)) y c).run P w=.ok i w:=fun kd i y c hi=>by
  have:(0:Int)<=i∧(i:Int)<=y:=⟨by omega,by omega⟩;simp [Instr.sliceBound,asIntOf,this]
 have hs:(Instr.sliceBounds true len cap lo hi none).run P w=.ok (m,n,cap) w:=by
  rcases h4 with ⟨rfl,rfl⟩ | ⟨kd,rfl⟩ <;> rcases h5 with ⟨rfl,rfl⟩ | ⟨kd',rfl⟩
  ·simp [Instr.sliceBounds]
  ·simp [Instr.sliceBounds,hb _ n cap _ (by omega)]
  ·simp [Instr.sliceBounds,hb _ m n _ h0]
  ·simp [Instr.sliceBounds,hb _ m n _ h0,hb _ n cap _ (by omega)]
 simp [Instr.sliceAt,Instr.slice,run_underlying h1,hs,h3]
theorem J03 {T E:Nat} (hT:sliceB P T E k=true) (a:Option Addr) (len cap m n x:Nat) (k1 k2 k3:IntKind) (w:World) (h0:m<=n) (hn:n<=x) (hx:x<=cap) :
  ∃ v,(Instr.sliceAt T (.slice a len cap) (some (.int k1 m)) (some (.int k2 n)) (some (.int k3 x))).run P w=.ok v w:=by
 obtain⟨h1,h2⟩:=sliceB.out hT;have h3:=Qd h2 w;have hb:∀ (kd:IntKind) (i:Nat) (y:Nat) (c:BoundsCode),i<=y->(Instr.sliceBound (.int kd (i:Int)) y c).run P w=.ok i w:=fun kd i y c hi=>by
  have:(0:Int)<=i∧(i:Int)<=y:=⟨by omega,by omega⟩;simp [Instr.sliceBound,asIntOf,this]
 have hs:(Instr.sliceBounds true len cap (some (.int k1 m)) (some (.int k2 n)) (some (.int k3 x))).run P w=.ok (m,n,x) w:=by
  simp [Instr.sliceBounds,hb _ m n _ h0,hb _ n x _ hn,hb _ x cap _ hx]
 exact⟨_,by simp [Instr.sliceAt,Instr.slice,run_underlying h1,hs,h3]; rfl⟩

section state
variable {N:Cfg} {l:Fr} {L:Loc} {w0 w:World} {β0 β:H2} {L0:Loc} {a:Act}
variable {s:Nat}
theorem Q3.over {u:AV} (h:Q3 a w β L l) (hv:V w β L u (a.tmps.getD s undef)):Q3 a w β L ((s,u)::l):=⟨fun t=>by
 rw [look];cases hb:Nat.beq s t with
 | true=>have:=S2 hb; subst this; exact hv
 | false=>exact h.tmp t⟩
theorem Rr.vcut (hs:Rr N w0 β0 L0 a w β l L) {i ver k m t:Nat} {xs:AG} (h1:look l s=.vsl i ver k 0 m) (hi:lk L i=some (.vec t k ver xs)) :
  ∃ β',Rr N w0 β0 L0 a w β' ((s,.vec i (ver+1) k m)::l) ((i,.vec t k (ver+1) (xs.take m))::L):=by
 have hv:=hs.frame.tmp s;rw [h1] at hv;have hc:=hv.inv_vsl0 hi;obtain⟨_,hm,_⟩:=hv.inv_vsl hi;rw [Nat.zero_add] at hm;obtain⟨o1,o2⟩:=hs.sat.obj i _ hi;have h0:(xs.take m).length=m:=by rw [List.length_take]; omega
 have hk:∀ y∈xs.take m,y.cells.length=k:=fun y hy=>o1 y (List.mem_of_mem_take hy);obtain⟨st,sat⟩:=Rn (w':=w) (t:=t) (k:=k) (AZ:=ver+1) (xs':=xs.take m) (ob':=β.at_ i) hs.sat (.inr ⟨ver,xs,hi,by omega,fun e=>by omega⟩) rfl rfl ⟨rfl,Sf⟩ (Sf) (fun _ _ _=>rfl) (.inr (.inl ⟨by rw [inL,hi]; rfl,rfl⟩));have h2:(a.tmps.getD s undef).oneCell'=true:=by
  rcases hc with ⟨e,_⟩ | ⟨b,cap,e,_⟩ <;> rw [e] <;> rfl
 have sat':=sat ⟨hk,?_⟩
 ·refine⟨_,sat',hs.step.trans st,(hs.frame.step st).over (.vec ⟨t,ver+1,_,by rw [Gm,if_pos rfl],Sf,fun _=>⟨h0.symm,?_⟩⟩ h2),hs.size,hs.base,hs.defers.step st⟩;rcases hc with ⟨e1,e2,e3⟩ | ⟨b,cap,e1,e2,e3,e4,e5⟩
  ·exact .inl ⟨e1,e2,by simpa [upP] using e3⟩
  ·exact .inr ⟨b,cap,e1,by simpa [upP] using e2,e3,e4,e5⟩
 ·rcases o2 with ⟨o2,rfl⟩ | ⟨b',o2,vs,o3,o4,o5⟩
  ·exact .inl ⟨o2,by simp⟩
  ·refine .inr ⟨b',o2,vs,o3,Nat.le_trans (Nat.mul_le_mul_right _ (by rw [h0]; exact hm)) o4,fun j u v hu hv=>?_⟩;rw [gF o1] at hu;have hj:=(Sa hu).1;rw [List.length_take] at hj;rw [Sk,if_pos (by omega)] at hu;exact(o5 j u v hu hv).mono st.AX
theorem Rr.vgive (hs:Rr N w0 β0 L0 a w β l L) {i ver k n t:Nat} {xs:AG} (AZ:Nat) (h1:look l s=.vec i ver k n) (hi:lk L i=some (.vec t k ver xs)) (h7:ver < AZ) :
  ∃ β',Rr N w0 β0 L0 a w β' ((s,.list k xs)::l) ((i,.vec t k AZ [])::L):=by
 have hv:=hs.frame.tmp s;rw [h1] at hv;obtain⟨rfl,hk,h⟩:=fF hs.sat hi hv;obtain⟨st,sat⟩:=Rn (w':=w) (t:=t) (k:=k) (AZ:=AZ) (xs':=[]) (ob':=none) hs.sat (.inr ⟨ver,xs,hi,by omega,fun e=>by omega⟩) rfl rfl ⟨rfl,Sf⟩ (Sf) (fun _ _ _=>rfl) (.inl rfl);have sat':=sat ⟨by simp,.inl ⟨rfl,rfl⟩⟩;refine⟨_,sat',hs.step.trans st,(hs.frame.step st).over ?_,hs.size,hs.base,hs.defers.step st⟩;rcases h with ⟨e,rfl,_⟩ | ⟨b,cap,vs,e,hb,h1,h2,h3,h4,h5⟩
 ·rw [e]; exact .data (.nil (Nat.zero_le _))
 ·rw [e];have h0:∀ j,j < (flat xs).length->j < vs.size:=fun j hj=>by
   rw [Jd hk] at hj;have:=Nat.mul_le_mul_right k h1;omega
  refine .data (.list (fun j=>vs.getD j undef) h1 h2 hk (fun j hj=>⟨⟨(Pz h3).1,hs.sat.apart i b _ (by rw [hi]; rfl) hb,fun id o ho h6=>?_⟩,?_⟩) (fun j u hu=>?_))
  ·rw [Gm] at ho;by_cases e:i=id
   ·subst e; simp [upP] at h6
   ·rw [if_neg e] at ho;have hb'':β.at_ id=some b:=by simpa [upP,Ne.symm e] using h6
    exact absurd (hs.sat.inj i id b (by rw [hi]; rfl) (by rw [ho]; rfl) hb hb'') e
  ·have:=h0 j hj;simp [World.cell?,h3,this]
  ·have hj:=(Sa hu).1;have:=h0 j hj;refine(h5 j u _ hu ?_).mono st.AX;simp [this]
end state

section ghosts
variable {P:Program} {N:Cfg} {Q:Post} {l:Fr} {L:Loc} {ops:Array Oper} {rest:AN} {c:Code}
theorem Q13 (s:Nat) {i ver k m t:Nat} {xs:AG} (h1:look l s=.vsl i ver k 0 m) (hi:lk L i=some (.vec t k ver xs)) (hk:JC P N c Q ((s,.vec i (ver+1) k m)::l) ((i,.vec t k (ver+1) (xs.take m))::L)):JC P N c Q l L:=
 fun n w0 β0 L0 a w β hs=>by
  obtain⟨β',h⟩:=hs.vcut h1 hi;exact hk n w0 β0 L0 a w β' h
theorem Jd6 (s:Nat) {i ver k m t:Nat} {xs:AG} (AZ:Nat) (h1:look l s=.vec i ver k m) (hi:lk L i=some (.vec t k ver xs)) (h0:ver < AZ) (hk:JL P N ops rest Q ((s,.list k xs)::l) ((i,.vec t k AZ [])::L)):JL P N ops rest Q l L:=
 fun n w0 β0 L0 a w β hs=>by
  obtain⟨β',h⟩:=hs.vgive AZ h1 hi h0;exact hk n w0 β0 L0 a w β' h
end ghosts

section ops
variable {P:Program} {N:Cfg} {o:Oper} {l:Fr} {L:Loc} {u:AV}
variable {xs:AG} {E T i k n ver:Nat} {x:Operand}
theorem Ja0 {p q r:Operand} {lo hi mx:Nat} {k1 k2 k3:IntKind} {z1 z2 z3:Int} (ho:o.op=.slice T x (some p) (some q) (some r)) (hT:sliceB P T E k=true) (hx:ev l x=.vec i ver k n) (hL:lk L i=some (.vec E k ver xs))
  (hp:ev l p=.sc (.int k1 z1)) (hq:ev l q=.sc (.int k2 z2)) (hr:ev l r=.sc (.int k3 z3)) (e1:z1=(lo:Int)) (e2:z2=(hi:Int)) (e3:z3=(mx:Int)) (h1:lo<=hi) (h2:hi<=mx) (h3:mx<=xs.length):H7 P o l L (Is .AP L):=
 J1 fun a w β h0 hf=>by
  subst e1 e2 e3;have hv:=hf.ev x;rw [hx] at hv;have v1:=hf.ev p; rw [hp] at v1;have v2:=hf.ev q; rw [hq] at v2;have v3:=hf.ev r; rw [hr] at v3;obtain⟨rfl,a',cap,he,h5,h6,h7⟩:=HM h0 hL hv;obtain⟨v,h4⟩:=J03 (P:=P) hT a' xs.length cap lo hi mx k1 k2 k3 w h1 h2 (by omega);refine⟨v,?_,.AP⟩;simp only [execOp,ho,he,Sem.run_bind,Option.map_some,v1.inv_sc,v2.inv_sc,v3.inv_sc];rw [h4];rfl
theorem H9f {lo hi:Nat} {lop h0:Option Operand} (ho:o.op=.slice T x lop h0 none) (hT:sliceB P T E k=true) (hx:ev l x=.vsl i ver k 0 n) (hL:lk L i=some (.vec E k ver xs))
  (h7:(lop=none∧lo=0)∨∃ kd p,lop=some p∧ev l p=.sc (.int kd lo)) (h8:(h0=none∧hi=n)∨∃ kd p,h0=some p∧ev l p=.sc (.int kd hi)) (h1:lo<=hi) (h2:hi<=xs.length) (h5:Nat.blt 0 k=true) :
  H7 P o l L (Is (.vsl i ver k lo (hi - lo)) L):=
 J1 fun a w β h6 hf=>by
  have h9:0 < k:=by simpa [Nat.blt_eq] using h5
  have hv:=hf.ev x;rw [hx] at hv;obtain⟨_,hn,_⟩:=hv.inv_vsl hL;obtain⟨_,o2⟩:=h6.obj i _ hL;have h3:(lop.map a.eval=none∧lo=0)∨∃ kd,lop.map a.eval=some (.int kd lo):=by
   rcases h7 with ⟨rfl,h⟩ | ⟨kd,p,rfl,hp⟩
   ·exact .inl ⟨rfl,h⟩
   ·have:=hf.ev p; rw [hp] at this;exact .inr ⟨kd,by simp [this.inv_sc]⟩
  have h4:(h0.map a.eval=none∧hi=n)∨∃ kd,h0.map a.eval=some (.int kd hi):=by
   rcases h8 with ⟨rfl,h⟩ | ⟨kd,p,rfl,hp⟩
   ·exact .inl ⟨rfl,h⟩
   ·have:=hf.ev p; rw [hp] at this;exact .inr ⟨kd,by simp [this.inv_sc]⟩
  rcases hv.inv_vsl0 hL with ⟨e1,e2,e3⟩ | ⟨b,cap,e1,e2,e3,e4,e5⟩
  ·have a0:xs=[]:=by
    rcases o2 with ⟨_,o2⟩ | ⟨b',o2,_⟩
    ·exact o2
    ·rw [show β i=β.at_ i from rfl,e3] at o2; cases o2
   subst a0;have:hi=0:=by simpa using h2
   subst this;have:lo=0:=by omega
   subst this;refine⟨.slice none 0 0,?_,.vsl ⟨E,ver,[],hL,Sf,fun _=>⟨by simp,⟨none,0,rfl,Sf,Nat.zero_le _,.inl rfl⟩,fun _=>.inl ⟨rfl,rfl,e3⟩⟩⟩ rfl⟩;simp only [execOp,ho,e1,Sem.run_bind,Option.map_none];rw [qE hT none 0 0 0 0 _ _ w (Sf) (Sf) h3 (h4.imp (fun h=>⟨h.1,rfl⟩) id)];rfl
  ·have a1:xs.length<=cap:=by
    rcases o2 with ⟨_,o2⟩ | ⟨b',o2,vs,o3,o4,_⟩
    ·subst o2; simp
    ·rw [show β i=β.at_ i from rfl,e2] at o2; cases o2;have hs:vs.size=cap*k:=by simpa [World.shape?,o3] using e5
     rw [hs] at o4;exact Nat.le_of_mul_le_mul_right o4 h9
   refine⟨.slice (if cap=lo then some ⟨b,0,none⟩ else (some ⟨b,0,none⟩:Option Addr).map (·.add (lo*k))) (hi - lo) (cap - lo),?_,.vsl ⟨E,ver,xs,hL,Sf,fun _=>⟨by omega,⟨_,_,rfl,by omega,by omega,?_⟩,fun h=>?_⟩⟩ rfl⟩
   ·simp only [execOp,ho,e1,Sem.run_bind,Option.map_none];rw [qE hT (some ⟨b,0,none⟩) n cap lo hi _ _ w h1 (by omega) h3 h4];rfl
   ·by_cases h:hi - lo=0
    ·exact .inl h
    ·refine .inr ⟨b,e2,?_⟩;rw [if_neg (by omega)];simp [Addr.add_lit]
   ·subst h;refine .inr ⟨b,cap,?_,e2,by omega,e4,e5⟩;split <;> simp [Addr.add_lit]
theorem Je3 {k' off:Nat} (ho:o.op=.call { callee:=.builtin .len,args:=#[x],argTypes:=#[T] }) (hT:sliceB P T E k'=true) (hx:ev l x=.vsl i ver k off n) (hL:lk L i=some (.vec E k ver xs)):H7 P o l L (Is (I64 (n:Int)) L):=
 J1 fun a w β h0 hf=>by
  have hv:=hf.ev x;rw [hx] at hv;obtain⟨_,_,a',cap,e1,_⟩:=hv.inv_vsl hL;refine⟨.int .i64 n,?_,.sc⟩;simp [execOp,ho,resolve,invoke,builtin,Builtin.len_,underlying,(sliceB.out hT).1,e1,goInt]

/-! ### Typed elements -/
theorem Ha4 {α:Type} {d:Operand} {m:Nat} {f:α->AV} {xs ys:List α} (ho:o.op=.call { callee:=.builtin .append,args:=#[d,x],argTypes:=#[T,T] }) (hT:sliceB P T E k=true) (hd:ev l d=.vsl i ver k 0 m) (hi:lk L i=some (.vec E k ver (xs.map f))) (hs:xJ L k (ev l x) (ys.map f)) (hc:∀ y,(f y).BJ=true) (h0:m+ys.length<=xs.length) (h1:Nat.blt 0 k=true) :
  H7 P o l L (Is (.vsl i ver k 0 (m+ys.length)) ((i,.vec E k ver ((xs.take m++ys++xs.drop (m+ys.length)).map f))::L)):=by
 have h:=J31 (P:=P) (m:=m) ho hT hd hi hs (fun y hy=>by
  obtain⟨z,_,rfl⟩:=Su.1 hy;exact hc z) (by simpa using h0) h1
 simp only [List.map_append,List.map_take,List.map_drop];grind
end ops

section lits
variable {P:Program} {o:Oper} {l:Fr} {L:Loc}
theorem Je7 (i:Nat) {T E k n ver AZ:Nat} {parts:List (Nat×Operand)} {xs ys:AG} (ho:o.op=.buildSlice T n parts.toArray) (hd:eH l (parts.map (·.2)) xs) (hT:sliceB P T E k=true) (hz:R3 P E k=true)
  (h4:parts.map (·.1)=List.range n) (hc:lR k xs=true) (hn:Nat.ble (n*k) 16777216=true) (b1:Nat.blt 0 k=true) (hi:lk L i=some (.vec E k ver ys)) (b8:ver < AZ):H7 P o l L (Is (.vec i AZ k xs.length) ((i,.vec E k AZ xs)::L)):=by
 intro a w β K Q a8 hf hK;have a9:=hd.length;have b2:n=xs.length:=by
  have:=congrArg List.length h4;simp only [Ss,List.length_range] at this a9;omega
 subst b2;have a2:=kY hc;have a3:∀ x∈xs,x.cells.length=k:=fun x hx=>(a2 x hx).1;have h8:∀ x∈xs,x.BD=true:=by
  intro x hx;obtain⟨j,hj,e⟩:=List.mem_iff_getElem.1 hx;have b3:j < (parts.map (·.2)).length:=by omega
  exact e ▸ (hd.get (j:=j) (x:=(parts.map (·.2))[j]) (u:=xs[j]) (Sb b3) (Sb hj)).2
 have h9:=qO (k:=k) xs 0 (List.replicate (xs.length*k) .AP) (by simp) a2;obtain⟨inf,z,b4,b5,c0⟩:=R3.out hz
 let zs:Array Value:=if xs.length*k=0 then #[] else z.cells
 obtain⟨vs',e1,e2,e3⟩:=nK (w:=w) (β:=β) (L:=L) (qs:=parts.map fun p=>(p.1,a.eval p.2)) (vs:=(Array.range (xs.length*k)).map (zs[· % zs.size]!)) h9 (by
   have:=congrArg List.length h4;simp only [Ss,List.length_range] at this;simp [this]) (fun j p q hp hq=>by
   simp only [Sj,Option.map_eq_some_iff] at hq;obtain⟨y,hy,rfl⟩:=hq;rw [List.getElem?_zip_eq_some] at hp;obtain⟨b6,b7⟩:=hp;have h3:(parts.map (·.1))[j]? = (List.range xs.length)[j]? := by rw [h4]
   simp only [Sj,hy,Option.map_some] at h3;rw [List.range_eq_range',b6] at h3;have:=(hd.get (j:=j) (x:=y.2) (u:=p.2) (by rw [Sj,hy]; rfl) b7);have hv:=(hf.ev y.2).plain;rw [this.1] at hv;exact⟨(Sc h3).symm,hv⟩) (by simp) (fun j u v hu _=>by
   have:=List.eq_of_mem_replicate (Sd hu);subst this; exact .AP)
 have a0:(List.take (0*k) (List.replicate (xs.length*k) AV.AP))++flat xs=flat xs:=by simp
 rw [a0] at e2 e3;have hr:(execOp a.eval o).run P w=.ok (.value (.slice (some ⟨w.heap.size,0,none⟩) xs.length xs.length)) (w.alloc (.cells vs' E)):=by
  have a4:=Qd (sliceB.out hT).2 w;have b9:xs.length*k<=16777216:=by simpa using hn
  have a5:¬ (xs.length*k > 2 ^ 24):=by
   have:(2:Nat) ^ 24=16777216:=by decide
   omega
  have hp:(parts.toArray.map fun(x:Nat×Operand)=>(x.1,a.eval x.2)).toList=parts.map fun p=>(p.1,a.eval p.2):=by simp
  by_cases h0:xs.length*k=0
  ·have h5:zs=#[]:=by simp only [zs,if_pos h0]
   rw [h5] at e1;simp only [execOp,ho,Instr.buildSlice,underlying,(sliceB.out hT).1,run_program,Sem.run_bind,Result.andThen_ok,a4,a5,if_false,Sem.run_pure,if_pos h0,hp,e1,newRow,run_newObj];rfl
  ·have h5:zs=z.cells:=by simp only [zs,if_neg h0]
   rw [h5] at e1;simp only [execOp,ho,Instr.buildSlice,underlying,(sliceB.out hT).1,run_program,Sem.run_bind,Result.andThen_ok,a4,a5,if_false,Sem.run_pure,if_neg h0,zeroValue,typeInfo,b4,b5,hp,e1,newRow,run_newObj];rfl
 unfold Oper.wp;rw [hr];have b0:xs.length<=maxLen:=by
  have h1:xs.length*k<=16777216:=by simpa using hn
  have h2:0 < k:=by simpa [Nat.blt_eq] using b1
  have:xs.length*1<=xs.length*k:=Nat.mul_le_mul_left _ h2;simp only [maxLen]; omega
 have a6:(flat xs).length=xs.length*k:=Jd a3;have a1:∀ b',b' < w.heap.size->(w.alloc (.cells vs' E)).heap[b']? = w.heap[b']? := fun b' h6=>Jv w _ h6;have h7:(w.alloc (.cells vs' E)).heap[w.heap.size]? = some (.cells vs' E (0,0)):=by
  show (w.heap.push (.cells vs' E))[w.heap.size]? = _
  simp
 have a7:(w.alloc (.cells vs' E)).heap.size=w.heap.size+1:=by
  show (w.heap.push (.cells vs' E)).size=_
  simp
 obtain⟨st,sat⟩:=Rn (w':=w.alloc (.cells vs' E)) (t:=E) (k:=k) (AZ:=AZ) (xs':=xs) (ob':=some w.heap.size) a8 (.inr ⟨ver,ys,hi,by omega,fun e=>by omega⟩) rfl rfl ⟨rfl,Sf⟩ (by rw [a7]; omega) (fun b' h6 _=>a1 b' h6) (.inr (.inr ⟨_,rfl,Sf,by rw [a7]; omega⟩));refine hK _ _ _ _ _ ⟨rfl,rfl⟩ (sat ⟨a3,.inr ⟨_,rfl,vs',h7,by rw [e2,a6]; exact Sf,fun j u v hu hv=>?_⟩⟩) st (.vec ⟨E,AZ,xs,by rw [Gm,if_pos rfl],Sf,fun _=>⟨rfl,.inr ⟨w.heap.size,xs.length,rfl,by simp [upP],Sf,b0,by unfold World.shape?; rw [h7]; simp only [e2,a6]⟩⟩⟩ rfl);exact((e3 j u v hu hv).toD (pL h8 u (Sd hu))).mono st.AX
theorem Ja5 {α:Type} (i:Nat) {T E k n ver AZ:Nat} {parts:List (Nat×Operand)} {f:α->AV} (xs:List α) {ys:AG} (ho:o.op=.buildSlice T n parts.toArray) (hd:eH l (parts.map (·.2)) (xs.map f)) (hT:sliceB P T E k=true) (hz:R3 P E k=true)
  (h1:parts.map (·.1)=List.range n) (hc:lR k (xs.map f)=true) (hn:Nat.ble (n*k) 16777216=true) (h2:Nat.blt 0 k=true) (hi:lk L i=some (.vec E k ver ys)) (h0:ver < AZ):H7 P o l L (Is (.vec i AZ k xs.length) ((i,.vec E k AZ (xs.map f))::L)):=by
 have h:=Je7 (P:=P) i ho hd hT hz h1 hc hn h2 hi h0;grind
end lits

theorem Rr.vgiveB {N:Cfg} {l:Fr} {L:Loc} {w0 w:World} {β0 β:H2} {L0:Loc} {a:Act} (hs:Rr N w0 β0 L0 a w β l L) {i ver n t t2 bx j:Nat} {cs:AG} {xs:AG} (AZ:Nat) (h0:lk L bx=some (.box t2 cs)) (hj:cs[j]? = some (.vec i ver k n)) (hi:lk L i=some (.vec t k ver xs)) (b5:ver < AZ) :
  ∃ β',Rr N w0 β0 L0 a w β' l ((bx,.box t2 (cs.set j (.list k xs)))::(i,.vec t k AZ [])::L):=by
 have h9:i≠bx:=fun e=>by subst e; rw [hi] at h0; cases h0
 have a7:j < cs.length:=(Sa hj).1;obtain⟨b,hb,vs,a8,b6,a9⟩:=hs.sat.obj bx _ h0;have a0:j < vs.size:=by omega
 have hv:=a9 j _ vs[j] hj (by simp [a0]);obtain⟨rfl,hk,h⟩:=fF hs.sat hi hv;obtain⟨st,sat⟩:=Rn (w':=w) (t:=t) (k:=k) (AZ:=AZ) (xs':=[]) (ob':=none) hs.sat (.inr ⟨ver,xs,hi,by omega,fun e=>by omega⟩) rfl rfl ⟨rfl,Sf⟩ (Sf) (fun _ _ _=>rfl) (.inl rfl);have sat':=sat ⟨by simp,.inl ⟨rfl,rfl⟩⟩;have b0:Rr N w0 β0 L0 a w (upP β i none) l ((i,.vec t k AZ [])::L):=⟨sat',hs.step.trans st,hs.frame.step st,hs.size,hs.base,hs.defers.step st⟩;have b1:β.at_ bx=some b:=hb;refine⟨_,b0.redescribeB (i:=bx) (t:=t2) (cs:=cs) (by rw [Gm,if_neg h9]; exact h0) (by simp) fun vs' q u v h8 a5 b7 hu h7=>?_⟩;by_cases e:j=q
 ·subst e;rw [List.getElem?_set_self a7] at hu;cases hu;obtain⟨b',h6,a1⟩:=h8;have h6:(upP β i none).at_ bx=some b':=h6;have b3:(upP β i none).at_ bx=β.at_ bx:=by simp [upP,Ne.symm h9]
  rw [b3,b1] at h6;cases h6;rw [a8] at a1;cases a1;have b4:v=vs[j]:=by rw [Array.getElem?_eq_getElem a0] at h7; exact(Sc h7).symm
  subst b4;rcases h with ⟨e,rfl,_⟩ | ⟨b2,cap,vs2,e,a2,h1,h2,h3,h4,h5⟩
  ·rw [e]; exact .data (.nil (Nat.zero_le _))
  ·rw [e];have a3:∀ q,q < (flat xs).length->q < vs2.size:=fun q hq=>by
    rw [Jd hk] at hq;have:=Nat.mul_le_mul_right k h1;omega
   refine .data (.list (fun q=>vs2.getD q undef) h1 h2 hk (fun q hq=>⟨⟨(Pz h3).1,hs.sat.apart i b2 _ (by rw [hi]; rfl) a2,fun id o ho a4=>?_⟩,?_⟩) (fun q u hu=>?_))
   ·rw [Gm] at ho;by_cases e:i=id
    ·subst e; simp [upP] at a4
    ·rw [if_neg e] at ho;have a6:β.at_ id=some b2:=by simpa [upP,Ne.symm e] using a4
     exact absurd (hs.sat.inj i id b2 (by rw [hi]; rfl) (by rw [ho]; rfl) a2 a6) e
   ·have:=a3 q hq;simp [World.cell?,h3,this]
   ·have hq:=(Sa hu).1;have:=a3 q hq;refine(h5 q u _ hu ?_).mono st.AX;simp [this]
 ·rw [List.getElem?_set_ne e] at hu;exact a5 q u v hu h7
theorem J9a {N:Cfg} {c:Code} {Q:Post} {l:Fr} {L:Loc} (bx j AZ:Nat) {i ver n t t2:Nat} {cs cs':AG} {xs:AG} (h1:lk L bx=some (.box t2 cs)) (hj:cs[j]? = some (.vec i ver k n)) (hi:lk L i=some (.vec t k ver xs)) (h0:ver < AZ) (h2:cs.set j (.list k xs)=cs')
  (hk:JC P N c Q l ((bx,.box t2 cs')::(i,.vec t k AZ [])::L)):JC P N c Q l L:=fun n w0 β0 L0 a w β hs=>by
 subst h2;obtain⟨β',h⟩:=hs.vgiveB AZ h1 hj hi h0;exact hk n w0 β0 L0 a w β' h
section lits
variable {P:Program} {o:Oper} {l:Fr} {L:Loc}
theorem Ja4 (i:Nat) {T E k n AZ:Nat} {parts:List (Nat×Operand)} {xs:AG} (ho:o.op=.buildSlice T n parts.toArray) (hd:eH l (parts.map (·.2)) xs) (hT:sliceB P T E k=true) (hz:R3 P E k=true)
  (h4:parts.map (·.1)=List.range n) (hc:lR k xs=true) (hn:Nat.ble (n*k) 16777216=true) (b1:Nat.blt 0 k=true) (hi:lk L i=none):H7 P o l L (Is (.vec i AZ k xs.length) ((i,.vec E k AZ xs)::L)):=by
 intro a w β K Q a8 hf hK;have a9:=hd.length;have b2:n=xs.length:=by
  have:=congrArg List.length h4;simp only [Ss,List.length_range] at this a9;omega
 subst b2;have a2:=kY hc;have a3:∀ x∈xs,x.cells.length=k:=fun x hx=>(a2 x hx).1;have h8:∀ x∈xs,x.BD=true:=by
  intro x hx;obtain⟨j,hj,e⟩:=List.mem_iff_getElem.1 hx;have b3:j < (parts.map (·.2)).length:=by omega
  exact e ▸ (hd.get (j:=j) (x:=(parts.map (·.2))[j]) (u:=xs[j]) (Sb b3) (Sb hj)).2
 have h9:=qO (k:=k) xs 0 (List.replicate (xs.length*k) .AP) (by simp) a2;obtain⟨inf,z,b4,b5,b9⟩:=R3.out hz
 let zs:Array Value:=if xs.length*k=0 then #[] else z.cells
 obtain⟨vs',e1,e2,e3⟩:=nK (w:=w) (β:=β) (L:=L) (qs:=parts.map fun p=>(p.1,a.eval p.2)) (vs:=(Array.range (xs.length*k)).map (zs[· % zs.size]!)) h9 (by
   have:=congrArg List.length h4;simp only [Ss,List.length_range] at this;simp [this]) (fun j p q hp hq=>by
   simp only [Sj,Option.map_eq_some_iff] at hq;obtain⟨y,hy,rfl⟩:=hq;rw [List.getElem?_zip_eq_some] at hp;obtain⟨b6,b7⟩:=hp;have h3:(parts.map (·.1))[j]? = (List.range xs.length)[j]? := by rw [h4]
   simp only [Sj,hy,Option.map_some] at h3;rw [List.range_eq_range',b6] at h3;have:=(hd.get (j:=j) (x:=y.2) (u:=p.2) (by rw [Sj,hy]; rfl) b7);have hv:=(hf.ev y.2).plain;rw [this.1] at hv;exact⟨(Sc h3).symm,hv⟩) (by simp) (fun j u v hu _=>by
   have:=List.eq_of_mem_replicate (Sd hu);subst this; exact .AP)
 have a0:(List.take (0*k) (List.replicate (xs.length*k) AV.AP))++flat xs=flat xs:=by simp
 rw [a0] at e2 e3;have hr:(execOp a.eval o).run P w=.ok (.value (.slice (some ⟨w.heap.size,0,none⟩) xs.length xs.length)) (w.alloc (.cells vs' E)):=by
  have a4:=Qd (sliceB.out hT).2 w;have b8:xs.length*k<=16777216:=by simpa using hn
  have a5:¬ (xs.length*k > 2 ^ 24):=by
   have:(2:Nat) ^ 24=16777216:=by decide
   omega
  have hp:(parts.toArray.map fun(x:Nat×Operand)=>(x.1,a.eval x.2)).toList=parts.map fun p=>(p.1,a.eval p.2):=by simp
  by_cases h0:xs.length*k=0
  ·have h5:zs=#[]:=by simp only [zs,if_pos h0]
   rw [h5] at e1;simp only [execOp,ho,Instr.buildSlice,underlying,(sliceB.out hT).1,run_program,Sem.run_bind,Result.andThen_ok,a4,a5,if_false,Sem.run_pure,if_pos h0,hp,e1,newRow,run_newObj];rfl
  ·have h5:zs=z.cells:=by simp only [zs,if_neg h0]
   rw [h5] at e1;simp only [execOp,ho,Instr.buildSlice,underlying,(sliceB.out hT).1,run_program,Sem.run_bind,Result.andThen_ok,a4,a5,if_false,Sem.run_pure,if_neg h0,zeroValue,typeInfo,b4,b5,hp,e1,newRow,run_newObj];rfl
 unfold Oper.wp;rw [hr];have b0:xs.length<=maxLen:=by
  have h1:xs.length*k<=16777216:=by simpa using hn
  have h2:0 < k:=by simpa [Nat.blt_eq] using b1
  have:xs.length*1<=xs.length*k:=Nat.mul_le_mul_left _ h2;simp only [maxLen]; omega
 have a6:(flat xs).length=xs.length*k:=Jd a3;have a1:∀ b',b' < w.heap.size->(w.alloc (.cells vs' E)).heap[b']? = w.heap[b']? := fun b' h6=>Jv w _ h6;have h7:(w.alloc (.cells vs' E)).heap[w.heap.size]? = some (.cells vs' E (0,0)):=by
  show (w.heap.push (.cells vs' E))[w.heap.size]? = _
  simp
 have a7:(w.alloc (.cells vs' E)).heap.size=w.heap.size+1:=by
  show (w.heap.push (.cells vs' E)).size=_
  simp
 obtain⟨st,sat⟩:=Rn (w':=w.alloc (.cells vs' E)) (t:=E) (k:=k) (AZ:=AZ) (xs':=xs) (ob':=some w.heap.size) a8 (.inl hi) rfl rfl ⟨rfl,Sf⟩ (by rw [a7]; omega) (fun b' h6 _=>a1 b' h6) (.inr (.inr ⟨_,rfl,Sf,by rw [a7]; omega⟩));refine hK _ _ _ _ _ ⟨rfl,rfl⟩ (sat ⟨a3,.inr ⟨_,rfl,vs',h7,by rw [e2,a6]; exact Sf,fun j u v hu hv=>?_⟩⟩) st (.vec ⟨E,AZ,xs,by rw [Gm,if_pos rfl],Sf,fun _=>⟨rfl,.inr ⟨w.heap.size,xs.length,rfl,by simp [upP],Sf,b0,by unfold World.shape?; rw [h7]; simp only [e2,a6]⟩⟩⟩ rfl);exact((e3 j u v hu hv).toD (pL h8 u (Sd hu))).mono st.AX
theorem G98 {α:Type} (i:Nat) {T E k n AZ:Nat} {parts:List (Nat×Operand)} {f:α->AV} (xs:List α) (ho:o.op=.buildSlice T n parts.toArray) (hd:eH l (parts.map (·.2)) (xs.map f)) (hT:sliceB P T E k=true) (hz:R3 P E k=true)
  (h0:parts.map (·.1)=List.range n) (hc:lR k (xs.map f)=true) (hn:Nat.ble (n*k) 16777216=true) (h1:Nat.blt 0 k=true) (hi:lk L i=none):H7 P o l L (Is (.vec i AZ k xs.length) ((i,.vec E k AZ (xs.map f))::L)):=by
 have h:=Ja4 (P:=P) (AZ:=AZ) i ho hd hT hz h0 hc hn h1 hi;grind
end lits
set_option linter.unusedSimpArgs false

section code
variable {κ:Type} {E:dB κ} {P:Program} {N:Cfg} {Q:iD κ} {l:Fr} {L:Loc} {k:κ}
theorem Q0d {x y:Code} {X:Type} (I:X->Prop) (F:X->Fr) (M:X->Loc) (kf:X->κ)
  (h1:∀ K:Fr->Loc->κ->Prop,(∀ l L k' v,I v->Fits N.base l L (F v) (M v)->k'=kf v->K l L k')->JI E P N x (Q.seq K) l L k)
  (h2:∀ v,I v->JI E P N y Q (F v) (M v) (kf v)):JI E P N (.seq x y) Q l L k:=
 R8 fun K hK=>h1 K fun l L k' v hv hf hk=>hK l L k' (J4e hf (by subst hk; exact h2 v hv))
end code

section ops
variable {κ:Type} {E:dB κ} {P:Program} {N:Cfg} {ops:Array Oper} {o:Oper} {rest:AN} {Q:iD κ} {l:Fr} {L L':Loc} {u:AV} {k:κ}
end ops

/-! ### A slice of one's own that is begun anew -/
section mem
variable {P:Program} {o:Oper} {l:Fr} {L:Loc}
end mem
end Go.Proofs.YtibhpogonkdiaaaGreat
