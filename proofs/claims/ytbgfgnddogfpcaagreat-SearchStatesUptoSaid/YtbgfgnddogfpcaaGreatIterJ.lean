/-
 A slice of slices in blocks of their own that was written in What slices.Insert and slices.Delete do to a slice of the ca A slice of the call's own is given away,aQ data that lies al Fresh results that bear a slice which may be written in plac A slice that is laid out in the text,and is written later: Iterators:
-/
import Derived.Test.YtbgfgnddogfpcaaGreatSortB
import Derived.Lib.Overlaps
import Derived.Lib.AppendZerosOnto
import Derived.Test.YtbgfgnddogfpcaaGreatRangeF
namespace Go.Proofs.YtbgfgnddogfpcaaGreat
open Go.RowKit

variable {k:Nat}
theorem V.vfrzV {w:World} {U:Gx} {L L':Loc} {i ver t0 n t:Nat} {W:Type} {g:W->AV} {es:List (Option (Nat×Nat)×W)} {v:Value} (h5:Sat w U L) (hi:lk L i=some (.vec t0 1 ver (es.map fun e=>.blk e.1 t k (g e.2)))) (a6:tV L L') (b3:lk L' i=none)
  (h:V w U L (.vec i ver 1 n) v) (hn:(jK (es.map (·.1))).Nodup) (hg:∀ x,(g x).cells=[g x]):V w U L' (.frz t k (.list 1 (es.map fun e=>g e.2))) v:=by
 have mono:∀ b j,Hs w U L b j->Hs w U L' b j/\Qf w b j=Qf w b j:=fun b j hs=>⟨a6.AX hs,rfl⟩;have b4:∀ xs:List (Option (Nat×Nat)×W),flat (xs.map fun e=>AV.blk e.1 t k (g e.2))=xs.map fun e=>AV.blk e.1 t k (g e.2):=fun xs=>by
  induction xs with
  | nil=>rfl
  | cons y r ih=>simp [flat,AV.cells,ih]
 have a7:∀ xs:List (Option (Nat×Nat)×W),flat (xs.map fun e=>g e.2)=xs.map fun e=>g e.2:=fun xs=>by
  induction xs with
  | nil=>rfl
  | cons y r ih=>simp [flat,hg,ih]
 obtain⟨rfl,_,h⟩:=cX h5 hi h;rcases h with ⟨rfl,b5,_⟩ | ⟨b0,cap,cur,rfl,h6,a2,a8,h0,b6,hD⟩
 .have he:es=[]:=by simpa using b5
  subst he;exact .data (.frz ⟨[],[],rfl,fun j o x ho=>by simp at ho,.nil,.inl ⟨rfl,rfl⟩⟩ (.nil (Nat.zero_le _)))
 .have h3:∀ j,Hs w U L' b0 j:=fun j=>⟨(Nz h0).1,h5.apart i b0 j (by rw [hi]; rfl) h6,fun id o ho b7=>by
   obtain⟨o0,b8,_⟩:=a6.like id o ho;have:=h5.inj i id b0 (by rw [hi]; rfl) (by rw [b8]; rfl) h6 b7;subst this;rw [b3] at ho; cases ho⟩
  have b9:(es.map fun e=>AV.blk e.1 t k (g e.2)).length=es.length:=Pr ..;rw [b9] at a2 ⊢;have b2:es.length<=cur.size:=by rw [b6]; omega
  have a3:∀ (m:Nat) e,es[m]? = some e->∃ x,cur[m]? = some x/\D w (Hs w U L) (.blk e.1 t k (g e.2)) x:=fun m e hm=>by
   have c0:m < es.length:=(Pa hm).1;have a9:m < cur.size:=by omega
   have hu:(flat (es.map fun e=>AV.blk e.1 t k (g e.2)))[m]? = some (AV.blk e.1 t k (g e.2)):=by
    rw [b4,Pj,hm]; rfl
   exact⟨cur[m],by simp [a9],hD m _ _ hu (by simp [a9])⟩
  have h8:(cur.toList.take es.length).length=es.length:=by rw [List.length_take,Array.length_toList]; exact Nat.min_eq_left b2
  have b1:∀ j,j < es.length->cur[j]? = (cur.toList.take es.length)[j]? := fun j hj=>by
   rw [Pk,if_pos hj,Array.getElem?_toList]
  refine .data (.frz ⟨cur.toList.take es.length,es.map (·.1),by rw [Pr,h8],fun j o x ho hx=>?_,hn,.inr ⟨b0,cap,cur,t0,(0,0),by rw [h8],by rw [h8]; exact a2,a8,h0,fun j hj=>b1 j (by rw [h8] at hj; exact hj),h3,fun hm=>?_⟩⟩ ?_)
  .rw [Pj] at ho;obtain⟨e,he,rfl⟩:=Option.map_eq_some_iff.1 ho;obtain⟨x',h9,h4⟩:=a3 j e he;have hj:j < es.length:=(Pa he).1;rw [<- b1 j hj,h9] at hx;cases hx;cases h4 with
   | blk a4 _=>exact a4.mono mono
  .unfold jK at hm;obtain⟨o,ho,a0⟩:=List.mem_filterMap.1 hm;obtain⟨e,he,rfl⟩:=Pt.1 ho;obtain⟨m,hm⟩:=List.mem_iff_getElem?.1 he;obtain⟨x',_,h4⟩:=a3 m e hm;cases h4 with
   | blk a4 _=>
    rcases a4 with ⟨h1,_⟩ | ⟨b',c,n,vs,h1,_,_,_,_,_,h7⟩
    .rw [h1] at a0; cases a0
    .rw [h1] at a0;cases a0;exact(h7 0).kept i _ hi h6
  .have a5:(es.map fun e=>g e.2).length=es.length:=Pr ..;have:=D.list (w:=w) (S:=Hs w U L') (k:=1) (b:=b0) (off:=0) (cap:=cap) (xs:=es.map fun e=>g e.2) (fun j=>cur.getD j undef) (by show (es.map fun e=>g e.2).length<=cap; rw [a5]; exact a2) a8 (fun x hx=>by
    obtain⟨e,_,rfl⟩:=Pt.1 hx;rw [hg]; rfl) (fun j hj=>⟨h3 _,by
    rw [a7] at hj;rw [a5] at hj;rw [Nat.zero_add];have a1:j < cur.size:=by omega
    simp [World.cell?,h0,a1]⟩) (fun j u hu=>by
    rw [a7,Pj] at hu;obtain⟨e,he,rfl⟩:=Option.map_eq_some_iff.1 hu;obtain⟨x',h9,h4⟩:=a3 j e he;have a1:j < cur.size:=(Nz h9).1;have:cur.getD j undef=x':=by
     have h2:cur[j]? = some cur[j]:=by simp [a1]
     rw [h9] at h2;cases h2;simp [Array.getD,a1]
    rw [this];cases h4 with
    | blk _ h=>exact h.mono mono)
   rw [a5] at this;exact this
section
variable {P:Program} {N:Cfg} {Q:Post} {l:Fr} {L:Loc}
theorem Jd0 {c:Code} (tt:Nat) (l1:Fr) (L':Loc) (i:Nat) {t0 ver n t k:Nat} {W:Type} {g:W->AV} {es:List (Option (Nat×Nat)×W)} (hi:lk L i=some (.vec t0 1 ver (es.map fun e=>.blk e.1 t k (g e.2)))) (ht:look l tt=.vec i ver 1 n)
  (h2:lk L' i=none) (hl:aX (fun j=>(lk L' j).isSome) L L') (hb:allIn L' N.base=true) (hf:lE (fun j=>(lk L' j).isSome) l l1) (hn:(jK (es.map (·.1))).Nodup) (hg:∀ x,(g x).cells=[g x])
  (hk:JC P N c Q ((tt,.frz t k (.list 1 (es.map fun e=>g e.2)))::l1) L'):JC P N c Q l L:=fun m w0 U0 L0 a w U hs=>by
 have h0:Fits N.base l L l1 L':=⟨hf,hl,hb⟩;have h1:=hs.fits h0;have hv:=hs.frame.tmp tt;rw [ht] at hv;have g1:=V.vfrzV hs.sat hi h0.drop h2 hv hn hg;refine hk m w0 U0 L0 a w U ⟨h1.sat,h1.step,⟨fun t'=>?_⟩,h1.size,h1.base,h1.defers⟩;by_cases e:tt=t'
 .subst e;have:look ((tt,AV.frz t k (.list 1 (es.map fun e=>g e.2)))::l1) tt=.frz t k (.list 1 (es.map fun e=>g e.2)):=by simp [look]
  rw [this];exact g1
 .have:look ((tt,AV.frz t k (.list 1 (es.map fun e=>g e.2)))::l1) t'=look l1 t':=by
   have h3:Nat.beq tt t'=false:=by
    cases hq:Nat.beq tt t' with
    | false=>rfl
    | true=>exact(e (P2 hq)).elim
   simp [look,h3]
  rw [this];exact h1.frame.tmp t'
theorem J14 {w:World} {U:Gx} {i T ver t k:Nat} {W:Type} {g:W->AV} {es:List (Option (Nat×Nat)×W)} (hs:Sat w U L) (h:lk L i=some (.vec T 1 ver (es.map fun e=>.blk e.1 t k (g e.2)))) :
  ∀ b∈jK (es.map (·.1)),∀ j,Hs w U L b j:=by
 obtain⟨_,h0⟩:=hs.obj i _ h;intro b hb j;unfold jK at hb;obtain⟨o,ho,h2⟩:=List.mem_filterMap.1 hb;obtain⟨e,he,rfl⟩:=Pt.1 ho;obtain⟨m,hm⟩:=List.mem_iff_getElem?.1 he;have h3:∀ xs:List (Option (Nat×Nat)×W),flat (xs.map fun e=>AV.blk e.1 t k (g e.2))=xs.map fun e=>AV.blk e.1 t k (g e.2):=fun xs=>by
  induction xs with
  | nil=>rfl
  | cons y r ih=>simp [flat,AV.cells,ih]
 rcases h0 with ⟨_,hx⟩ | ⟨b0,_,vs,_,h4,hv⟩
 .have:es=[]:=by simpa using hx
  subst this; cases hm
 .rw [Pr] at h4;have h8:m < es.length:=(Pa hm).1;have h5:m < vs.size:=by omega
  have hu:(flat (es.map fun e=>AV.blk e.1 t k (g e.2)))[m]? = some (AV.blk e.1 t k (g e.2)):=by
   rw [h3,Pj,hm]; rfl
  have:=hv m _ vs[m] hu (by simp [h5]);cases this with
  | blk h6 _=>
   rcases h6 with ⟨h1,_⟩ | ⟨b',c,n,vs,h1,_,_,_,_,_,h7⟩
   .rw [h1] at h2; cases h2
   .rw [h1] at h2;cases h2;exact h7 j
end

variable {P:Program}
theorem pW {T E:Nat} (hT:sliceB P T E k=true) (a:Option Addr) (len cap m n:Nat) (lo hi:Option Value) (w:World) (h0:m<=n) (hn:n<=cap)
  (h4:(lo=none/\m=0)\/∃ kd,lo=some (.int kd m)) (h5:(hi=none/\n=len)\/∃ kd,hi=some (.int kd n)) :
  (Instr.sliceAt T (.slice a len cap) lo hi none).run P w=.ok (.slice (if cap=m then a else a.map (·.add (m*k))) (n - m) (cap - m)) w:=by
 obtain⟨h1,h2⟩:=sliceB.out hT;have h3:=Q8 h2 w;have hb:∀ (kd:IntKind) (i:Nat) (y:Nat) (c:BoundsCode),i<=y->(Instr.sliceBound (.int kd (i:Int)) y c).run P w=.ok i w:=fun kd i y c hi=>by
  have:(0:Int)<=i/\(i:Int)<=y:=⟨by omega,by omega⟩;simp [Instr.sliceBound,asIntOf,this]
 have hs:(Instr.sliceBounds true len cap lo hi none).run P w=.ok (m,n,cap) w:=by
  rcases h4 with ⟨rfl,rfl⟩ | ⟨kd,rfl⟩ <;> rcases h5 with ⟨rfl,rfl⟩ | ⟨kd',rfl⟩
  .simp [Instr.sliceBounds]
  .simp [Instr.sliceBounds,hb _ n cap _ (by omega)]
  .simp [Instr.sliceBounds,hb _ m n _ h0]
  .simp [Instr.sliceBounds,hb _ m n _ h0,hb _ n cap _ (by omega)]
 simp [Instr.sliceAt,Instr.slice,run_underlying h1,hs,h3]
theorem J00 {T E:Nat} (hT:sliceB P T E k=true) (a:Option Addr) (len cap m n x:Nat) (k1 k2 k3:IntKind) (w:World) (h0:m<=n) (hn:n<=x) (hx:x<=cap) :
  ∃ v,(Instr.sliceAt T (.slice a len cap) (some (.int k1 m)) (some (.int k2 n)) (some (.int k3 x))).run P w=.ok v w:=by
 obtain⟨h1,h2⟩:=sliceB.out hT;have h3:=Q8 h2 w;have hb:∀ (kd:IntKind) (i:Nat) (y:Nat) (c:BoundsCode),i<=y->(Instr.sliceBound (.int kd (i:Int)) y c).run P w=.ok i w:=fun kd i y c hi=>by
  have:(0:Int)<=i/\(i:Int)<=y:=⟨by omega,by omega⟩;simp [Instr.sliceBound,asIntOf,this]
 have hs:(Instr.sliceBounds true len cap (some (.int k1 m)) (some (.int k2 n)) (some (.int k3 x))).run P w=.ok (m,n,x) w:=by
  simp [Instr.sliceBounds,hb _ m n _ h0,hb _ n x _ hn,hb _ x cap _ hx]
 exact⟨_,by simp [Instr.sliceAt,Instr.slice,run_underlying h1,hs,h3]; rfl⟩

section state
variable {N:Cfg} {l:Fr} {L:Loc} {w0 w:World} {U0 U:Gx} {L0:Loc} {a:Act}
theorem Jq.over {s:Nat} {u:AV} (h:Jq a w U L l) (hv:V w U L u (a.tmps.getD s undef)):Jq a w U L ((s,u)::l):=⟨fun t=>by
 rw [look];cases hb:Nat.beq s t with
 | true=>have:=P2 hb; subst this; exact hv
 | false=>exact h.tmp t⟩
theorem Qn.vcut (hs:Qn N w0 U0 L0 a w U l L) {s i ver k m t:Nat} {xs:AD} (h1:look l s=.vsl i ver k 0 m) (hi:lk L i=some (.vec t k ver xs)) :
  ∃ U',Qn N w0 U0 L0 a w U' ((s,.vec i (ver+1) k m)::l) ((i,.vec t k (ver+1) (xs.take m))::L):=by
 have hv:=hs.frame.tmp s;rw [h1] at hv;have hc:=hv.inv_vsl0 hi;obtain⟨_,hm,_⟩:=hv.inv_vsl hi;rw [Nat.zero_add] at hm;obtain⟨o1,o2⟩:=hs.sat.obj i _ hi;have h0:(xs.take m).length=m:=by rw [List.length_take]; omega
 have hk:∀ y∈xs.take m,y.cells.length=k:=fun y hy=>o1 y (List.mem_of_mem_take hy);obtain⟨st,sat⟩:=R0 (w':=w) (t:=t) (k:=k) (BA:=ver+1) (xs':=xs.take m) (ob':=U.at_ i) hs.sat (.inr ⟨ver,xs,hi,by omega,fun e=>by omega⟩) rfl rfl ⟨rfl,Pf⟩ (Pf) (fun _ _ _=>rfl) (.inr (.inl ⟨by rw [inL,hi]; rfl,rfl⟩));have h2:(a.tmps.getD s undef).oneCell'=true:=by
  rcases hc with ⟨e,_⟩ | ⟨b,cap,e,_⟩ <;> rw [e] <;> rfl
 have sat':=sat ⟨hk,?_⟩
 .refine⟨_,sat',hs.step.trans st,(hs.frame.step st).over (.vec ⟨t,ver+1,_,by rw [Ge,if_pos rfl],Pf,fun _=>⟨h0.symm,?_⟩⟩ h2),hs.size,hs.base,hs.defers.step st⟩;rcases hc with ⟨e1,e2,e3⟩ | ⟨b,cap,e1,e2,e3,e4,e5⟩
  .exact .inl ⟨e1,e2,by simpa [upP] using e3⟩
  .exact .inr ⟨b,cap,e1,by simpa [upP] using e2,e3,e4,e5⟩
 .rcases o2 with ⟨o2,rfl⟩ | ⟨b',o2,vs,o3,o4,o5⟩
  .exact .inl ⟨o2,by simp⟩
  .refine .inr ⟨b',o2,vs,o3,Nat.le_trans (Nat.mul_le_mul_right _ (by rw [h0]; exact hm)) o4,fun j u v hu hv=>?_⟩;rw [gN o1] at hu;have hj:=(Pa hu).1;rw [List.length_take] at hj;rw [Pk,if_pos (by omega)] at hu;exact(o5 j u v hu hv).mono st.AX
end state

section ghosts
variable {P:Program} {N:Cfg} {Q:Post} {l:Fr} {L:Loc} {ops:Array Oper} {rest:AM} {c:Code}
theorem Q41 (s:Nat) {i ver k m t:Nat} {xs:AD} (h1:look l s=.vsl i ver k 0 m) (hi:lk L i=some (.vec t k ver xs)) (hk:JC P N c Q ((s,.vec i (ver+1) k m)::l) ((i,.vec t k (ver+1) (xs.take m))::L)):JC P N c Q l L:=
 fun n w0 U0 L0 a w U hs=>by
  obtain⟨U',h⟩:=hs.vcut h1 hi;exact hk n w0 U0 L0 a w U' h
end ghosts

section ops
variable {P:Program} {N:Cfg} {o:Oper} {l:Fr} {L:Loc} {u:AV}
variable {xs:AD} {E T i k n ver:Nat} {x:Operand}
theorem J91 {p q r:Operand} {lo hi mx:Nat} {k1 k2 k3:IntKind} {z1 z2 z3:Int} (ho:o.op=.slice T x (some p) (some q) (some r)) (hT:sliceB P T E k=true) (hx:ev l x=.vec i ver k n) (hL:lk L i=some (.vec E k ver xs))
  (hp:ev l p=.sc (.int k1 z1)) (hq:ev l q=.sc (.int k2 z2)) (hr:ev l r=.sc (.int k3 z3)) (e1:z1=(lo:Int)) (e2:z2=(hi:Int)) (e3:z3=(mx:Int)) (h1:lo<=hi) (h2:hi<=mx) (h3:mx<=xs.length):Gy P o l L (Is .AL L):=
 Hj fun a w U h0 hf=>by
  subst e1 e2 e3;have hv:=hf.ev x;rw [hx] at hv;have v1:=hf.ev p; rw [hp] at v1;have v2:=hf.ev q; rw [hq] at v2;have v3:=hf.ev r; rw [hr] at v3;obtain⟨rfl,a',cap,he,h5,h6,h7⟩:=HT h0 hL hv;obtain⟨v,h4⟩:=J00 (P:=P) hT a' xs.length cap lo hi mx k1 k2 k3 w h1 h2 (by omega);refine⟨v,?_,.AL⟩;simp only [execOp,ho,he,Sem.run_bind,Option.map_some,v1.inv_sc,v2.inv_sc,v3.inv_sc];rw [h4];rfl
theorem Ha3 {lo hi:Nat} {lop h0:Option Operand} (ho:o.op=.slice T x lop h0 none) (hT:sliceB P T E k=true) (hx:ev l x=.vsl i ver k 0 n) (hL:lk L i=some (.vec E k ver xs))
  (h7:(lop=none/\lo=0)\/∃ kd p,lop=some p/\ev l p=.sc (.int kd lo)) (h8:(h0=none/\hi=n)\/∃ kd p,h0=some p/\ev l p=.sc (.int kd hi)) (h1:lo<=hi) (h2:hi<=xs.length) (h5:Nat.blt 0 k=true) :
  Gy P o l L (Is (.vsl i ver k lo (hi - lo)) L):=
 Hj fun a w U h6 hf=>by
  have h9:0 < k:=by simpa [Nat.blt_eq] using h5
  have hv:=hf.ev x;rw [hx] at hv;obtain⟨_,hn,_⟩:=hv.inv_vsl hL;obtain⟨_,o2⟩:=h6.obj i _ hL;have h3:(lop.map a.eval=none/\lo=0)\/∃ kd,lop.map a.eval=some (.int kd lo):=by
   rcases h7 with ⟨rfl,h⟩ | ⟨kd,p,rfl,hp⟩
   .exact .inl ⟨rfl,h⟩
   .have:=hf.ev p; rw [hp] at this;exact .inr ⟨kd,by simp [this.inv_sc]⟩
  have h4:(h0.map a.eval=none/\hi=n)\/∃ kd,h0.map a.eval=some (.int kd hi):=by
   rcases h8 with ⟨rfl,h⟩ | ⟨kd,p,rfl,hp⟩
   .exact .inl ⟨rfl,h⟩
   .have:=hf.ev p; rw [hp] at this;exact .inr ⟨kd,by simp [this.inv_sc]⟩
  rcases hv.inv_vsl0 hL with ⟨e1,e2,e3⟩ | ⟨b,cap,e1,e2,e3,e4,e5⟩
  .have a0:xs=[]:=by
    rcases o2 with ⟨_,o2⟩ | ⟨b',o2,_⟩
    .exact o2
    .rw [show U i=U.at_ i from rfl,e3] at o2; cases o2
   subst a0;have:hi=0:=by simpa using h2
   subst this;have:lo=0:=by omega
   subst this;refine⟨.slice none 0 0,?_,.vsl ⟨E,ver,[],hL,Pf,fun _=>⟨by simp,⟨none,0,rfl,Pf,Nat.zero_le _,.inl rfl⟩,fun _=>.inl ⟨rfl,rfl,e3⟩⟩⟩ rfl⟩;simp only [execOp,ho,e1,Sem.run_bind,Option.map_none];rw [pW hT none 0 0 0 0 _ _ w (Pf) (Pf) h3 (h4.imp (fun h=>⟨h.1,rfl⟩) id)];rfl
  .have a1:xs.length<=cap:=by
    rcases o2 with ⟨_,o2⟩ | ⟨b',o2,vs,o3,o4,_⟩
    .subst o2; simp
    .rw [show U i=U.at_ i from rfl,e2] at o2; cases o2;have hs:vs.size=cap*k:=by simpa [World.shape?,o3] using e5
     rw [hs] at o4;exact Nat.le_of_mul_le_mul_right o4 h9
   refine⟨.slice (if cap=lo then some ⟨b,0,none⟩ else (some ⟨b,0,none⟩:Option Addr).map (·.add (lo*k))) (hi - lo) (cap - lo),?_,.vsl ⟨E,ver,xs,hL,Pf,fun _=>⟨by omega,⟨_,_,rfl,by omega,by omega,?_⟩,fun h=>?_⟩⟩ rfl⟩
   .simp only [execOp,ho,e1,Sem.run_bind,Option.map_none];rw [pW hT (some ⟨b,0,none⟩) n cap lo hi _ _ w h1 (by omega) h3 h4];rfl
   .by_cases h:hi - lo=0
    .exact .inl h
    .refine .inr ⟨b,e2,?_⟩;rw [if_neg (by omega)];simp [Addr.add_lit]
   .subst h;refine .inr ⟨b,cap,?_,e2,by omega,e4,e5⟩;split <;> simp [Addr.add_lit]
theorem Jda {k' off:Nat} (ho:o.op=.call { callee:=.builtin .len,args:=#[x],argTypes:=#[T] }) (hT:sliceB P T E k'=true) (hx:ev l x=.vsl i ver k off n) (hL:lk L i=some (.vec E k ver xs)):Gy P o l L (Is (I64 (n:Int)) L):=
 Hj fun a w U h0 hf=>by
  have hv:=hf.ev x;rw [hx] at hv;obtain⟨_,_,a',cap,e1,_⟩:=hv.inv_vsl hL;refine⟨.int .i64 n,?_,.sc⟩;simp [execOp,ho,resolve,invoke,builtin,Builtin.len_,underlying,(sliceB.out hT).1,e1,goInt]

/-! ### Typed elements -/
theorem Haa {W:Type} {d:Operand} {m:Nat} {f:W->AV} {xs ys:List W} (ho:o.op=.call { callee:=.builtin .append,args:=#[d,x],argTypes:=#[T,T] }) (hT:sliceB P T E k=true) (hd:ev l d=.vsl i ver k 0 m) (hi:lk L i=some (.vec E k ver (xs.map f))) (hs:yE L k (ev l x) (ys.map f)) (hc:∀ y,(f y).BI=true) (h0:m+ys.length<=xs.length) (h1:Nat.blt 0 k=true) :
  Gy P o l L (Is (.vsl i ver k 0 (m+ys.length)) ((i,.vec E k ver ((xs.take m++ys++xs.drop (m+ys.length)).map f))::L)):=by
 have h:=J29 (P:=P) (m:=m) ho hT hd hi hs (fun y hy=>by
  obtain⟨z,_,rfl⟩:=Pt.1 hy;exact hc z) (by simpa using h0) h1
 simp only [List.map_append,List.map_take,List.map_drop];simpa only [Pr] using h
end ops

section
variable {N:Cfg} {w0 w:World} {U0 U:Gx} {L0 L:Loc} {a:Act} {l:Fr}
theorem Qn.vgiveK (hs:Qn N w0 U0 L0 a w U l L) {s i ver k n t:Nat} {xs:AD} (BA:Nat) (obs:AI) (h1:look l s=.vec i ver k n) (hi:lk L i=some (.vec t k ver xs)) (h9:ver < BA) (h8:∀ b∈obs,∀ j,Hs w U L b j) :
  ∃ (o:Option (Nat×Nat)) (U':Gx),(∀ b c,o=some (b,c)->b ∉ obs)/\Qn N w0 U0 L0 a w U' ((s,.blk o t k (.list k xs))::l) ((i,.vec t k BA [])::L):=by
 have hv:=hs.frame.tmp s;rw [h1] at hv;obtain⟨rfl,hk,h⟩:=cX hs.sat hi hv;obtain⟨st,sat⟩:=R0 (w':=w) (t:=t) (k:=k) (BA:=BA) (xs':=[]) (ob':=none) hs.sat (.inr ⟨ver,xs,hi,by omega,fun e=>by omega⟩) rfl rfl ⟨rfl,Pf⟩ (Pf) (fun _ _ _=>rfl) (.inl rfl);have sat':=sat ⟨by simp,.inl ⟨rfl,rfl⟩⟩;rcases h with ⟨e,rfl,_⟩ | ⟨b,cap,vs,e,hb,h1,h2,h3,h4,h5⟩
 .refine⟨none,_,fun b c e=>(by cases e),sat',hs.step.trans st,(hs.frame.step st).over ?_,hs.size,hs.base,hs.defers.step st⟩;rw [e]; exact .data (.blk (.inl ⟨rfl,rfl⟩) (.nil (Nat.zero_le _)))
 .refine⟨some (b,cap),_,fun b' c e hm=>?_,sat',hs.step.trans st,(hs.frame.step st).over ?_,hs.size,hs.base,hs.defers.step st⟩
  .cases e;exact(h8 b hm 0).kept i _ hi hb
  rw [e];have h0:∀ j,j < (flat xs).length->j < vs.size:=fun j hj=>by
   rw [J2 hk] at hj;have:=Nat.mul_le_mul_right k h1;omega
  have h6:∀ j,Hs w (upP U i none) ((i,.vec t k BA [])::L) b j:=fun j=>⟨(Nz h3).1,hs.sat.apart i b _ (by rw [hi]; rfl) hb,fun id o ho h7=>by
   rw [Ge] at ho;by_cases e:i=id
   .subst e; simp [upP] at h7
   .rw [if_neg e] at ho;have hb'':U.at_ id=some b:=by simpa [upP,Ne.symm e] using h7
    exact absurd (hs.sat.inj i id b (by rw [hi]; rfl) (by rw [ho]; rfl) hb hb'') e⟩
  refine .data (.blk (.inr ⟨b,cap,xs.length,vs,rfl,rfl,h1,h2,h3,h4,h6⟩) (.list (fun j=>vs.getD j undef) h1 h2 hk (fun j hj=>⟨h6 _,?_⟩) (fun j u hu=>?_)))
  .have:=h0 j hj;simp [World.cell?,h3,this]
  .have hj:=(Pa hu).1;have:=h0 j hj;refine(h5 j u _ hu ?_).mono st.AX;simp [this]
end
theorem J87 {N:Cfg} {ops:Array Oper} {rest:AM} {Q:Post} {l:Fr} {L:Loc} (s:Nat) {i ver m t:Nat} {xs:AD} (BA:Nat) (obs:AI) (h1:look l s=.vec i ver k m) (hi:lk L i=some (.vec t k ver xs)) (h2:ver < BA)
  (h3:∀ (w:World) (U:Gx),Sat w U L->∀ b∈obs,∀ j,Hs w U L b j)
  (hk:∀ o:Option (Nat×Nat),(∀ b c,o=some (b,c)->b ∉ obs)->JL P N ops rest Q ((s,.blk o t k (.list k xs))::l) ((i,.vec t k BA [])::L)):JL P N ops rest Q l L:=
 fun n w0 U0 L0 a w U hs=>by
  obtain⟨o,U',h0,h⟩:=hs.vgiveK BA obs h1 hi h2 (h3 w U hs.sat);exact hk o h0 n w0 U0 L0 a w U' h
theorem J81 {a b:List (Option (Nat×Nat))} (h:a.Perm b) (hn:(jK a).Nodup):(jK b).Nodup:=by
 unfold jK at hn ⊢;exact((h.filterMap _).nodup_iff).1 hn


section lits
variable {P:Program} {o:Oper} {l:Fr} {L:Loc}
theorem J96 (i:Nat) {T E k n BA:Nat} {parts:List (Nat×Operand)} {xs:AD} (ho:o.op=.buildSlice T n parts.toArray) (hd:eV l (parts.map (·.2)) xs) (hT:sliceB P T E k=true) (hz:Qx P E k=true)
  (h4:parts.map (·.1)=List.range n) (hc:lR k xs=true) (hn:Nat.ble (n*k) 16777216=true) (b1:Nat.blt 0 k=true) (hi:lk L i=none):Gy P o l L (Is (.vec i BA k xs.length) ((i,.vec E k BA xs)::L)):=by
 intro a w U K Q a8 hf hK;have a9:=hd.length;have b2:n=xs.length:=by
  have:=congrArg List.length h4;simp only [Pr,List.length_range] at this a9;omega
 subst b2;have a2:=kT hc;have a3:∀ x∈xs,x.cells.length=k:=fun x hx=>(a2 x hx).1;have h8:∀ x∈xs,x.BF=true:=by
  intro x hx;obtain⟨j,hj,e⟩:=List.mem_iff_getElem.1 hx;have b3:j < (parts.map (·.2)).length:=by omega
  exact e ▸ (hd.get (j:=j) (x:=(parts.map (·.2))[j]) (u:=xs[j]) (Pb b3) (Pb hj)).2
 have h9:=qI (k:=k) xs 0 (List.replicate (xs.length*k) .AL) (by simp) a2;obtain⟨inf,z,b4,b5,b9⟩:=Qx.out hz
 let zs:Array Value:=if xs.length*k=0 then #[] else z.cells
 obtain⟨vs',e1,e2,e3⟩:=nK (w:=w) (U:=U) (L:=L) (qs:=parts.map fun p=>(p.1,a.eval p.2)) (vs:=(Array.range (xs.length*k)).map (zs[· % zs.size]!)) h9 (by
   have:=congrArg List.length h4;simp only [Pr,List.length_range] at this;simp [this]) (fun j p q hp hq=>by
   simp only [Pj,Option.map_eq_some_iff] at hq;obtain⟨y,hy,rfl⟩:=hq;rw [List.getElem?_zip_eq_some] at hp;obtain⟨b6,b7⟩:=hp;have h3:(parts.map (·.1))[j]? = (List.range xs.length)[j]? := by rw [h4]
   simp only [Pj,hy,Option.map_some] at h3;rw [List.range_eq_range',b6] at h3;have:=(hd.get (j:=j) (x:=y.2) (u:=p.2) (by rw [Pj,hy]; rfl) b7);have hv:=(hf.ev y.2).plain;rw [this.1] at hv;exact⟨(Pc h3).symm,hv⟩) (by simp) (fun j u v hu _=>by
   have:=List.eq_of_mem_replicate (Pd hu);subst this; exact .AL)
 have a0:(List.take (0*k) (List.replicate (xs.length*k) AV.AL))++flat xs=flat xs:=by simp
 rw [a0] at e2 e3;have hr:(execOp a.eval o).run P w=.ok (.value (.slice (some ⟨w.heap.size,0,none⟩) xs.length xs.length)) (w.alloc (.cells vs' E)):=by
  have a4:=Q8 (sliceB.out hT).2 w;have b8:xs.length*k<=16777216:=by simpa using hn
  have a5:¬ (xs.length*k > 2 ^ 24):=by
   have:(2:Nat) ^ 24=16777216:=by decide
   omega
  have hp:(parts.toArray.map fun(x:Nat×Operand)=>(x.1,a.eval x.2)).toList=parts.map fun p=>(p.1,a.eval p.2):=by simp
  by_cases h0:xs.length*k=0
  .have h5:zs=#[]:=by simp only [zs,if_pos h0]
   rw [h5] at e1;simp only [execOp,ho,Instr.buildSlice,underlying,(sliceB.out hT).1,run_program,Sem.run_bind,Result.andThen_ok,a4,a5,if_false,Sem.run_pure,if_pos h0,hp,e1,newRow,run_newObj];rfl
  .have h5:zs=z.cells:=by simp only [zs,if_neg h0]
   rw [h5] at e1;simp only [execOp,ho,Instr.buildSlice,underlying,(sliceB.out hT).1,run_program,Sem.run_bind,Result.andThen_ok,a4,a5,if_false,Sem.run_pure,if_neg h0,zeroValue,typeInfo,b4,b5,hp,e1,newRow,run_newObj];rfl
 unfold Oper.wp;rw [hr];have b0:xs.length<=maxLen:=by
  have h1:xs.length*k<=16777216:=by simpa using hn
  have h2:0 < k:=by simpa [Nat.blt_eq] using b1
  have:xs.length*1<=xs.length*k:=Nat.mul_le_mul_left _ h2;simp only [maxLen]; omega
 have a6:(flat xs).length=xs.length*k:=J2 a3;have a1:∀ b',b' < w.heap.size->(w.alloc (.cells vs' E)).heap[b']? = w.heap[b']? := fun b' h6=>Ju w _ h6;have h7:(w.alloc (.cells vs' E)).heap[w.heap.size]? = some (.cells vs' E (0,0)):=by
  show (w.heap.push (.cells vs' E))[w.heap.size]? = _
  simp
 have a7:(w.alloc (.cells vs' E)).heap.size=w.heap.size+1:=by
  show (w.heap.push (.cells vs' E)).size=_
  simp
 obtain⟨st,sat⟩:=R0 (w':=w.alloc (.cells vs' E)) (t:=E) (k:=k) (BA:=BA) (xs':=xs) (ob':=some w.heap.size) a8 (.inl hi) rfl rfl ⟨rfl,Pf⟩ (by rw [a7]; omega) (fun b' h6 _=>a1 b' h6) (.inr (.inr ⟨_,rfl,Pf,by rw [a7]; omega⟩));refine hK _ _ _ _ _ ⟨rfl,rfl⟩ (sat ⟨a3,.inr ⟨_,rfl,vs',h7,by rw [e2,a6]; exact Pf,fun j u v hu hv=>?_⟩⟩) st (.vec ⟨E,BA,xs,by rw [Ge,if_pos rfl],Pf,fun _=>⟨rfl,.inr ⟨w.heap.size,xs.length,rfl,by simp [upP],Pf,b0,by unfold World.shape?; rw [h7]; simp only [e2,a6]⟩⟩⟩ rfl);exact((e3 j u v hu hv).toD (pK h8 u (Pd hu))).mono st.AX
theorem J25 {W:Type} (i:Nat) {T E k n BA:Nat} {parts:List (Nat×Operand)} {f:W->AV} (xs:List W) (ho:o.op=.buildSlice T n parts.toArray) (hd:eV l (parts.map (·.2)) (xs.map f)) (hT:sliceB P T E k=true) (hz:Qx P E k=true)
  (h0:parts.map (·.1)=List.range n) (hc:lR k (xs.map f)=true) (hn:Nat.ble (n*k) 16777216=true) (h1:Nat.blt 0 k=true) (hi:lk L i=none):Gy P o l L (Is (.vec i BA k xs.length) ((i,.vec E k BA (xs.map f))::L)):=by
 have h:=J96 (P:=P) (BA:=BA) i ho hd hT hz h0 hc hn h1 hi;simpa only [Pr] using h
end lits
set_option linter.unusedSimpArgs false

section code
variable {B:Type} {E:dI B} {P:Program} {N:Cfg} {Q:iH B} {l:Fr} {L:Loc} {k:B}
theorem Q3b {x y:Code} {X:Type} (I:X->Prop) (F:X->Fr) (M:X->Loc) (kf:X->B)
  (h1:∀ K:Fr->Loc->B->Prop,(∀ l L k' v,I v->Fits N.base l L (F v) (M v)->k'=kf v->K l L k')->JI E P N x (Q.seq K) l L k)
  (h2:∀ v,I v->JI E P N y Q (F v) (M v) (kf v)):JI E P N (.seq x y) Q l L k:=
 eQ fun K hK=>h1 K fun l L k' v hv hf hk=>hK l L k' (J49 hf (by subst hk; exact h2 v hv))
end code


/-! ### A slice of one's own that is begun anew -/
end Go.Proofs.YtbgfgnddogfpcaaGreat
