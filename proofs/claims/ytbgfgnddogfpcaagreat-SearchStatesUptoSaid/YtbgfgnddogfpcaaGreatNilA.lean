/-
 Statements whose operations may be carried out in more than A slice of the call's own that a call returns,given away at A slice that is handed over to be appended to:
-/
import Derived.Test.YtbgfgnddogfpcaaGreatIter
import Derived.Test.YtbgfgnddogfpcaaGreatIterJ
import Derived.Test.YtbgfgnddogfpcaaGreatNest2
namespace Go.Proofs.YtbgfgnddogfpcaaGreat
open Go.RowKit

variable {P:Program}
theorem bD.cfg {N N':Cfg} (e:N'.n=N.n) {ops:Array Oper} {ws los his:AI} {Ls:List Loc} {K:Fr->Prop}:∀ {r:AM} {i:Nat} {l:Fr},bD P N ops ws los his Ls i r l K->bD P N' ops ws los his Ls i r l K:=by
 have hO:∀ o l L u L',cV P N ops o l L u L'->cV P N' ops o l L u L':=fun o l L u L' h a w U K Q h1 h2 h3=>h a w U K Q h1 h2 (by rw [<- e]; exact h3);have hA:∀ o l u (Xs:List Loc),sG (fun L=>cV P N ops o l L u L) Xs->sG (fun L=>cV P N' ops o l L u L) Xs:=by
  intro o l u Xs
  induction Xs with
  | nil=>exact id
  | cons X Xs ih=>exact fun h=>⟨hO _ _ _ _ _ h.1,ih h.2⟩
 intro r
 induction r with
 | nil=>exact fun h=>h
 | cons o r ih=>
  intro i l h;obtain⟨u,h1,h2⟩:=h;refine⟨u,?_,?_⟩
  .revert h1;cases ws.idxOf? i with
   | some m=>rintro⟨L,L',h3,h4,h5⟩; exact⟨L,L',h3,h4,hO _ _ _ _ _ h5⟩
   | none=>exact hA _ _ _ _
  .revert h2;cases o.dst with
   | some d=>rintro⟨h3,h4⟩; exact⟨by rw [e]; exact h3,ih h4⟩
   | none=>exact fun h4=>ih h4
section
variable {W:Type} {E:dI W} {P:Program} {N:Cfg} {Q:iH W} {l:Fr} {L L':Loc} {k:W}
def wG (N:Cfg) (L:Loc):Cfg:=⟨N.n,L.map (·.1),some 0⟩

theorem G1d {id:Nat}:∀ {L:Loc},(lk L id).isSome=true->id∈L.map (·.1):=by
 intro L
 induction L with
 | nil=>intro h; simp [lk] at h
 | cons x r ih=>
  intro h;by_cases e:x.1=id
  .simp [e]
  .refine Pt.2 ?_;have:(lk r id).isSome=true:=by
    have hb:Nat.beq x.1 id=false:=by
     cases hb:Nat.beq x.1 id with
     | false=>rfl
     | true=>exact absurd (P2 hb) e
    obtain⟨a,b⟩:=x;simp only [lk,hb,cond_false] at h;exact h
   obtain⟨y,hy,e⟩:=Pt.1 (ih this);exact⟨y,List.mem_cons_of_mem _ hy,e⟩

theorem StI.stok {a:Act} {w:World} {U:Gx} (h:StI E N a w U l L k):Qn (wG N L) w U L { a with defers:=[] } w U l L:=
 ⟨h.sat,Step.refl _ _ _,⟨fun t=>h.frame.tmp t⟩,h.size,fun _ h=>G1d h,gY.nil⟩
theorem StI.after {a a':Act} {w w':World} {U U':Gx} {l':Fr} {L':Loc} (hE:E.Ok P) (h:StI E N a w U l L k) (h':Qn (wG N L) w U L a' w' U' l' L'):StI E N { a' with defers:=a'.defers++a.defers } w' U' l' L' k:=by
 have h0:=h'.step;have hd:a'.defers=[]:=h'.defers.top rfl;rw [hd,List.nil_append];refine⟨h'.sat,⟨fun t=>h'.frame.tmp t⟩,h'.size,h.defers.step h0,Nat.le_trans h.old h0.size,fun id b h1 h2=>?_,?_,fun b i hn=>h.visStep hE h0 hn⟩
 .have old':=h.old;rcases P4 b w.heap.size with hb | hb
  .refine Classical.byContradiction fun hn=>?_;have:∀ id0,(lk L id0).isSome=true->U id0≠some b:=fun id0 h3 h4=>hn (h.own id0 b h3 h4);exact(h0.far b hb this).2 id h1 h2
  .exact hE.frW b (by omega)
 .obtain⟨X,T,hJ,hX,hT,h5,h6⟩:=h.gh;refine⟨X,T,hE.abide k X T w w' hJ ⟨h0.os,h0.tape,h0.output,h0.size,fun b hb hn=>(h0.far b hb fun id h1 h2=>?_).1⟩ (fun b i h=>(h0.AX b i (hT b i h)).2),fun b hb=>⟨P0 (hX b hb).1 h0.size,fun i hn=>(h0.hid b i (hX b hb).1).2 ((hX b hb).2 i hn)⟩,fun b i h=>(h0.AX b i (hT b i h)).1,fun id b h1 h2 hx=>?_,h6⟩
  .exact hn ⟨h.own id b h1 h2,fun hx=>h5 id b h1 h2 hx⟩
  .exact(h0.far b (hX b hx).1 fun id0 h3 h4=>h5 id0 b h3 h4 hx).2 id h1 h2
end

/-! ### What is deferred does not matter to a region -/
section defers
variable {F:Fence} {n:Nat} {P:Program}
theorem Act.put_app (a:Act) (d:Option Tmp) (v:Value) (ds:List Deferred):({ a with defers:=a.defers++ds }:Act).put d v={ a.put d v with defers:=(a.put d v).defers++ds }:=by cases d <;> rfl
theorem Act.eval_app (a:Act) (ds:List Deferred):({ a with defers:=a.defers++ds }:Act).eval=a.eval:=by funext x; cases x <;> rfl
theorem Oper.uponIn_app {o:Oper} {a:Act} {ds:List Deferred} {K K':Act->World->Prop} {Q Q':Exit->Act->World->Prop} (hK:∀ a w,K a w->K' { a with defers:=a.defers++ds } w) (hQ:∀ e a w,Q e a w->Q' e { a with defers:=a.defers++ds } w)
  {r:Result Next} (h:o.uponIn F n P a K Q r):o.uponIn F n P { a with defers:=a.defers++ds } K' Q' r:=by
 have hL:LetsOut Q->LetsOut Q':=fun⟨a,w,h⟩=>⟨_,w,hQ _ a w h⟩;cases r with
 | ok x w'=>
  cases x with
  | value v=>rw [Oper.uponIn_value] at h ⊢; rw [Act.put_app]; exact hK _ _ h
  | skip=>rw [Oper.uponIn_skip] at h ⊢; rw [Act.put_app]; exact hK _ _ h
  | defer d=>rw [Oper.uponIn_defer] at h ⊢; have:=hK _ _ h; rw [<- Act.put_app] at this; exact this
  | enter f args=>
   rw [Oper.uponIn_enter] at h ⊢;refine⟨h.1,h.2.mono fun e w h=>?_⟩;cases e with
   | returned v=>simp only at h ⊢; rw [Act.put_app]; exact hK _ _ h
   | panicked c=>exact hQ _ a w h
   | outgrown=>exact hL h
  | row row args=>
   rw [Oper.uponIn_row] at h ⊢;exact⟨h.1,h.2.mono fun v w h=>by rw [Act.put_app]; exact hK _ _ h⟩
  | round l f tmps assign body=>
   rw [Oper.uponIn_round] at h ⊢;refine⟨h.1,h.2.mono fun e w h=>?_⟩;cases e with
   | returned v=>simp only at h ⊢; rw [Act.put_app]; exact hK _ _ h
   | panicked c=>exact hQ _ a w h
   | outgrown=>exact hL h
  | _=>exact h.elim
 | halt x w'=>
  cases x with
  | panic v=>rw [Oper.uponIn_panic] at h ⊢; exact hQ _ a w' h
  | _=>exact h.elim
theorem Oper.uponIn_to {o:Oper} {a:Act} {K K':Act->World->Prop} {Q Q':Exit->Act->World->Prop} (hK:∀ a w,K a w->K' a w) (hQ:∀ e a w,e≠.normal->Q e a w->Q' e a w)
  {r:Result Next} (h:o.uponIn F n P a K Q r):o.uponIn F n P a K' Q' r:=by
 have hL:LetsOut Q->LetsOut Q':=fun⟨a,w,h⟩=>⟨_,w,hQ _ a w (by intro h; cases h) h⟩;cases r with
 | ok x w'=>
  cases x with
  | value v=>rw [Oper.uponIn_value] at h ⊢; exact hK _ _ h
  | skip=>rw [Oper.uponIn_skip] at h ⊢; exact hK _ _ h
  | defer d=>rw [Oper.uponIn_defer] at h ⊢; exact hK _ _ h
  | enter f args=>
   rw [Oper.uponIn_enter] at h ⊢;refine⟨h.1,h.2.mono fun e w h=>?_⟩;cases e with
   | returned v=>exact hK _ _ h
   | panicked c=>exact hQ _ a w (by intro h; cases h) h
   | outgrown=>exact hL h
  | row row args=>
   rw [Oper.uponIn_row] at h ⊢;exact⟨h.1,h.2.mono fun v w h=>hK _ _ h⟩
  | round l f tmps assign body=>
   rw [Oper.uponIn_round] at h ⊢;refine⟨h.1,h.2.mono fun e w h=>?_⟩;cases e with
   | returned v=>exact hK _ _ h
   | panicked c=>exact hQ _ a w (by intro h; cases h) h
   | outgrown=>exact hL h
  | _=>exact h.elim
 | halt x w'=>
  cases x with
  | panic v=>rw [Oper.uponIn_panic] at h ⊢; exact hQ _ a w' (by intro h; cases h) h
  | _=>exact h.elim
theorem wQ {md:Region.Mode} {ops:Array Oper} {ds:List Deferred} {Q Q':Exit->Act->World->Prop} (hQ:∀ e a w,Q e a w->Q' e { a with defers:=a.defers++ds } w) :
  ∀ (fuel:Nat) (listed:Array Bool) (a:Act) (w:World),wpAnyIn F n P md ops Q fuel listed a w->wpAnyIn F n P md ops Q' fuel listed { a with defers:=a.defers++ds } w
 | 0,listed,a,w,h=>⟨h.1,hQ _ a w h.2⟩
 | fuel+1,listed,a,w,h=>by
  refine⟨fun e=>hQ _ a w (h.1 e),fun i hi=>?_⟩;have h2:=h.2 i hi;have ih:=fun a w=>wQ (md:=md) (ops:=ops) hQ fuel (listed.setIfInBounds i true) a w;unfold wpOpIn at h2 ⊢;split at h2
  .exact ih a w h2
  .rename_i o ho;by_cases hw:Region.wanted o (yielded ops a.tmps)=true
   .rw [if_pos hw] at h2 ⊢;unfold Oper.wpIn at h2 ⊢;rw [Act.eval_app];exact⟨h2.1,Oper.uponIn_app ih hQ h2.2⟩
   .rw [if_neg hw] at h2 ⊢;rw [Act.eval_app,Act.put_app];exact⟨h2.1,ih _ w h2.2⟩
end defers

/-! ### An open order of which the end is fixed -/
section split
variable {F:Fence} {n:Nat} {P:Program}
def iG (o:Oper) (j:Nat):Bool:=o.after.any fun e=>Region.binds .any e&&Nat.beq e.on j
def xM (ops:AM) (p:Nat):Bool:=
 Nat.ble p ops.length &&
 (List.range ops.length).all fun i=>((ops[i]?).map fun o=>
  (bif Nat.blt i p then o.after.all (fun e=>Nat.blt e.on i)&&(match o.guard with | none=>true | some (j,_)=>Nat.blt j p)&&(((ops[p]?).map fun q=>iG q i).getD true||(List.range p).any fun m=>Nat.blt i m&&((ops[m]?).map fun q=>iG q i).getD false)
  else o.after.all (fun e=>Nat.blt e.on i)&&(Nat.beq i p||iG o (i - 1)))).getD true

variable {A:Array Bool} {i:Nat}
theorem mem_ready {ops:Array Oper} :i∈Region.ready .any ops A ↔ i < ops.size/\A.getD i true=false/\∃ o,ops[i]? = some o/\∀ e∈o.after,Region.binds .any e=true->A.getD e.on false=true:=by
 unfold Region.ready;rw [Pw,List.mem_range];refine and_congr_right fun hi=>?_;have ho:ops[i]? = some ops[i]:=by simp [hi]
 rw [ho];simp only [Option.map_some,Option.getD_some,Pp,Bool.not_eq_true',Array.all_eq_true',Px];refine and_congr_right fun _=>⟨fun h=>⟨_,rfl,fun e he hb=>(h e he).elim (fun h=>by rw [hb] at h; cases h) fun h=>h⟩,?_⟩;rintro⟨o,h1,h2⟩ e he;cases h1;cases hb:Region.binds .any e with
 | false=>exact .inl rfl
 | true=>exact .inr (h2 e he hb)

structure vW (ops:AM) (p:Nat):Prop where
 le:p<=ops.length
 low:∀ (i:Nat) (o:Oper),ops[i]? = some o->∀ e∈o.after,e.on < i
 guard:∀ (i:Nat) (o:Oper) (j:Nat) (b:Bool),i < p->ops[i]? = some o->o.guard=some (j,b)->j < p
 cover:∀ i:Nat,i < p->p < ops.length->(∃ q:Oper,ops[p]? = some q/\iG q i=true)\/∃ (m:Nat) (q:Oper),i < m/\m < p/\ops[m]? = some q/\iG q i=true
 next:∀ (i:Nat) (o:Oper),p < i->ops[i]? = some o->iG o (i - 1)=true
variable {ops:AM} {p:Nat}
theorem Q15 (h:xM ops p=true):vW ops p:=by
 unfold xM at h;simp only [Pp,List.all_eq_true,List.mem_range] at h;obtain⟨h0,h⟩:=h;have key:∀ (i:Nat) (o:Oper),ops[i]? = some o->i < ops.length:=fun i o ho=>(Pa ho).1;refine⟨Nat.le_of_ble_eq_true h0,fun i o ho e he=>?_,fun i o j b hi ho hg=>?_,fun i hi hp=>?_,fun i o hi ho=>?_⟩
 .have:=h i (key i o ho);rw [ho] at this;simp only [Option.map_some,Option.getD_some] at this;cases hb:Nat.blt i p with
  | true=>
   rw [hb] at this;simp only [cond_true,Pp,Array.all_eq_true'] at this;simpa using this.1.1 e he
  | false=>
   rw [hb] at this;simp only [cond_false,Pp,Array.all_eq_true'] at this;simpa using this.1 e he
 .have:=h i (key i o ho);rw [ho] at this;simp only [Option.map_some,Option.getD_some] at this;rw [show Nat.blt i p=true from by simpa using hi] at this;simp only [cond_true,Pp,hg] at this;simpa using this.1.2
 .have h4:i < ops.length:=by omega
  have:=h i h4;rw [Pb h4] at this;simp only [Option.map_some,Option.getD_some] at this;rw [show Nat.blt i p=true from by simpa using hi] at this;simp only [cond_true,Pp,Px,List.any_eq_true,List.mem_range] at this;rcases this.2 with h1 | ⟨m,h1,h2,h3⟩
  .rw [Pb hp] at h1;exact .inl ⟨_,Pb hp,by simpa using h1⟩
  .have hm:m < ops.length:=by omega
   rw [Pb hm] at h3;exact .inr ⟨m,_,by simpa using h2,h1,Pb hm,by simpa using h3⟩
 .have:=h i (key i o ho);rw [ho] at this;simp only [Option.map_some,Option.getD_some] at this;have hb:Nat.blt i p=false:=by
   cases hb:Nat.blt i p with
   | false=>rfl
   | true=>simp at hb; omega
  rw [hb] at this;simp only [cond_false,Pp,Px] at this;rcases this.2 with h1 | h1
  .have:=P2 h1; omega
  .exact h1

structure Listed (ops:AM) (p:Nat) (A B:Array Bool):Prop where
 szA:A.size=ops.length
 szB:B.size=p
 eq:∀ i:Nat,i < p->A.getD i false=B.getD i false
 up:∀ i:Nat,p<=i->A.getD i false=false
 down:∀ (i:Nat) (o:Oper),i < p->A.getD i false=true->ops[i]? = some o->∀ e∈o.after,Region.binds .any e=true->A.getD e.on false=true

theorem sI (h:i < A.size):A.getD i true=A.getD i false:=by simp [Array.getD,h]
theorem JY {o:Oper} {j:Nat} (h:iG o j=true):∃ e∈o.after,Region.binds .any e=true/\e.on=j:=by
 unfold iG at h;obtain⟨e,he,hh⟩:=Array.any_eq_true'.1 h;rw [Pp] at hh;exact⟨e,he,hh.1,P2 hh.2⟩

variable {B:Array Bool}
theorem Listed.set (h:Listed ops p A B) (hc:vW ops p) (hi:i < p) (hr:i∈Region.ready .any ops.toArray A):Listed ops p (A.setIfInBounds i true) (B.setIfInBounds i true):=by
 have hp:=hc.le;have hA:∀ j,(A.setIfInBounds i true).getD j false=if j=i then true else A.getD j false:=fun j=>by
  by_cases e:j=i
  .subst e;have:j < A.size:=by rw [h.szA]; omega
   simp [Array.getD,this]
  .simp only [if_neg e,Array.getD_eq_getD_getElem?,Array.getElem?_setIfInBounds_ne (Ne.symm e)]
 have hB:∀ j,(B.setIfInBounds i true).getD j false=if j=i then true else B.getD j false:=fun j=>by
  by_cases e:j=i
  .subst e;have:j < B.size:=by rw [h.szB]; omega
   simp [Array.getD,this]
  .simp only [if_neg e,Array.getD_eq_getD_getElem?,Array.getElem?_setIfInBounds_ne (Ne.symm e)]
 refine⟨by simp [h.szA],by simp [h.szB],fun j hj=>by rw [hA,hB,h.eq j hj],fun j hj=>by rw [hA,if_neg (by omega),h.up j hj],fun j o hj hl ho e he hb=>?_⟩;rw [hA];split
 .rfl
 .rw [hA] at hl;by_cases ej:j=i
  .subst ej;obtain⟨_,_,o',h0,hd⟩:=mem_ready.1 hr;rw [List.getElem?_toArray,ho] at h0;cases h0;exact hd e he hb
  .rw [if_neg ej] at hl;exact h.down j o hj hl ho e he hb

theorem Listed.ready_low (h:Listed ops p A B) (hc:vW ops p) (hi:i < p):i∈Region.ready .any ops.toArray A ↔ i∈Region.ready .any (ops.take p).toArray B:=by
 have hp:=hc.le;have h0:i < ops.length:=by omega
 rw [mem_ready,mem_ready];have eo:(ops.take p).toArray[i]? = ops.toArray[i]? := by simp [hi]
 rw [eo,sI (A:=A) (by rw [h.szA]; omega),sI (A:=B) (by rw [h.szB]; omega),h.eq i hi];have dep:∀ o,ops.toArray[i]? = some o->∀ e∈o.after,e.on < p:=fun o ho e he=>by
  have:=hc.low i o (by simpa using ho) e he; omega
 constructor
 .rintro⟨_,h2,o,h3,h4⟩;exact⟨by simp; omega,h2,o,h3,fun e he hb=>by rw [<- h.eq e.on (dep o h3 e he)]; exact h4 e he hb⟩
 .rintro⟨_,h2,o,h3,h4⟩;exact⟨by simpa using h0,h2,o,h3,fun e he hb=>by rw [h.eq e.on (dep o h3 e he)]; exact h4 e he hb⟩

theorem Listed.some_ready {ops:AM} {p:Nat} {A B:Array Bool} (h:Listed ops p A B) (hc:vW ops p):∀ (m i:Nat),i<=m->i < p->A.getD i false=false->∃ j,j < p/\j∈Region.ready .any ops.toArray A
 | m,i,h2,hi,hl=>by
  have hp:=hc.le;have h0:i < ops.length:=by omega
  by_cases hr:i∈Region.ready .any ops.toArray A
  .exact⟨i,hi,hr⟩
  .have ho:ops.toArray[i]? = some ops[i]:=by simp [h0]
   have:∃ e∈(ops[i]).after,Region.binds .any e=true/\A.getD e.on false=false:=by
    refine Classical.byContradiction fun hn=>hr (mem_ready.2 ⟨by simpa using h0,by rw [sI (by rw [h.szA]; omega)]; exact hl,_,ho,fun e he hb=>?_⟩);cases hx:A.getD e.on false with
    | true=>rfl
    | false=>exact(hn ⟨e,he,hb,hx⟩).elim
   obtain⟨e,he,_,hx⟩:=this;have h1:=hc.low i ops[i] (by simp [h0]) e he;cases m with
   | zero=>omega
   | succ m=>exact Listed.some_ready h hc m e.on (by omega) (by omega) hx
theorem Listed.high (h:Listed ops p A B) (hc:vW ops p) (hi:p<=i) (hr:i∈Region.ready .any ops.toArray A):∀ j,j < p->A.getD j false=true:=by
 have hp:=hc.le;obtain⟨h1,_,o,h3,h4⟩:=mem_ready.1 hr;have h8:i < ops.length:=by simpa using h1
 have h2:ops[i]? = some o:=by simpa using h3
 have h9:i=p:=by
  rcases Nat.lt_or_eq_of_le hi with a0 | h
  .obtain⟨e,he,hb,ho⟩:=JY (hc.next i o a0 h2);have:=h4 e he hb;rw [ho,h.up (i - 1) (by omega)] at this; cases this
  .exact h.symm
 subst h9;have key:∀ (d j:Nat),i - j<=d->j < i->A.getD j false=true:=by
  intro d
  induction d with
  | zero=>intro j h5 h6; omega
  | succ d ih=>
   intro j h5 h6;rcases hc.cover j h6 h8 with ⟨q,hq,h0⟩ | ⟨m,q,a1,h7,hq,h0⟩
   .rw [h2] at hq; cases hq;obtain⟨e,he,hb,ho⟩:=JY h0;rw [<- ho]; exact h4 e he hb
   .obtain⟨e,he,hb,ho⟩:=JY h0;rw [<- ho];exact h.down m q h7 (ih m (by omega) h7) hq e he hb
 exact fun j hj=>key i j (by omega) hj

theorem Had {Q:Exit->Act->World->Prop} (hc:vW ops p):∀ (fuel k:Nat) (A:Array Bool) (a:Act) (w:World),p<=k->k<=ops.length->ops.length - k<=fuel->A.size=ops.length->(∀ i,i < ops.length->A.getD i false=decide (i < k))->wpListIn F n P ops.toArray Q (ops.drop k) a w->wpAnyIn F n P .any ops.toArray Q fuel A a w:=by
 intro fuel
 induction fuel with
 | zero=>
  intro k A a w h1 h2 h3 h4 h5 h;have hk:k=ops.length:=by omega
  subst hk;rw [List.drop_length] at h;refine⟨?_,h⟩;refine List.eq_nil_iff_forall_not_mem.2 fun i hi=>?_;obtain⟨g1,g2,_⟩:=mem_ready.1 hi;have g1':i < ops.length:=by simpa using g1
  rw [sI (by omega),h5 i g1',P8 g1'] at g2; cases g2
 | succ fuel ih=>
  intro k A a w h1 h2 h3 h4 h5 h;rcases Nat.lt_or_eq_of_le h2 with h0 | rfl
  .have ho:ops[k]? = some ops[k]:=Pb h0;have h7:k∈Region.ready .any ops.toArray A:=mem_ready.2 ⟨by simpa using h0,by rw [sI (by omega),h5 k h0]; simp,ops[k],by simp [h0],fun e he hb=>by
    have hl:=hc.low k _ ho e he;rw [h5 e.on (by omega)]; exact P8 hl⟩
   refine⟨fun e=>(by rw [e] at h7; cases h7),fun i hi=>?_⟩;have h8:i=k:=by
    obtain⟨g1,g2,o,g3,g4⟩:=mem_ready.1 hi;have g1':i < ops.length:=by simpa using g1
    have h9:k<=i:=by
     refine Nat.le_of_not_lt fun h6=>?_;rw [sI (by omega),h5 i g1',P8 h6] at g2; cases g2
    rcases Nat.lt_or_eq_of_le h9 with h6 | e
    .obtain⟨e,he,hb,a0⟩:=JY (hc.next i o (by omega) (by simpa using g3));have:=g4 e he hb;rw [a0,h5 (i - 1) (by omega)] at this;have:=P6 this; omega
    .exact e.symm
   subst h8;rw [List.drop_eq_getElem_cons h0] at h;have a1:ops.toArray[i]? = some ops[i]:=by simp [h0]
   unfold wpOpIn;rw [a1];simp only [wpListIn] at h;have nx:∀ a w,wpListIn F n P ops.toArray Q (ops.drop (i+1)) a w->wpAnyIn F n P .any ops.toArray Q fuel (A.setIfInBounds i true) a w:=fun a w h'=>by
    refine ih (i+1) _ a w (by omega) h0 (by omega) (by simpa using h4) (fun j hj=>?_) h';by_cases e:j=i
    .subst e;have a2:j < A.size:=by omega
     simp [Array.getD,a2]
    .simp only [Array.getD_eq_getD_getElem?,Array.getElem?_setIfInBounds_ne (Ne.symm e)];rw [<- Array.getD_eq_getD_getElem?,h5 j hj];simp only [decide_eq_decide]; omega
   split at h
   .rename_i hw;simp only [hw,if_true];exact Oper.wpIn_mono nx h
   .rename_i hw;simp only [hw];exact⟨h.1,nx _ _ h.2⟩
  .rw [List.drop_length] at h;have hn:Region.ready .any ops.toArray A=[]:=List.eq_nil_iff_forall_not_mem.2 fun i hi=>by
    obtain⟨g1,g2,_⟩:=mem_ready.1 hi;have g1':i < ops.length:=by simpa using g1
    rw [sI (by omega),h5 i g1',P8 g1'] at g2; cases g2
   refine⟨fun _=>h,fun i hi=>by rw [hn] at hi; cases hi⟩

theorem H1e {Q Q':Exit->Act->World->Prop} (hc:vW ops p) (hN:∀ a w,Q' .normal a w->wpListIn F n P ops.toArray Q (ops.drop p) a w) (hX:∀ e a w,e≠.normal->Q' e a w->Q e a w) :
  ∀ (fB:Nat) (A B:Array Bool) (a:Act) (w:World),Listed ops p A B->wpAnyIn F n P .any (ops.take p).toArray Q' fB B a w->wpAnyIn F n P .any ops.toArray Q (fB+(ops.length - p)) A a w:=by
 have hp:=hc.le;have fin:∀ (f:Nat) (A B:Array Bool) (a:Act) (w:World),ops.length - p<=f->Listed ops p A B->Region.ready .any (ops.take p).toArray B=[]->Q' .normal a w->wpAnyIn F n P .any ops.toArray Q f A a w:=fun f A B a w hf hl hr hq=>by
  refine Had hc f p A a w (Pf) hp hf hl.szA (fun i hi=>?_) (hN a w hq);rcases P4 i p with h | h
  .rw [P8 h];cases hx:A.getD i false with
   | true=>rfl
   | false=>
    obtain⟨j,h1,h2⟩:=hl.some_ready hc i i (Pf) h hx;have:=(hl.ready_low hc h1).1 h2;rw [hr] at this; cases this
  .rw [hl.up i h,P9 (by omega)]
 intro fB
 induction fB with
 | zero=>intro A B a w hl h; exact fin _ A B a w (by omega) hl h.1 h.2
 | succ fB ih=>
  intro A B a w hl h;by_cases hr:Region.ready .any (ops.take p).toArray B=[]
  .exact fin _ A B a w (by omega) hl hr (h.1 hr)
  .obtain⟨j,hj⟩:=List.exists_mem_of_ne_nil _ hr;have h3:j < p:=by have:=(mem_ready.1 hj).1; simp at this; omega
   rw [show fB+1+(ops.length - p)=(fB+(ops.length - p))+1 by omega];refine⟨fun e=>?_,fun i hi=>?_⟩
   .have:=(hl.ready_low hc h3).2 hj;rw [e] at this; cases this
   .have h0:i < p:=by
     refine Nat.lt_of_not_le fun h6=>?_;have h5:=hl.high hc h6 hi;have:=(mem_ready.1 hj).2.1;rw [sI (by rw [hl.szB]; omega),<- hl.eq j h3,h5 j h3] at this; cases this
    have h2:=h.2 i ((hl.ready_low hc h0).1 hi);have h4:i < ops.length:=by omega
    have e1:(ops.take p).toArray[i]? = some ops[i]:=by simp [h0,h4]
    have e2:ops.toArray[i]? = some ops[i]:=by simp [h4]
    have ew:∀ tm,Region.wanted ops[i] (yielded (ops.take p).toArray tm)=Region.wanted ops[i] (yielded ops.toArray tm):=fun tm=>by
     unfold Region.wanted;cases hg:(ops[i]).guard with
     | none=>rfl
     | some q=>
      obtain⟨j,b⟩:=q;have hj:=hc.guard i ops[i] j b h0 (by simp [h4]) hg;have:yielded (ops.take p).toArray tm j=yielded ops.toArray tm j:=by
       unfold yielded;rw [show (ops.take p).toArray[j]? = ops.toArray[j]? by simp [hj]]
      simp only [this]
    unfold wpOpIn at h2 ⊢;rw [e1] at h2;rw [e2];simp only [ew] at h2 ⊢;have nx:=fun a w=>ih (A.setIfInBounds i true) (B.setIfInBounds i true) a w (hl.set hc h0 hi);split at h2
    .rename_i hw;simp only [hw,if_true];unfold Oper.wpIn at h2 ⊢;refine⟨h2.1,Oper.uponIn_to nx hX h2.2⟩
    .rename_i hw;simp only [hw];exact⟨h2.1,nx _ _ h2.2⟩
end split
section
variable {W:Type} {E:dI W} {P:Program} {N:Cfg} {Q:iH W} {l:Fr} {L L':Loc} {k:W}
variable {ops:AM} {id:Nat}
theorem Jcd (hm:P.follows .mixedOrders=true) (hE:E.Ok P) (h:∀ (n:Nat) a w U,Qn (wG N L) w U L a w U l L->wpAnyIn (FR N.ro) n P .any ops.toArray ((⟨fun l L=>Q.norm l L k,fun _ _=>False,fun _ _ _=>False⟩:Post).out (wG N L) w U L) ops.length (Array.replicate ops.length false) a w.drew):JI E P N (.region id ops.toArray true) Q l L k:=by
 intro n a w U hs;refine wpIn_region_any hm ?_;rw [List.size_toArray];refine wQ (ds:=a.defers) (fun e a' w' q=>?_) _ _ { a with defers:=[] } _ (h n { a with defers:=[] } w U hs.stok);cases e with
 | normal=>obtain⟨U',l',L',h1,h2⟩:=q; exact⟨U',l',L',k,hs.after hE h1,h2⟩
 | ret=>obtain⟨U',l',L',h1,h2⟩:=q; exact h2.elim
 | exit i=>obtain⟨U',l',L',h1,h2⟩:=q; exact h2.elim
 | _=>exact q.elim

theorem H8e {K:Fr->Loc->Prop} (ws los his:AI) (Ls:List Loc) (chk:nL ops ws los his=true) (h0:Ls[0]? = some L) (h1:Ls[ws.length]? = some L')
  (h:bD P N ops.toArray ws los his Ls 0 ops l (fun l'=>K l' L')) (h2:ops.all bL=true) (n:Nat) (a:Act) (w:World) (U:Gx) (hs:Qn (wG N L) w U L a w U l L):wpAnyIn (FR N.ro) n P .any ops.toArray ((⟨K,fun _ _=>False,fun _ _ _=>False⟩:Post).out (wG N L) w U L) ops.length (Array.replicate ops.length false) a w.drew:=by
 have hc:=h.cfg (N:=N) (N':=wG N L) rfl;obtain⟨val,pc,hK⟩:=yU ops ws los his Ls l _ ops.length (Pf) (fun j o d hj ho _=>by have:=(Pa ho).1; omega) ops 0 (fun _=>.AL) (fun j _=>by simp) (by simp) (fun j o hj=>by omega) hc;refine RT (ro:=N.ro) (n:=n) (fun i o hi=>List.all_eq_true.1 h2 o (Pd hi)) chk pc (.inl ⟨rfl,fun L'' hL''=>by rw [h1] at hL''; cases hL''; exact hK⟩) ops.length (Array.replicate ops.length false) a _ ?_ (by simp only [Array.getD_eq_getD_getElem?,Array.getElem?_replicate]; split <;> rfl) ⟨by simp,⟨fun i o e hi=>?_⟩,U,L,?_,?_⟩
 .exact Nat.le_trans (P3 _ _) (by simp)
 .simp only [Array.getD_eq_getD_getElem?,Array.getElem?_replicate] at hi;split at hi <;> simp at hi
 .have:cnt (fun i=>(Array.replicate ops.length false).getD i false) ws=0:=by
   unfold cnt;have hf:∀ i,(Array.replicate ops.length false).getD i false=false:=fun i=>by
    simp only [Array.getD_eq_getD_getElem?,Array.getElem?_replicate]; split <;> rfl
   simp [hf]
  rw [this]; exact h0
 .have this:Zq ops l val (fun i=>(Array.replicate ops.length false).getD i false) ops.length=l:=by
   have hf:(fun i=>(Array.replicate ops.length false).getD i false)=fun _=>false:=by
    funext i;simp only [Array.getD_eq_getD_getElem?,Array.getElem?_replicate]; split <;> rfl
   rw [hf];have:∀ n,Zq ops l val (fun _=>false) n=l:=by
    intro n
    induction n with
    | zero=>rfl
    | succ n ih=>
     cases hd:(ops[n]?).bind (·.dst) with
     | none=>simp only [Zq,hd]; exact ih
     | some d=>simp only [Zq,hd,Bool.false_eq_true,if_false]; exact ih
   exact this _
  rw [this]; exact hs.drew

theorem J4a (ws los his:AI) (Ls:List Loc) (hE:E.Ok P) (hm:P.follows .mixedOrders=true) (chk:nL ops ws los his=true) (h0:Ls[0]? = some L) (h1:Ls[ws.length]? = some L')
  (h:bD P N ops.toArray ws los his Ls 0 ops l (fun l'=>Q.norm l' L' k)) (h2:ops.all bL=true:=by rfl):JI E P N (.region id ops.toArray true) Q l L k:=
 Jcd hm hE fun n a w U hs=>H8e (K:=fun l L=>Q.norm l L k) ws los his Ls chk h0 h1 h h2 n a w U hs

theorem Q3e {pre rest:AM} (h0:pre++rest=ops) (hm:P.follows .mixedOrders=true) (hE:E.Ok P) (hc:xM ops pre.length=true)
  (h:∀ (n:Nat) a w U,Qn (wG N L) w U L a w U l L->wpAnyIn (FR N.ro) n P .any pre.toArray ((⟨fun l L=>JIL E P N ops.toArray rest Q l L k,fun _ _=>False,fun _ _ _=>False⟩:Post).out (wG N L) w U L) pre.length (Array.replicate pre.length false) a w.drew):JI E P N (.region id ops.toArray true) Q l L k:=by
 intro n a w U hs;refine wpIn_region_any hm ?_;rw [List.size_toArray];have h3:=Q15 hc;have h4:ops.take pre.length=pre:=by rw [<- h0]; simp
 have h5:ops.drop pre.length=rest:=by rw [<- h0]; simp
 have key:=H1e (F:=FR N.ro) (n:=n) (P:=P) (Q:=Q.out E N) (Q':=fun e a' w'=>e=.normal/\wpListIn (FR N.ro) n P ops.toArray (Q.out E N) rest a' w') h3 (fun a w h=>by rw [h5]; exact h.2) (fun e a w he h=>(he h.1).elim) pre.length (Array.replicate ops.length false) (Array.replicate pre.length false) a w.drew
  ⟨by simp,by simp,fun i hi=>?_,fun i hi=>?_,fun i o hi hl=>?_⟩ ?_
 .have:=h3.le
  rwa [show pre.length+(ops.length - pre.length)=ops.length by omega] at key
 .have e1:(Array.replicate ops.length false).getD i false=false:=by simp only [Array.getD_eq_getD_getElem?,Array.getElem?_replicate]; split <;> rfl
  have e2:(Array.replicate pre.length false).getD i false=false:=by simp only [Array.getD_eq_getD_getElem?,Array.getElem?_replicate]; split <;> rfl
  rw [e1,e2]
 .simp only [Array.getD_eq_getD_getElem?,Array.getElem?_replicate]; split <;> rfl
 .simp only [Array.getD_eq_getD_getElem?,Array.getElem?_replicate] at hl;split at hl <;> simp at hl
 .rw [h4];refine wQ (ds:=a.defers) (fun e a' w' q=>?_) _ _ { a with defers:=[] } _ (h n { a with defers:=[] } w U hs.stok);cases e with
  | normal=>obtain⟨U',l',L',h1,h2⟩:=q; exact⟨rfl,h2 n _ w' U' (hs.after hE h1)⟩
  | ret=>obtain⟨U',l',L',h1,h2⟩:=q; exact h2.elim
  | exit i=>obtain⟨U',l',L',h1,h2⟩:=q; exact h2.elim
  | _=>exact q.elim
theorem Jcb (pre rest:AM) (ws los his:AI) (Ls:List Loc) (hE:E.Ok P) (hm:P.follows .mixedOrders=true) (h2:pre++rest=ops) (hc:xM ops pre.length=true) (chk:nL pre ws los his=true) (h0:Ls[0]? = some L) (h1:Ls[ws.length]? = some L')
  (h:bD P N pre.toArray ws los his Ls 0 pre l (fun l'=>JIL E P N ops.toArray rest Q l' L' k)) (h3:pre.all bL=true:=by rfl):JI E P N (.region id ops.toArray true) Q l L k:=
 Q3e h2 hm hE hc fun n a w U hs=>H8e (K:=fun l L=>JIL E P N ops.toArray rest Q l L k) ws los his Ls chk h0 h1 h h3 n a w U hs
theorem J89 (p:Nat) (ws los his:AI) (Ls:List Loc) (hE:E.Ok P) (hm:P.follows .mixedOrders=true) (hc:xM ops (ops.take p).length=true) (chk:nL (ops.take p) ws los his=true) (h0:Ls[0]? = some L) (h1:Ls[ws.length]? = some L')
  (h:bD P N (ops.take p).toArray ws los his Ls 0 (ops.take p) l (fun l'=>JIL E P N ops.toArray (ops.drop p) Q l' L' k)) (h2:(ops.take p).all bL=true:=by rfl):JI E P N (.region id ops.toArray true) Q l L k:=
 Jcb (ops.take p) (ops.drop p) ws los his Ls hE hm (List.take_append_drop p ops) hc chk h0 h1 h h2
end

theorem J97 {o:Oper} {l:Fr} {L L0:Loc} {i ver k n t:Nat} {xs:AD} (h:Gy P o l L (Is (.vec i ver k n) ((i,.vec t k ver xs)::L0))):Gy P o l L (Is (.list k xs) ((i,.vec t k (ver+1) [])::L0)):=by
 intro a w U K Q h8 a0 hK;refine h a w U K Q h8 a0 ?_;rintro u L' v w' U' ⟨rfl,rfl⟩ sat' st' hv;have hi:lk ((i,Jb.vec t k ver xs)::L0) i=some (.vec t k ver xs):=by rw [Ge,if_pos rfl]
 have h0:fL ((i,Jb.vec t k (ver+1) [])::(i,Jb.vec t k ver xs)::L0) ((i,.vec t k (ver+1) [])::L0):=fun id=>by
  rw [Ge,Ge,Ge];by_cases e:i=id
  .rw [if_pos e,if_pos e]
  .rw [if_neg e,if_neg e,if_neg e]
 obtain⟨rfl,hk,h⟩:=cX sat' hi hv;obtain⟨st,sat⟩:=R0 (w':=w') (t:=t) (k:=k) (BA:=ver+1) (xs':=[]) (ob':=none) sat' (.inr ⟨ver,xs,hi,by omega,fun e=>by omega⟩) rfl rfl ⟨rfl,Pf⟩ (Pf) (fun _ _ _=>rfl) (.inl rfl);have sat2:=sat ⟨by simp,.inl ⟨rfl,rfl⟩⟩;have st2:=(st'.trans st).BK h0;refine hK _ _ v w' _ ⟨rfl,rfl⟩ (sat2.BK h0) st2 ?_;have stl:=st.BK h0;rcases h with ⟨e,rfl,_⟩ | ⟨b,cap,vs,e,hb,h1,h2,h3,h4,h5⟩
 .rw [e]; exact .data (.nil (Nat.zero_le _))
 .rw [e];have h6:∀ q,q < (flat xs).length->q < vs.size:=fun q hq=>by
   rw [J2 hk] at hq;have:=Nat.mul_le_mul_right k h1;omega
  refine .data (.list (fun q=>vs.getD q undef) h1 h2 hk (fun q hq=>⟨⟨(Nz h3).1,sat'.apart i b _ (by rw [hi]; rfl) hb,fun id o ho h7=>?_⟩,?_⟩) (fun q u hu=>?_))
  .rw [Ge] at ho;by_cases e:i=id
   .subst e; simp [upP] at h7
   .rw [if_neg e] at ho;have h9:U'.at_ id=some b:=by simpa [upP,Ne.symm e] using h7
    exact absurd (sat'.inj i id b (by rw [hi]; rfl) (by rw [Ge,if_neg e,ho]; rfl) hb h9) e
  .have:=h6 q hq;simp [World.cell?,h3,this]
  .have hq:=(Pa hu).1;have:=h6 q hq;refine(h5 q u _ hu ?_).mono stl.AX;simp [this]

theorem Q2.nilArg {f:FuncId} {args args':AD} {i E k:Nat} {R:AV->Loc->Prop} (h:Q2 P f args [(i,.vec E k 0 [])] R) (j:Nat) (ha:args=args'.set j (.vec i 0 k 0)) (hn:args'[j]? = some (.sc (.slice none 0 0))):Q2 P f args' [] R:=by
 intro w U vs h4 hl hv;have n1:(upP U i none) i=none:=by simp [upP]
 have li:lk [(i,Jb.vec E k 0 [])] i=some (.vec E k 0 []):=by rw [Ge,if_pos rfl]
 have one:∀ id b,(lk [(i,Jb.vec E k 0 [])] id).isSome=true->(upP U i none) id=some b->False:=fun id b h1 h2=>by
  rw [Ge] at h1;split at h1
  .rename_i e; subst e; rw [n1] at h2; cases h2
  .simp [lk] at h1
 have stab1:∀ b j,Hs w U [] b j->Hs w (upP U i none) [(i,Jb.vec E k 0 [])] b j:=fun b j hh=>⟨hh.lt,hh.seen,fun id o ho hb=>(one id b (by rw [ho]; rfl) hb).elim⟩;have h5:Sat w (upP U i none) [(i,Jb.vec E k 0 [])]:=⟨h4.hid,fun id b h1 h2=>(one id b h1 h2).elim,fun id b j h1 h2=>(one id b h1 h2).elim,fun id id' b h1 h2 h3=>(one id b h1 h3).elim,fun id o ho=>by
  rw [Ge] at ho;split at ho
  .rename_i e; subst e; cases ho;exact⟨fun x hx=>(by cases hx),.inl ⟨n1,rfl⟩⟩
  .simp [lk] at ho⟩
 have h6:j < args'.length:=(Pa hn).1;refine(h w (upP U i none) vs h5 (by rw [ha,List.length_set]; exact hl) fun j' u v hu h0=>?_).mono fun e w' hh=>?_
 .rw [ha,List.getElem?_set] at hu;by_cases e:j=j'
  .subst e;rw [if_pos rfl,if_pos h6] at hu;cases hu;have:=(hv j _ v hn h0).inv_sc;subst this;exact .vec ⟨E,0,_,li,Pf,fun _=>⟨rfl,.inl ⟨rfl,rfl,n1⟩⟩⟩ rfl
  .rw [if_neg e] at hu;exact(hv j' u v hu h0).up stab1 (fun id o ho=>by simp [lk] at ho)
 .obtain⟨v,r,U2,L2,rfl,h7,st,h8,hR⟩:=hh;refine⟨v,r,U2,L2,rfl,h7,⟨st.os,st.tape,st.output,st.size,st.hid,fun b j hb=>st.AX b j (stab1 b j hb),fun b hb hf=>st.far b hb (fun id h1 h2=>one id b h1 h2),fun id t cs h=>by simp [lk] at h,fun id t cs h=>by simp [lk] at h,fun id m n es h=>by simp [lk] at h,fun id t k ver xs h=>by simp [lk] at h,fun id t k ver hw h=>by simp [lk] at h⟩,h8,hR⟩
end Go.Proofs.YtbgfgnddogfpcaaGreat
