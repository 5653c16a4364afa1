/-
 Parts of slices that the call may write in place: Calls that leave objects whose versions are not known before Models of functions that range over maps: Functions that are ranged over: A range over a function,the caller's side: More steps: Slices that begin as an empty literal and are appended to; Is a slice nil: Appending to a part from the front of a slice of the call's A slice of slices of the call's own,whose last slice still g Drawn orders whose last operation,behind all the others,is g The typed steps of slices of slices whose last slice grows.
-/
import Derived.Test.YtkiekighbhnolaaGreatDraw2
namespace Go.Proofs.YtkiekighbhnolaaGreat
open Go.RowKit


/-! ### Typed elements -/
section typed
variable {P:Program} {o:Oper} {l:Fr} {L:Loc} {J:Type}
def qQ (k:IntKind) (m:Int) (s:Nat):Int:=m.fdiv (2 ^ (min s k.bits))
theorem G49 {T T':Nat} {x y:Operand} {k k':IntKind} {m n:Int} {s:Nat} (hn:n=(s:Int)) (ho:o.op=.binOp .shr T x y T') (hx:ev l x=.sc (.int k m)) (hy:ev l y=.sc (.int k' n)):H1 P o l L (Is (.sc (.int k (qQ k m s))) L):=
 R57 hn rfl ho hx hy
end typed
set_option linter.unusedVariables false

variable {P:Program}
theorem Qn.mono {f:FuncId} {args:AD} {L0:Loc} {R R':AV->Loc->Prop} (h:Qn P f args L0 R) (hr:∀ u L,R u L->R' u L):Qn P f args L0 R':=fun w β vs a b c=>
 (h w β vs a b c).mono fun e w' hh=>by
  obtain⟨v,r,J',L',h1,h2,h3,h4,h5⟩:=hh;exact⟨v,r,J',L',h1,h2,h3,h4,hr _ _ h5⟩
theorem Pure.monoP {f:FuncId} {args:AD} {R R':AV->Prop} (h:Pure P f args R) (hr:∀ u,R u->R' u):Pure P f args R':=Qn.mono h (fun u L hh=>⟨hh.1,hr u hh.2⟩)
def Jab:Loc->AI->Bool
 | [],_=>true
 | (i,_)::r,B=>B.any (Nat.beq i)&&Jab r B
theorem qU {B:AI}:∀ {L0:Loc},Jab L0 B=true->∀ id,(lk L0 id).isSome=true->id∈B
 | [],_,id,h=>by simp [lk] at h
 | (i,o)::r,hb,id,h=>by
  simp only [Jab,S8,List.any_eq_true] at hb;rw [Gp] at h;by_cases e:i=id
  .obtain⟨x,hx,h0⟩:=hb.1;rw [<- e,Pm h0]; exact hx
  .rw [if_neg e] at h; exact qU hb.2 id h

variable {N:Cfg} {l:Fr} {L:Loc} {E i k n ver:Nat} {Q:Post}
theorem G1f {c:Code} (s:Nat) {xs:AD} (h1:look l s=.vec i ver k n) (hi:lk L i=some (.vec E k ver xs)) (h:n=xs.length->JC P N c Q l L):JC P N c Q l L:=fun n w0 β0 L0 a w β hs=>
 h (by
  have hv:=hs.frame.tmp s;rw [h1] at hv;exact(lI hs.sat hi hv).1) n w0 β0 L0 a w β hs
variable {ops:Array Oper} {rest:List Oper}
theorem Je5 (s:Nat) {xs:AD} (h1:look l s=.vec i ver k n) (hi:lk L i=some (.vec E k ver xs)) (h:n=xs.length->JL P N ops rest Q l L):JL P N ops rest Q l L:=fun n w0 β0 L0 a w β hs=>
 h (by
  have hv:=hs.frame.tmp s;rw [h1] at hv;exact(lI hs.sat hi hv).1) n w0 β0 L0 a w β hs

variable {T:Nat}
theorem J37 {o:Oper} {J:Type} {x:Operand} {k' d:Nat} {f:J->AV} {xs:List J} (hT:sliceB P T E k'=true) (ho:o.op=.call { callee:=.builtin .len,args:=#[x],argTypes:=#[T] }) (hx:ev l x=.vec i ver k n) (hi:lk L i=some (.vec E k ver (xs.map f)))
  (hk:xs.length<=maxLen->JL P N ops rest Q ((d,I64 (xs.length:Int))::l) L) (hg:o.guard=none) (hd:o.dst=some d) (hn:Nat.blt d N.n=true):JL P N ops (o::rest) Q l L:=by
 intro n w0 β0 L0 a w β hs;have hv:=hs.frame.ev x;rw [hx] at hv;obtain⟨e,_,h⟩:=lI hs.sat hi hv;rw [Sa] at e;subst e;have hm:xs.length<=maxLen:=by
  rcases h with ⟨_,h2,_⟩ | ⟨b,cap,vs,_,_,h3,h4,_⟩
  .rw [List.map_eq_nil_iff] at h2;rw [h2]; exact Nat.zero_le _
  .rw [Sa] at h3; exact Nat.le_trans h3 h4
 exact G0 (Jc0 hT ho hx hi) (hk hm) hg hd hn (by unfold gK; rw [ho]) n w0 β0 L0 a w β hs

section AF
variable {P:Program} {o:Oper} {l:Fr} {L:Loc} {Y:Type}
theorem Gec {f:FuncId} {vs:Array Value} {args:AD} {L0:Loc} {u:Y->AV} {Lr:Y->Loc} {a:Act} {w:World} {β:H4} {K:Act->World->Prop} {Q:Exit->Act->World->Prop} (hc:Qn P f args L0 (fun r L'=>∃ p,r=u p/\L'=Lr p)) (h0:Sat w β L)
  (h4:H24 L L0) (h6:closedIn (inL L0) L0=true) (h5:∀ p,tQ L L0 (Lr p)=true) (hl:vs.size=args.length)
  (hv:∀ (j:Nat) u v,args[j]? = some u->vs[j]? = some v->V w β L u v/\u.refs (inL L0)=true)
  (hK:∀ u' L' v w' J',(∃ p,u'=u p/\L'=Lr p++xR L L0)->Sat w' J' L'->Step w β L w' J' L'->V w' J' L' u' v->K (a.put o.dst v) w') :
  Calls P f vs w fun
   | .returned v,w''=>K (a.put o.dst v) w''
   | .panicked chain,w''=>Q (.panic chain) a w''
   | .outgrown,_=>LetsOut Q:=by
 refine(Ge3 hc h0 (fun id ob h=>h4.get h) (fun id ob h=>closedIn.get h6 h) hl hv (fun r L' hR id h=>by obtain⟨p,_,rfl⟩:=hR; exact tQ.get (h5 p) h)).mono fun e w' h=>?_;obtain⟨v,r,J',L',rfl,⟨p,rfl,rfl⟩,h1,h2,h3⟩:=h;exact hK _ _ v w' _ ⟨p,rfl,rfl⟩ h1 h2 h3

theorem kN {f:FuncId} {xs:List Operand} {args:AD} {ts:Array TypeId} {L0:Loc} {u:Y->AV} {Lr:Y->Loc} (ho:o.op=.call { callee:=.value (.func f),args:=xs.toArray,argTypes:=ts }) (hc:Qn P f args L0 (fun r L'=>∃ p,r=u p/\L'=Lr p)) (hB:Gz P f=true) (ha:QI l L0 xs args)
  (h0:H24 L L0) (h5:closedIn (inL L0) L0=true) (h3:∀ p,tQ L L0 (Lr p)=true):H1 P o l L (fun u' L''=>∃ p,u'=u p/\L''=Lr p++xR L L0):=by
 intro a w β K Q h4 hf hK;have hr:(execOp a.eval o).run P w=.ok (.enter f (xs.toArray.map a.eval)) w:=by
  simp [execOp,ho,resolve,Act.eval,Deferred.ofValue,invoke,Gz.out hB]
 unfold Oper.wp;rw [hr];refine Gec hc h4 h0 h5 h3 (by simp [ha.length]) (fun j u v hu hv=>?_) hK;simp only [Array.getElem?_map,List.getElem?_toArray,Option.map_eq_some_iff] at hv;obtain⟨x,hx,rfl⟩:=hv;obtain⟨h1,h2⟩:=ha.get hx hu;refine⟨?_,h2⟩;rcases h1 with h1 | h1
 .rw [<- h1]; exact hf.ev x
 .rw [<- h1]; exact(hf.ev x).plain

end AF

section rel
variable {J β Z R:Type} {r:R}
def Rel (r:R) (m:Option Prop) (d:Option R):Prop:=d=some r->∃ p:Prop,m=some p/\p
theorem xS {e:R}:Rel r (some (e=r)) (some e):=fun h=>⟨_,rfl,Pw h⟩
theorem JF {m:Option Prop}:Rel r m none:=fun h=>by cases h
variable {k:J->Option Prop} {k':J->Option R}
theorem sC {m:Option J} (h:∀ x,Rel r (k x) (k' x)):Rel r (bnd m k) (bnd m k'):=by
 cases m with
 | none=>exact JF
 | some x=>exact h x
theorem iH {c:Bool} {x y:Option Prop} {x' y':Option R} (h1:c=true->Rel r x x') (h2:c=false->Rel r y y'):Rel r (bif c then x else y) (bif c then x' else y'):=by
 cases c with
 | true=>exact h1 rfl
 | false=>exact h2 rfl
theorem Ga1 {z:Int} {k:Int->Option Prop} {k':Int->Option R} (h:∀ x,Rel r (k x) (k' x)):Rel r (chk z k) (chk z k'):=by
 unfold chk; exact iH (fun _=>h z) (fun _=>JF)
theorem Hff {l:List J} {i:Int} (h:∀ x,Rel r (k x) (k' x)):Rel r (Jk l i k) (Jk l i k'):=by
 unfold Jk; exact iH (fun _=>sC h) (fun _=>JF)
theorem Gd3 {m:(J->Option Prop)->Option Prop} {m':(J->Option R)->Option R} (h:∀ K K',(∀ a,Rel r (K a) (K' a))->Rel r (m K) (m' K')) (hk:∀ a,Rel r (k a) (k' a)):Rel r (jp m k) (jp m' k'):=h k k' hk
theorem G02 {b:J->Nat->Z->(Z->Option Prop)->Option Prop} {b':J->Nat->Z->(Z->Option R)->Option R} {kx:Z->Option Prop} {kx':Z->Option R}
  (h:∀ x i s nx nx',(∀ s,Rel r (nx s) (nx' s))->Rel r (b x i s nx) (b' x i s nx')) (hk:∀ s,Rel r (kx s) (kx' s)):∀ {xs:List J} {i:Nat} {s:Z},Rel r (each b kx xs i s) (each b' kx' xs i s)
 | [],_,s=>hk s
 | x::_,i,s=>h x i s _ _ (fun _=>G02 h hk)
theorem G00 {c:J->Bool} {e e':β}:∀ (l:List J) (s:Unit),G01 (fun x (_:Unit) nx=>bif c x then lft (some e) else nx ()) (fun _=>some e') l s=some (bif l.any c then e else e')
 | [],_=>rfl
 | x::l,s=>by
  rw [G01];cases hc:c x with
  | true=>simp [lft,hc]
  | false=>simp [hc,G00 l]
theorem Qa2 {c:J->Bool} {e e':R} {l:List J}:Rel r (H5d (fun x (_:Unit) nx=>bif c x then lft (some (e=r)) else nx ()) (fun _=>some (e'=r)) l ()) (G01 (fun x (_:Unit) nx=>bif c x then lft (some e) else nx ()) (fun _=>some e') l ()):=fun h=>by
 refine⟨_,rfl,fun q hq=>?_⟩;rw [G00] at h;refine⟨_,G00 q (),?_⟩;have h0:q.any c=l.any c:=by
  rw [Bool.eq_iff_iff,List.any_eq_true,List.any_eq_true];exact⟨fun⟨x,h1,h2⟩=>⟨x,hq.mem_iff.1 h1,h2⟩,fun⟨x,h1,h2⟩=>⟨x,hq.mem_iff.2 h1,h2⟩⟩
 rw [h0];have:=Pw h;cases hc:l.any c <;> rw [hc] at this <;> exact this
end rel
set_option linter.unusedSimpArgs false

structure G18 (X:Nat->Prop) (W W':World):Prop where
 os:W'.os=W.os
 tape:W'.tape=W.tape
 output:W'.output=W.output/\W.drawn<=W'.drawn
 size:W.heap.size<=W'.heap.size
 keep:∀ b,b < W.heap.size->¬ X b->W'.heap[b]? = W.heap[b]?





variable {t:TypeId}
theorem Yh.vecCell {w0 w:World} {β0 β:H4} {L0:Loc} {a:Act} (hs:Yh N w0 β0 L0 a w β l L) (i j id E k:Nat) {cs cs':AD} (hi:lk L i=some (.box t cs)) (hid:lk L id=none) (hj:cs[j]? = some (.sc (.slice none 0 0)))
  (h2:cs.set j (.vec id 0 k 0)=cs'):∃ J',Yh N w0 β0 L0 a w J' l ((i,.box t cs')::(id,.vec E k 0 [])::L):=by
 obtain⟨st,sat⟩:=aU (w':=w) (t:=E) (k:=k) (BK:=0) (xs':=[]) (ob':=none) hs.sat (.inl hid) rfl rfl ⟨rfl,Pz⟩ (Pz) (fun _ _ _=>rfl) (.inl rfl);have h1:Yh N w0 β0 L0 a w (upP β id none) l ((id,.vec E k 0 [])::L):=⟨sat ⟨by simp,.inl ⟨rfl,rfl⟩⟩,hs.step.trans st,hs.frame.step st,hs.size,hs.base,hs.defers.step st⟩;have h3:id≠i:=fun e=>by subst e; rw [hi] at hid; cases hid
 refine⟨_,h1.redescribe (i:=i) (t:=t) (cs:=cs) (by rw [Gp,if_neg h3]; exact hi) (by rw [<- h2]; simp) fun vs q u v h0 h5 hu hv=>?_⟩;rw [<- h2] at hu;by_cases e:j=q
 .subst e;have h4:j < cs.length:=(Pu hj).1;simp [List.getElem?_set,h4] at hu;subst hu;have:=h0 j _ v hj hv;rw [this.inv_sc];exact .vec ⟨E,0,[],(by rw [Gp,if_pos rfl]:lk ((id,Q3.vec E k 0 [])::L) id=_),Pz,fun _=>⟨rfl,.inl ⟨rfl,rfl,by rw [show (upP β id none).at_ id=none by simp [upP]]⟩⟩⟩ rfl
 .rw [List.getElem?_set_ne e] at hu;exact h0 q u v hu hv
theorem Jbb (i j id E k:Nat) {cs cs':AD} (hi:lk L i=some (.box t cs)) (hid:lk L id=none) (hj:cs[j]? = some (.sc (.slice none 0 0)))
  (h0:cs.set j (.vec id 0 k 0)=cs') (hk:JL P N ops rest Q l ((i,.box t cs')::(id,.vec E k 0 [])::L)):JL P N ops rest Q l L:=
 fun n w0 β0 L0 a w β hs=>by
  obtain⟨J',h⟩:=hs.vecCell i j id E k hi hid hj h0;exact hk n w0 β0 L0 a w J' h

theorem Q6e {o:Oper} {u:AV} {x y:Operand} (hT:Rh P T 0=true) (ho:o.op=.store T x y) (hu:ev l y=u) (hx:ev l x=.ptr i 0) (hi:lk L i=some (.box t []))
  (hc:u.BG=true) (hk:u.cells=[]):H1 P o l L (Is .AJ ((i,.box t [])::L)):=by
 subst hu;intro a w β K Q h0 hf hK;have h1:=hf.ev x;rw [hx] at h1;obtain⟨b,hb,h4⟩:=h1.inv_ptr;obtain⟨old,h2,h5,h8⟩:=QB h0 hi hb;obtain⟨c1,c2,c3⟩:=(hf.ev y).cells hc;rw [hk] at c1;have hr:=qR (P:=P) (off:=0) hT c1 c3 h2 (by omega);unfold Oper.wp;have h6:(execOp a.eval o).run P w=.ok .skip (w.setRow b (old.toList.take 0++(a.eval y).cells.toList++old.toList.drop (0+0)).toArray):=by
  simp [execOp,ho,h4,hr]
 rw [h6];have h3:old.size=0:=by simpa using h5
 have h7:(a.eval y).cells.size=0:=by simpa using c1
 refine hK _ _ _ _ β ⟨rfl,rfl⟩ (h0.set hi hb h2 _ ?_ ?_) (Step.set h0 hi hb _) .AJ
 .simp [h7,h3]
 .intro j u v hu hv;simp at hu

/-! ### A variable of a map's type is set anew: the new map takes the old one's name -/

theorem Jd1 {w:World} {β:H4} (E k:Nat) (vs:Array Value) (cap:Nat) (h7:cap<=maxLen) (h8:(w.alloc (.cells vs E)).ownsRow 0 E k (.slice (some ⟨w.heap.size,0,none⟩) 0 cap) 0 []) (h0:Sat w β L) (hi:lk L i=none) :
  Step w β L (w.alloc (.cells vs E)) (upP β i (some w.heap.size)) ((i,.spare E k 0 0)::L)/\Sat (w.alloc (.cells vs E)) (upP β i (some w.heap.size)) ((i,.spare E k 0 0)::L) /\
  V (w.alloc (.cells vs E)) (upP β i (some w.heap.size)) ((i,.spare E k 0 0)::L) (.own i 0 k []) (.slice (some ⟨w.heap.size,0,none⟩) 0 cap):=by
 have a0:∀ id,(lk L id).isSome=true->i≠id:=fun id h e=>by subst e; rw [hi] at h; cases h
 have h5:∀ b,b < w.heap.size->(w.alloc (.cells vs E)).heap[b]? = w.heap[b]? := fun b hb=>Qw w _ hb;have h6:w.heap.size < (w.alloc (.cells vs E)).heap.size:=by simp
 have st:Step w β L (w.alloc (.cells vs E)) (upP β i (some w.heap.size)) ((i,.spare E k 0 0)::L):=by
  refine⟨rfl,rfl,⟨rfl,Pz⟩,Nat.le_of_lt h6,fun _ _ _=>Iff.rfl,fun b j hs=>⟨⟨Nat.lt_trans hs.lt h6,hs.seen,fun id ob hid hb=>?_⟩,Qa (w:=w) (h5 b hs.lt)⟩,fun b hb h9=>⟨h5 b hb,fun id hid e=>?_⟩,fun id t cs hid=>?_,fun id t cs hid=>?_,fun id t n cs hid=>?_,fun id t k' ver xs hid=>?_,fun id t k' ver hw hid=>?_⟩
  .rw [Gp] at hid;by_cases e:i=id
   .subst e; simp only [upP,if_true] at hb; cases hb; exact absurd hs.lt (Nat.lt_irrefl _)
   .rw [if_neg e] at hid; simp only [upP,if_neg (Ne.symm e)] at hb; exact hs.kept id ob hid hb
  .rw [Gp] at hid;by_cases e':i=id
   .subst e'; simp only [upP,if_true] at e; cases e; exact absurd hb (Nat.lt_irrefl _)
   .rw [if_neg e'] at hid; simp only [upP,if_neg (Ne.symm e')] at e; exact h9 id hid e
  all_goals
   have e:=a0 id (by rw [hid]; rfl)
  .exact⟨by simp [upP,Ne.symm e],cs,by rw [Gp,if_neg e]; exact hid⟩
  .exact⟨by simp [upP,Ne.symm e],cs,by rw [Gp,if_neg e]; exact hid⟩
  .exact⟨by simp [upP,Ne.symm e],n,cs,by rw [Gp,if_neg e]; exact hid⟩
  .exact⟨ver,xs,by rw [Gp,if_neg e]; exact hid,Pz,fun _=>⟨rfl,by simp [upP,Ne.symm e],fun b hb=>eC (h5 b (h0.bnd id b (by rw [hid]; rfl) hb))⟩⟩
  .exact⟨ver,hw,by rw [Gp,if_neg e]; exact hid,Pz,fun _=>⟨rfl,by simp [upP,Ne.symm e],fun b hb=>h5 b (h0.bnd id b (by rw [hid]; rfl) hb)⟩⟩
 refine⟨st,⟨fun b j h=>Nat.lt_trans (h0.hid b j h) h6,fun id b hid hb=>?_,fun id b j hid hb hh=>?_,fun id id' b h1 h2 h3 h4=>?_,fun id ob hid=>?_⟩,?_⟩
 .rw [Gp] at hid;by_cases e:i=id
  .subst e; simp only [upP,if_true] at hb; cases hb; exact h6
  .rw [if_neg e] at hid; simp only [upP,if_neg (Ne.symm e)] at hb; exact Nat.lt_trans (h0.bnd id b hid hb) h6
 .rw [Gp] at hid;by_cases e:i=id
  .subst e; simp only [upP,if_true] at hb; cases hb; exact absurd (h0.hid _ _ hh) (Nat.lt_irrefl _)
  .rw [if_neg e] at hid; simp only [upP,if_neg (Ne.symm e)] at hb; exact h0.apart id b j hid hb hh
 .by_cases e:i=id
  .by_cases e':i=id'
   .rw [<- e,e']
   .subst e;rw [Gp,if_neg e'] at h2;simp only [upP,if_true] at h3;simp only [upP,if_neg (Ne.symm e')] at h4;cases h3;exact absurd (h0.bnd id' _ h2 h4) (Nat.lt_irrefl _)
  .by_cases e':i=id'
   .subst e';rw [Gp,if_neg e] at h1;simp only [upP,if_true] at h4;simp only [upP,if_neg (Ne.symm e)] at h3;cases h4;exact absurd (h0.bnd id _ h1 h3) (Nat.lt_irrefl _)
   .rw [Gp,if_neg e] at h1;rw [Gp,if_neg e'] at h2;simp only [upP,if_neg (Ne.symm e)] at h3;simp only [upP,if_neg (Ne.symm e')] at h4;exact h0.inj id id' b h1 h2 h3 h4
 .rw [Gp] at hid;by_cases e:i=id
  .subst e; simp at hid; subst hid;exact .inr ⟨w.heap.size,by simp [upP],vs,heap_alloc_new w _,by simp⟩
  .rw [if_neg e] at hid;simp only [upP,if_neg (Ne.symm e)];exact(h0.obj id ob hid).step st (fun b hb=>h5 b (h0.bnd id b (by rw [hid]; rfl) hb))
 .exact .own (.nil h7) ⟨E,0,0,by rw [Gp,if_pos rfl],Pz,fun _=>⟨rfl,by simp [Value.ownBlock,upP],[],h8,fun j u hu=>by simp [flat] at hu⟩⟩

def GB (P:Program) (T f off:Nat):Bool:=
 match P.underlying T with
 | some (.struct fs)=>match fs[f]? with
  | some fld=>fld.offset==off&&Jg P fld.type
  | none=>false
 | _=>false
theorem GB.out {f off:Nat} (h:GB P T f off=true):∃ fs fld,P.underlying T=some (.struct fs)/\fs[f]? = some fld/\fld.offset=off/\Jg P fld.type=true:=by
 unfold GB at h;split at h
 .rename_i fs h1;split at h
  .rename_i fld h2;simp only [S8,beq_iff_eq] at h;exact⟨fs,fld,h1,h2,h.1,h.2⟩
  .cases h
 .cases h

section ops
variable {P:Program} {N:Cfg} {o:Oper} {l:Fr} {L L':Loc} {u:AV} {J:Type}

theorem G8a (w:World) (base:Nat) (t ty e:TypeId) (i:TypeInfo) (size:Nat) (ht:P.underlying t=some (.slice e)) (hi:P.info? e=some i)
  (v:Value) (n:Nat) (xs:AM) (h0:w.ownsRow base e size v n xs) (ao:Option Addr) (c:Nat) :
  (Builtin.append_ #[t,t] ty #[v,.slice ao 0 c]).run P w=.ok v w:=by
 rcases h0.2 with ⟨rfl,rfl⟩ | ⟨g,cap,cur,rfl,_,_,h1,_⟩
 .cases ao <;> simp [Builtin.append_,run_underlying ht,sizeOf,typeInfo,hi,Builtin.lenOf,Builtin.firstCells,loadCells,loadCellsFrom]
 .cases ao <;> simp [Builtin.append_,run_underlying ht,sizeOf,typeInfo,hi,Builtin.lenOf,Builtin.firstCells,h1,storeCells,loadCells,loadCellsFrom]

variable {T i k:Nat} {x:Operand}
theorem Q30 {s:Operand} {E by_ ver n:Nat} {kx:Nat} {xs:AD} (ho:o.op=.call { callee:=.builtin .append,args:=#[s,x],argTypes:=#[T,T] }) (hs:ev l s=.own i ver k xs) (hi:lk L i=some (.spare E k ver n)) (hx:Q4 (ev l x)=some (kx,[]))
  (hT:sliceB P T E k=true) (hE:Qh P E k by_=true):H1 P o l L (Is (.own i ver k xs) L):=
 Hq fun a w β h7 hf=>by
  have hv:=hf.ev s;rw [hs] at hv;have h4:=(hf.ev x).Q4 hx;obtain⟨ao,cap,h5,_⟩:=h4.len;obtain⟨inf,z,e1,e2,e3,e4,e5,e6⟩:=Qh.out hE;have h6:=hv;cases hv with
  | data h=>cases h
  | own hd hp=>
   obtain⟨t,ver',hw,h1,h2,h3⟩:=hp;rw [hi] at h1;cases h1;obtain⟨rfl,h8,vals,h0,h9⟩:=h3 rfl;have hr:=G8a (P:=P) w 0 T o.type E inf k (sliceB.out hT).1 e1 (a.eval s) _ _ h0 ao cap;exact⟨a.eval s,by simp [execOp,ho,resolve,invoke,builtin,h5,hr],h6⟩

theorem nU {L:Loc} {s:Operand} {E by_ kx:Nat} {f:J->AV} {xs ys:List J} (ho:o.op=.call { callee:=.builtin .append,args:=#[s,x],argTypes:=#[T,T] }) (hs:ev l s=OW i k f xs) (hi:lk L i=some (.spare E k xs.length xs.length)) (hx:Q4 (ev l x)=some (kx,ys.map f))
  (hT:sliceB P T E k=true) (hE:Qh P E k by_=true) (hb:decide ((xs.length+ys.length)*by_<=140737488355328/\xs.length+ys.length<=maxLen)=true) (h2:∀ y,(f y).BG=true) (hk:kx=k\/ys=[]) :
  H1 P o l L (Is (OW i k f (xs++ys)) ((i,.spare E k (xs++ys).length (xs++ys).length)::L)):=by
 have h3:=Pq hb;by_cases h0:ys=[]
 .subst h0;have h:=Q30 (P:=P) (o:=o) (by_:=by_) ho hs hi (by simpa using hx) hT hE;rw [List.append_nil];intro a w β K Q h4 hf hK;refine h a w β K Q h4 hf (fun u L1 v w1 J1 hu h5 st1 h6=>?_);obtain⟨rfl,rfl⟩:=hu;have h1:nP L1 ((i,.spare E k xs.length xs.length)::L1):=fun j=>by
   rw [Gp];by_cases e:i=j
   .subst e; rw [if_pos rfl,hi]
   .rw [if_neg e]
  exact hK _ _ v w1 J1 ⟨rfl,rfl⟩ (h5.BS h1) (st1.BS h1) (h6.BS h1)
 .have h:=G4b (BK:=(xs++ys).length) (xs:=xs.map f) (ys:=ys.map f) ho hs hi hx hT hE (by simpa using h3.1) (by simpa using h3.2) (fun y hy=>by
   obtain⟨z,_,rfl⟩:=Sc.1 hy;exact h2 z) (hk.imp id (fun e=>by rw [e]; rfl)) (by
   have:=List.length_pos_iff.2 h0;rw [S6]; omega)
  simpa only [OW,List.map_append,S6,Sa] using h
def Qa0 (s:ByteArray) (z:Int):Option Int:=bif decide (0<=z) then (s[z.toNat]?).map (fun b=>(b.toNat:Int)) else none
theorem J42 {ix:Operand} {kd:IntKind} {s:ByteArray} {z v:Int} (hT:Jfe P T=true) (ho:o.op=.index T x ix) (hx:ev l x=.sc (.string s)) (hi:ev l ix=.sc (.int kd z)) (hv:Qa0 s z=some v):H1 P o l L (Is (.sc (.int .u8 v)) L):=
 Hq fun a w β _ hf=>by
  have h1:=hf.ev x;rw [hx] at h1;have h2:=hf.ev ix;rw [hi] at h2;unfold Qa0 at hv;by_cases h0:0<=z
  .rw [Ps h0,cond_true] at hv;cases hb:s[z.toNat]? with
   | none=>rw [hb] at hv; cases hv
   | some b=>
    rw [hb] at hv;cases hv;have hu:P.underlying T=some .string:=by
     unfold Jfe at hT;split at hT
     .assumption
     .cases hT
    exact⟨.int .u8 b.toNat,by simp [execOp,ho,Instr.index,asIntOf,underlying,hu,h1.inv_sc,h2.inv_sc,h0,hb],.sc⟩
  .rw [Pt h0,cond_false] at hv; cases hv
theorem H13 {f off:Nat} {cs:AD} (hT:GB P T f off=true) (ho:o.op=.field T x f) (hx:ev l x=.agg cs) (hn:cs[off]? = some u):H1 P o l L (Is u L):=
 Hq fun a w β _ hf=>by
  have h1:=hf.ev x;rw [hx] at h1;obtain⟨vs,he,hl,hv⟩:=h1.inv_agg;have h0:off < vs.size:=by
   rw [hl];rcases Po off cs.length with h | h
   .exact h
   .simp [List.getElem?_eq_none h] at hn
  obtain⟨fs,fld,g1,g2,rfl,g4⟩:=GB.out hT;exact⟨vs[fld.offset],by simp [execOp,ho,Instr.field,underlying,g1,g2,he,asAgg,part,rD g4,h0],hv fld.offset u _ hn (by simp [h0])⟩
theorem Q29 {y:Operand} {ver m t kk fo:Nat} {f:J->AV} {xs:List J} {e z:J} {u:AV} (hT:Rh P T kk=true) (ho:o.op=.store T x y) (hu:ev l y=u) (hx:ev l x=.BB i ver m fo) (hi:lk L i=some (.vec t k ver (xs.map f))) (he:xs[m]? = some e)
  (hc:u.BG=true) (hd:u.BF=true) (h1:RG fo u.cells (f e).cells=some (f z).cells) (hk:u.cells.length=kk) (h0:Nat.blt 0 kk=true) :
  H1 P o l L (Is .AJ ((i,.vec t k ver ((xs.set m z).map f))::L)):=by
 have h:=J41 (P:=P) (e:=f e) (z:=f z) (ds:=(f z).cells) hT ho hu hx hi (Qab he) hc hd h1 rfl hk h0;rw [<- List.map_set] at h;exact h
end ops


set_option linter.unusedVariables false




/-! ### Typed -/
set_option linter.unusedVariables false

section sound
variable {P:Program} {N:Cfg} {ops:List Oper} {ws los his:AI} {Ls:List Loc} {l0:Fr} {val:Nat->AV}

theorem Q69 {id:Nat} {Q:Post} {l:Fr} {L L':Loc} (r:List Oper) (last:Oper) (ws los his:AI) (Ls:List Loc) (hm:P.follows .mixedOrders=true) (chk:RE ops ws los his=true) (h0:Ls[0]? = some L) (h1:Ls[ws.length]? = some L')
  (hr:ops=r++[last]) (h3:(List.range r.length).all (fun j=>((lJ ops).getD r.length []).contains j)=true) (h5:ws.contains r.length=false) (h6:last.dst=none) (h:jP P N ops.toArray ws los his Ls 0 r l (fun l'=>JL P N ops.toArray [last] Q l' L')) (h7:ops.all gK=true:=by rfl):JC P N (.region id ops.toArray true) Q l L:=by
 have h4:ops.length=r.length+1:=by rw [hr]; simp
 have h2:ops[r.length]? = some last:=by rw [hr]; simp
 obtain⟨val,pc,hK⟩:=G34 ops ws los his Ls l _ r.length (by omega) (fun j o d hj ho hd=>by
  have h9:=(Pu ho).1;have e:j=r.length:=by omega
  rw [e,h2] at ho;cases ho;rw [h6] at hd; cases hd) r 0 (fun _=>.AJ) (fun j hj=>by rw [hr]; simp [S1 hj]) (by simp) (fun j o hj=>by omega) h
 intro n w0 β0 L0 a w β hs;refine wpIn_region_any hm ?_;rw [List.size_toArray];refine H5e (ro:=N.ro) (n:=n) (fun i o hi=>List.all_eq_true.1 h7 o (Px hi)) chk pc (.inr ⟨h4,last,h2,h3,h5,fun a w β L'' hL'' h8=>by rw [h1] at hL''; cases hL''; exact hK n w0 β0 L0 a w β h8⟩) ops.length (Array.replicate ops.length false) a _ ?_ (by simp only [Array.getD_eq_getD_getElem?,Array.getElem?_replicate]; split <;> rfl) ⟨by simp,⟨fun i o e hi=>?_⟩,β,L,?_,?_⟩
 .exact Nat.le_trans (Pn _ _) (by simp)
 .simp only [Array.getD_eq_getD_getElem?,Array.getElem?_replicate] at hi;split at hi <;> simp at hi
 .have:cnt (fun i=>(Array.replicate ops.length false).getD i false) ws=0:=by
   unfold cnt;have hf:∀ i,(Array.replicate ops.length false).getD i false=false:=fun i=>by
    simp only [Array.getD_eq_getD_getElem?,Array.getElem?_replicate]; split <;> rfl
   simp [hf]
  rw [this]; exact h0
 .have this:dN ops l val (fun i=>(Array.replicate ops.length false).getD i false) ops.length=l:=by
   have hf:(fun i=>(Array.replicate ops.length false).getD i false)=fun _=>false:=by
    funext i;simp only [Array.getD_eq_getD_getElem?,Array.getElem?_replicate]; split <;> rfl
   rw [hf];have:∀ n,dN ops l val (fun _=>false) n=l:=by
    intro n
    induction n with
    | zero=>rfl
    | succ n ih=>
     cases hd:(ops[n]?).bind (·.dst) with
     | none=>simp only [dN,hd]; exact ih
     | some d=>simp only [dN,hd,Bool.false_eq_true,if_false]; exact ih
   exact this _
  rw [this]; exact hs.drew
theorem Q68 {id:Nat} {Q:Post} {l:Fr} {L L':Loc} (q:Nat) (last:Oper) (ws los his:AI) (Ls:List Loc) (hm:P.follows .mixedOrders=true) (chk:RE ops ws los his=true) (h0:Ls[0]? = some L) (h1:Ls[ws.length]? = some L') (hq:ops.drop q=[last]) (h3:(List.range q).all (fun j=>((lJ ops).getD q []).contains j)=true) (h4:ws.contains q=false) (h5:last.dst=none)
  (h:jP P N ops.toArray ws los his Ls 0 (ops.take q) l (fun l'=>JL P N ops.toArray [last] Q l' L')) (h6:ops.all gK=true:=by rfl):JC P N (.region id ops.toArray true) Q l L:=by
 have h2:(ops.take q).length=q:=by
  have:=congrArg List.length hq;rw [List.length_drop] at this;rw [List.length_take];simp at this; omega
 have hr:ops=ops.take q++[last]:=by rw [<- hq,List.take_append_drop]
 exact Q69 (ops.take q) last ws los his Ls hm chk h0 h1 hr (by rw [h2]; exact h3) (by rw [h2]; exact h4) h5 h h6
end sound
set_option linter.unusedVariables false

end Go.Proofs.YtkiekighbhnolaaGreat
