/-
 More steps: Slices that begin aQ an empty literal and are appended to; Is a slice nil: Appending to a part from the front of a slice of the call's A slice of slices of the call's own,whose last slice still g Drawn orders whose last operation,behind all the others,is g The typed steps of slices of slices whose last slice grows.
-/
import Derived.Test.YtbgfgnddogfpcaaGreatRangeF
set_option linter.unusedSimpArgs false
namespace Go.Proofs.YtbgfgnddogfpcaaGreat
open Go.RowKit

variable {l:Fr} {U:Gx} {L:Loc} {t:TypeId} {w:World}
theorem Qn.vecCell {N:Cfg} {w0:World} {U0:Gx} {L0:Loc} {a:Act} (hs:Qn N w0 U0 L0 a w U l L) (i j id E k:Nat) {cs cs':AD} (hi:lk L i=some (.box t cs)) (hid:lk L id=none) (hj:cs[j]? = some (.sc (.slice none 0 0)))
  (h2:cs.set j (.vec id 0 k 0)=cs'):∃ U',Qn N w0 U0 L0 a w U' l ((i,.box t cs')::(id,.vec E k 0 [])::L):=by
 obtain⟨st,sat⟩:=R0 (w':=w) (t:=E) (k:=k) (BA:=0) (xs':=[]) (ob':=none) hs.sat (.inl hid) rfl rfl ⟨rfl,Pf⟩ (Pf) (fun _ _ _=>rfl) (.inl rfl);have h1:Qn N w0 U0 L0 a w (upP U id none) l ((id,.vec E k 0 [])::L):=⟨sat ⟨by simp,.inl ⟨rfl,rfl⟩⟩,hs.step.trans st,hs.frame.step st,hs.size,hs.base,hs.defers.step st⟩;have h3:id≠i:=fun e=>by subst e; rw [hi] at hid; cases hid
 refine⟨_,h1.redescribe (i:=i) (t:=t) (cs:=cs) (by rw [Ge,if_neg h3]; exact hi) (by rw [<- h2]; simp) fun vs q u v h0 h5 hu hv=>?_⟩;rw [<- h2] at hu;by_cases e:j=q
 .subst e;have h4:j < cs.length:=(Pa hj).1;simp [List.getElem?_set,h4] at hu;subst hu;have:=h0 j _ v hj hv;rw [this.inv_sc];exact .vec ⟨E,0,[],(by rw [Ge,if_pos rfl]:lk ((id,Jb.vec E k 0 [])::L) id=_),Pf,fun _=>⟨rfl,.inl ⟨rfl,rfl,by rw [show (upP U id none).at_ id=none by simp [upP]]⟩⟩⟩ rfl
 .rw [List.getElem?_set_ne e] at hu;exact h0 q u v hu hv
variable {P:Program}
theorem G7f {N:Cfg} {ops:Array Oper} {rest:AM} {Q:Post} (i j id E k:Nat) {cs cs':AD} (hi:lk L i=some (.box t cs)) (hid:lk L id=none) (hj:cs[j]? = some (.sc (.slice none 0 0)))
  (h0:cs.set j (.vec id 0 k 0)=cs') (hk:JL P N ops rest Q l ((i,.box t cs')::(id,.vec E k 0 [])::L)):JL P N ops rest Q l L:=
 fun n w0 U0 L0 a w U hs=>by
  obtain⟨U',h⟩:=hs.vecCell i j id E k hi hid hj h0;exact hk n w0 U0 L0 a w U' h

variable {T i:Nat} {o:Oper} {x y:Operand}
theorem Jdc {u:AV} (hT:R3 P T 0=true) (ho:o.op=.store T x y) (hu:ev l y=u) (hx:ev l x=.ptr i 0) (hi:lk L i=some (.box t []))
  (hc:u.BI=true) (hk:u.cells=[]):Gy P o l L (Is .AL ((i,.box t [])::L)):=by
 subst hu;intro a w U K Q h0 hf hK;have h1:=hf.ev x;rw [hx] at h1;obtain⟨b,hb,h4⟩:=h1.inv_ptr;obtain⟨old,h2,h5,h8⟩:=yB h0 hi hb;obtain⟨c1,c2,c3⟩:=(hf.ev y).cells hc;rw [hk] at c1;have hr:=nP (P:=P) (off:=0) hT c1 c3 h2 (by omega);unfold Oper.wp;have h6:(execOp a.eval o).run P w=.ok .skip (w.setRow b (old.toList.take 0++(a.eval y).cells.toList++old.toList.drop (0+0)).toArray):=by
  simp [execOp,ho,h4,hr]
 rw [h6];have h3:old.size=0:=by simpa using h5
 have h7:(a.eval y).cells.size=0:=by simpa using c1
 refine hK _ _ _ _ U ⟨rfl,rfl⟩ (h0.set hi hb h2 _ ?_ ?_) (Step.set h0 hi hb _) .AL
 .simp [h7,h3]
 .intro j u v hu hv;simp at hu

variable {f:FuncId} {args xs:AD} {k n:Nat}
theorem Q2.ver {t:Nat} (h:Q2 P f args [] (fun u L'=>∃ p:Nat,u=.vec i p k n/\L'=[(i,.vec t k p xs)])) (q:Nat):Q2 P f args [] (fun u L'=>u=.vec i q k n/\L'=[(i,.vec t k q xs)]):=by
 intro w U vs h6 hl hv;refine(h w U vs h6 hl hv).mono fun e w' hr=>?_;obtain⟨v,r,U',L',rfl,hs,st,h8,p,rfl,rfl⟩:=hr;have h4:∀ id,(lk [(i,Jb.vec t k p xs)] id).isSome=(lk [(i,Jb.vec t k q xs)] id).isSome:=fun id=>by
  rw [Ge,Ge]; split <;> rfl
 have h5:∀ b j,Hs w' U' [(i,Jb.vec t k p xs)] b j->Hs w' U' [(i,Jb.vec t k q xs)] b j:=fun b j h=>⟨h.lt,h.seen,fun id o ho hb=>by
  rw [Ge] at ho;by_cases e:i=id
  .subst e;rw [if_pos rfl] at ho; cases ho;exact(show False from h.kept i (.vec t k p xs) (by rw [Ge,if_pos rfl]) hb).elim
  .rw [if_neg e] at ho; cases ho⟩
 refine⟨v,_,U',_,rfl,⟨hs.hid,fun id b h1=>hs.bnd id b (by rw [h4]; exact h1),fun id b j h1=>hs.apart id b j (by rw [h4]; exact h1),fun id id' b h1 h2=>hs.inj id id' b (by rw [h4]; exact h1) (by rw [h4]; exact h2),fun id o ho=>?_⟩,
  ⟨st.os,st.tape,st.output,st.size,st.hid,fun b j h=>⟨h5 b j (st.AX b j h).1,(st.AX b j h).2⟩,fun b hb hf=>⟨(st.far b hb hf).1,fun id hid=>(st.far b hb hf).2 id (by rw [h4]; exact hid)⟩,fun id t cs h=>by simp [lk] at h,fun id t cs h=>by simp [lk] at h,fun id t n cs h=>by simp [lk] at h,fun id t k ver xs h=>by simp [lk] at h,fun id t k ver xs h=>by simp [lk] at h⟩,?_,rfl,rfl⟩
 .rw [Ge] at ho;by_cases e:i=id
  .subst e;rw [if_pos rfl] at ho; cases ho;have h0:=hs.obj i _ (by rw [Ge,if_pos rfl]);refine⟨h0.1,h0.2.imp_right ?_⟩;rintro⟨b,hb,vs,a1,a2,a3⟩;exact⟨b,hb,vs,a1,a2,fun j u v hu hv=>(a3 j u v hu hv).mono fun b i hs=>⟨h5 b i hs,rfl⟩⟩
  .rw [if_neg e] at ho; cases ho
 .cases h8 with
  | data h=>cases h
  | vec hp h7=>
   obtain⟨t',ver',xs',h1,_,h3⟩:=hp;rw [Ge,if_pos rfl] at h1; cases h1;exact .vec ⟨t,q,xs,by rw [Ge,if_pos rfl],Pf,fun _=>h3 rfl⟩ h7
variable {E:Nat}
theorem Q2.fresh0 (h:Q2 P f args [] (fun av L'=>∃ p,av=.vec i p k n/\L'=[(i,.vec E k p xs)])):Q2 P f args [] (fun av L'=>av=.vec i 0 k n/\L'=[(i,.vec E k 0 xs)]):=h.ver 0

theorem Q2.data0 (h:Q2 P f args [] (fun av L'=>∃ p,av=.vec i p k n/\L'=[(i,.vec E k p xs)])):Pure P f args (·=.list k xs):=by
 intro w U vs h0 hl hv;refine(h w U vs h0 hl hv).mono fun e w' hh=>?_;obtain⟨v,r,U',L',rfl,hs,st,h1,p,rfl,rfl⟩:=hh;have hd:V w' U' [] (.list k xs) v:=V.vfreeze hs (by rw [Ge,if_pos rfl]) ⟨fun id o h=>by simp [lk] at h⟩ rfl h1;refine⟨v,_,U',[],rfl,⟨hs.hid,fun id b h=>by simp [lk] at h,fun id b j h=>by simp [lk] at h,fun id id' b h=>by simp [lk] at h,fun id o h=>by simp [lk] at h⟩,
  ⟨st.os,st.tape,st.output,st.size,st.hid,fun b j hb=>⟨⟨(st.AX b j hb).1.lt,(st.AX b j hb).1.seen,fun id o h=>by simp [lk] at h⟩,(st.AX b j hb).2⟩,fun b hb hf=>⟨(st.far b hb hf).1,fun id h=>by simp [lk] at h⟩,fun id t cs h=>by simp [lk] at h,fun id t cs h=>by simp [lk] at h,fun id m n es h=>by simp [lk] at h,fun id t k ver xs h=>by simp [lk] at h,fun id t k ver hw h=>by simp [lk] at h⟩,hd,rfl,rfl⟩

def kD (l:Fr):List Operand->AD->Prop
 | [],[]=>True
 | x::r,u::s=>((ev l x).plain=u\/∃ k,u=.list k []/\ev l x=.sc (.slice none 0 0))/\u.BF=true/\kD l r s
 | _,_=>False
theorem kD.length {l:Fr}:∀ {xs:List Operand} {us:AD},kD l xs us->xs.length=us.length
 | [],[],_=>rfl
 | _::_,_::_,h=>by simp [kD.length h.2.2]
 | [],_::_,h=>h.elim
 | _::_,[],h=>h.elim
theorem kD.get:∀ {xs:List Operand} {us:AD},kD l xs us->∀ {j:Nat} {x:Operand} {u:AV},xs[j]? = some x->us[j]? = some u->((ev l x).plain=u\/∃ k,u=.list k []/\ev l x=.sc (.slice none 0 0))/\u.BF=true
 | x::r,u::s,h,j,x',u',hx,hu=>by
  cases j with
  | zero=>simp at hx hu; subst hx; subst hu; exact⟨h.1,h.2.1⟩
  | succ j=>simp at hx hu; exact h.2.2.get hx hu
 | [],[],_,j,_,_,hx,_=>by simp at hx
 | [],_::_,h,_,_,_,_,_=>h.elim
 | _::_,[],h,_,_,_,_,_=>h.elim
theorem Jeb {u:AV} {xs:List Operand} {ts:Array TypeId} (ho:o.op=.call { callee:=.value (.func f),args:=xs.toArray,argTypes:=ts }) (hc:Pure P f args (·=u)) (hB:H5 P f=true) (ha:kD l xs args):Gy P o l L (Is u L):=by
 intro a w U K Q h0 hf hK;have hr:(execOp a.eval o).run P w=.ok (.enter f (xs.toArray.map a.eval)) w:=by
  simp [execOp,ho,resolve,Act.eval,Deferred.ofValue,invoke,H5.out hB]
 unfold Oper.wp;rw [hr];show Calls P f _ w _
 refine(yS hc h0 (vs:=xs.toArray.map a.eval) (by simp [ha.length]) (fun j u v hu hv=>?_)).mono fun e w' h=>?_
 .simp only [Array.getElem?_map,List.getElem?_toArray,Option.map_eq_some_iff] at hv;obtain⟨x,hx,rfl⟩:=hv;obtain⟨h1,h2⟩:=ha.get hx hu;rcases h1 with h1 | ⟨k0,h1,h3⟩
  .have:=(hf.ev x).plain;rw [h1] at this;exact this.toD h2
  .have hv:=hf.ev x;rw [h3] at hv;rw [h1,hv.inv_sc];exact .nil (Nat.zero_le _)
 .obtain⟨v,r,rfl,h1,h2,h3,h4⟩:=h;exact hK r L v w' U ⟨h4,rfl⟩ h1 h2 h3
/-! ### A variable of a map's type is set anew: the new map takes the old one's name -/
theorem Q54 {by_:Nat} {kd kd':IntKind} {nx ny:Int} (zs:AK) (ho:o.op=.makeSlice T x y) (hx:ev l x=.sc (.int kd nx)) (hy:ev l y=.sc (.int kd' ny))
  (hT:sliceB P T E k=true) (hE:Qa P E k by_=true) (hz:(P.info? E).bind (fun i=>i.zero.map Value.cells)=some zs.toArray) (hn:nx=(n:Int)) (hm:ny=(n:Int)) (hb:decide (by_*n<=281474976710656/\n<=maxLen/\n*k<=16777216)=true)
  (z:AV) (a2:∀ (w:World) (S:Nat->Nat->Prop) (j:Nat) a b,z.cells[j]? = some a->zs[j]? = some b->D w S a b) (h4:z.cells.length=k) :
  Gy P o l L (Is (.list k (List.replicate n z)) L):=by
 subst hn hm;intro a w U K Q h0 hf hK;have h1:=P6 hb;obtain⟨inf,zv,e1,e2,e3,e4,e5,e6⟩:=Qa.out hE;have h5:=hf.ev x;rw [hx] at h5;have h6:=hf.ev y;rw [hy] at h6;have a0:(n:Int)<=9223372036854775807:=by
  have h:=h1.2.1;simp [maxLen] at h;omega
 have a3:(inf.bytes:Int)*(n:Int)<=281474976710656:=by
  have h:((inf.bytes*n:Nat):Int)<=281474976710656:=by rw [e3]; have:=h1.1; omega
  rwa [Int.natCast_mul] at h
 have hr:=run_make (P:=P) w T E inf zv (sliceB.out hT).1 e1 e4 kd kd' n n (by omega) (Int.le_refl _) a3 a0;simp only [Int.toNat_natCast] at hr;have a1:(execOp a.eval o).run P w=.ok (.value (.slice (some ⟨w.heap.size,0,none⟩) n n)) (w.alloc (.cells (madeCells zv.cells (n*inf.size)) E)):=by
  simp [execOp,ho,h5.inv_sc,h6.inv_sc,hr]
 unfold Oper.wp;rw [a1];have h7:zv.cells=zs.toArray:=by
  rw [e1] at hz;simp [e4] at hz;exact hz
 have h2:∀ x∈List.replicate n z,x.cells.length=k:=fun y hy=>by rw [List.eq_of_mem_replicate hy]; exact h4
 have hd:=D.newRow (E:=E) (vs:=madeCells zv.cells (n*inf.size)) h0 h2 (by rw [List.length_replicate]; exact h1.2.1) (by rw [J2 h2,List.length_replicate,size_madeCells,e2]) (fun j u v hu hv=>by
  rw [e2] at hv
  -- the cells
  have h8:∀ x∈List.replicate n z,x.cells.length=k:=fun y hy=>by rw [List.eq_of_mem_replicate hy]; exact h4
  have hj:j < n*k:=by
   have:=(Pa hu).1;rw [J2 h8] at this;simpa using this
  have a4:j=j / k*k+j % k:=by rw [Nat.mul_comm]; exact(Nat.div_add_mod j k).symm
  have hq:j / k < n:=Nat.div_lt_of_lt_mul (by rw [Nat.mul_comm]; exact hj);have a5:(List.replicate n z)[j / k]? = some z:=by simp [hq]
  rw [a4,jI h8 a5 (Nat.mod_lt _ e6)] at hu;have h3:zs.length=k:=by
   have:=e5;rw [h7] at this;simpa using this
  refine a2 _ _ (j % k) u v hu ?_;rw [madeCells] at hv;simp [hj] at hv;rw [<- hv,h7];have h9:j % k < zs.length:=by rw [h3]; exact Nat.mod_lt _ e6
  simp [h3,h9];rw [Pb h9]; rfl)
 rw [List.length_replicate] at hd;exact hK _ _ _ _ U ⟨rfl,rfl⟩ (h0.new _) (Step.new h0 _) (.data hd)
theorem Je2 {by_:Nat} {kd kd':IntKind} {nx ny:Int} {W:Type} {f:W->AV} (z:W) (zs:AK) (ho:o.op=.makeSlice T x y) (hx:ev l x=.sc (.int kd nx)) (hy:ev l y=.sc (.int kd' ny))
  (hT:sliceB P T E k=true) (hE:Qa P E k by_=true) (hz:(P.info? E).bind (fun i=>i.zero.map Value.cells)=some zs.toArray) (hn:nx=(n:Int)) (hm:ny=(n:Int)) (hb:decide (by_*n<=281474976710656/\n<=maxLen/\n*k<=16777216)=true)
  (h0:ZOk (f z).cells zs) (h1:(f z).cells.length=k):Gy P o l L (Is (.list k ((List.replicate n z).map f)) L):=by
 have h:=Q54 (P:=P) (T:=T) (E:=E) (L:=L) zs ho hx hy hT hE hz hn hm hb (f z) (fun w S j a b ha h2=>by
  have:=ZOk.get (w:=w) (U:=⟨fun _=>none,fun b i=>¬ S b i⟩) (L:=[]) h0 j a b ha h2;refine(this.data_of_nil).mono fun b i hs=>⟨Classical.byContradiction fun hn=>hs.seen hn,rfl⟩) h1
 simpa only [List.map_replicate] using h

theorem G49 {a:Act} (ho:o.op=.buildSlice T 0 #[]) (hT:sliceB P T E k=true):(execOp a.eval o).run P w=.ok (.value (.slice (some ⟨w.heap.size,0,none⟩) 0 0)) (w.alloc (.cells #[] E)):=by
 have h0:=Q8 (sliceB.out hT).2 w;simp [execOp,ho,Instr.buildSlice,underlying,(sliceB.out hT).1,run_program,Sem.run_bind,Result.andThen_ok,h0,newRow,Instr.fill];exact congrArg (fun x=>w.alloc (Obj.cells x E)) (Array.toList_inj.1 (by simp))

theorem J35 (E k:Nat) (vs:Array Value) (cap:Nat) (h7:cap<=maxLen) (h8:(w.alloc (.cells vs E)).ownsRow 0 E k (.slice (some ⟨w.heap.size,0,none⟩) 0 cap) 0 []) (h0:Sat w U L) (hi:lk L i=none) :
  Step w U L (w.alloc (.cells vs E)) (upP U i (some w.heap.size)) ((i,.spare E k 0 0)::L)/\Sat (w.alloc (.cells vs E)) (upP U i (some w.heap.size)) ((i,.spare E k 0 0)::L) /\
  V (w.alloc (.cells vs E)) (upP U i (some w.heap.size)) ((i,.spare E k 0 0)::L) (.own i 0 k []) (.slice (some ⟨w.heap.size,0,none⟩) 0 cap):=by
 have a0:∀ id,(lk L id).isSome=true->i≠id:=fun id h e=>by subst e; rw [hi] at h; cases h
 have h5:∀ b,b < w.heap.size->(w.alloc (.cells vs E)).heap[b]? = w.heap[b]? := fun b hb=>Ju w _ hb;have h6:w.heap.size < (w.alloc (.cells vs E)).heap.size:=by simp
 have st:Step w U L (w.alloc (.cells vs E)) (upP U i (some w.heap.size)) ((i,.spare E k 0 0)::L):=by
  refine⟨rfl,rfl,⟨rfl,Pf⟩,Nat.le_of_lt h6,fun _ _ _=>Iff.rfl,fun b j hs=>⟨⟨Nat.lt_trans hs.lt h6,hs.seen,fun id ob hid hb=>?_⟩,Jc (w:=w) (h5 b hs.lt)⟩,fun b hb h9=>⟨h5 b hb,fun id hid e=>?_⟩,fun id t cs hid=>?_,fun id t cs hid=>?_,fun id t n cs hid=>?_,fun id t k' ver xs hid=>?_,fun id t k' ver hw hid=>?_⟩
  .rw [Ge] at hid;by_cases e:i=id
   .subst e; simp only [upP,if_true] at hb; cases hb; exact absurd hs.lt (Nat.lt_irrefl _)
   .rw [if_neg e] at hid; simp only [upP,if_neg (Ne.symm e)] at hb; exact hs.kept id ob hid hb
  .rw [Ge] at hid;by_cases e':i=id
   .subst e'; simp only [upP,if_true] at e; cases e; exact absurd hb (Nat.lt_irrefl _)
   .rw [if_neg e'] at hid; simp only [upP,if_neg (Ne.symm e')] at e; exact h9 id hid e
  all_goals
   have e:=a0 id (by rw [hid]; rfl)
  .exact⟨by simp [upP,Ne.symm e],cs,by rw [Ge,if_neg e]; exact hid⟩
  .exact⟨by simp [upP,Ne.symm e],cs,by rw [Ge,if_neg e]; exact hid⟩
  .exact⟨by simp [upP,Ne.symm e],n,cs,by rw [Ge,if_neg e]; exact hid⟩
  .exact⟨ver,xs,by rw [Ge,if_neg e]; exact hid,Pf,fun _=>⟨rfl,by simp [upP,Ne.symm e],fun b hb=>bK (h5 b (h0.bnd id b (by rw [hid]; rfl) hb))⟩⟩
  .exact⟨ver,hw,by rw [Ge,if_neg e]; exact hid,Pf,fun _=>⟨rfl,by simp [upP,Ne.symm e],fun b hb=>h5 b (h0.bnd id b (by rw [hid]; rfl) hb)⟩⟩
 refine⟨st,⟨fun b j h=>Nat.lt_trans (h0.hid b j h) h6,fun id b hid hb=>?_,fun id b j hid hb hh=>?_,fun id id' b h1 h2 h3 h4=>?_,fun id ob hid=>?_⟩,?_⟩
 .rw [Ge] at hid;by_cases e:i=id
  .subst e; simp only [upP,if_true] at hb; cases hb; exact h6
  .rw [if_neg e] at hid; simp only [upP,if_neg (Ne.symm e)] at hb; exact Nat.lt_trans (h0.bnd id b hid hb) h6
 .rw [Ge] at hid;by_cases e:i=id
  .subst e; simp only [upP,if_true] at hb; cases hb; exact absurd (h0.hid _ _ hh) (Nat.lt_irrefl _)
  .rw [if_neg e] at hid; simp only [upP,if_neg (Ne.symm e)] at hb; exact h0.apart id b j hid hb hh
 .by_cases e:i=id
  .by_cases e':i=id'
   .rw [<- e,e']
   .subst e;rw [Ge,if_neg e'] at h2;simp only [upP,if_true] at h3;simp only [upP,if_neg (Ne.symm e')] at h4;cases h3;exact absurd (h0.bnd id' _ h2 h4) (Nat.lt_irrefl _)
  .by_cases e':i=id'
   .subst e';rw [Ge,if_neg e] at h1;simp only [upP,if_true] at h4;simp only [upP,if_neg (Ne.symm e)] at h3;cases h4;exact absurd (h0.bnd id _ h1 h3) (Nat.lt_irrefl _)
   .rw [Ge,if_neg e] at h1;rw [Ge,if_neg e'] at h2;simp only [upP,if_neg (Ne.symm e)] at h3;simp only [upP,if_neg (Ne.symm e')] at h4;exact h0.inj id id' b h1 h2 h3 h4
 .rw [Ge] at hid;by_cases e:i=id
  .subst e; simp at hid; subst hid;exact .inr ⟨w.heap.size,by simp [upP],vs,heap_alloc_new w _,by simp⟩
  .rw [if_neg e] at hid;simp only [upP,if_neg (Ne.symm e)];exact(h0.obj id ob hid).step st (fun b hb=>h5 b (h0.bnd id b (by rw [hid]; rfl) hb))
 .exact .own (.nil h7) ⟨E,0,0,by rw [Ge,if_pos rfl],Pf,fun _=>⟨rfl,by simp [Value.ownBlock,upP],[],h8,fun j u hu=>by simp [flat] at hu⟩⟩

theorem Q20 (E k:Nat) (h0:Sat w U L) (hi:lk L i=none) :
  Step w U L (w.alloc (.cells #[] E)) (upP U i (some w.heap.size)) ((i,.spare E k 0 0)::L)/\Sat (w.alloc (.cells #[] E)) (upP U i (some w.heap.size)) ((i,.spare E k 0 0)::L) /\
  V (w.alloc (.cells #[] E)) (upP U i (some w.heap.size)) ((i,.spare E k 0 0)::L) (.own i 0 k []) (.slice (some ⟨w.heap.size,0,none⟩) 0 0):=
 J35 E k #[] 0 (Nat.zero_le _) (World.ownsRow_lit w #[] 0 (Nat.zero_le _) (Nat.zero_le _) (by simp)) h0 hi

def vU (P:Program) (T f off:Nat):Bool:=
 match P.underlying T with
 | some (.struct fs)=>match fs[f]? with
  | some fld=>fld.offset==off&&J9 P fld.type
  | none=>false
 | _=>false
theorem vU.out {f off:Nat} (h:vU P T f off=true):∃ fs fld,P.underlying T=some (.struct fs)/\fs[f]? = some fld/\fld.offset=off/\J9 P fld.type=true:=by
 unfold vU at h;split at h
 .rename_i fs h1;split at h
  .rename_i fld h2;simp only [Pp,beq_iff_eq] at h;exact⟨fs,fld,h1,h2,h.1,h.2⟩
  .cases h
 .cases h

section ops
variable {P:Program} {N:Cfg} {o:Oper} {l:Fr} {L L':Loc} {u:AV} {W:Type}

variable {T:Nat}
theorem G88 (i E k:Nat) (ho:o.op=.buildSlice T 0 #[]) (hi:lk L i=none) (hT:sliceB P T E k=true):Gy P o l L (Is (.own i 0 k []) ((i,.spare E k 0 0)::L)):=by
 intro a w U K Q h0 hf hK;unfold Oper.wp;rw [G49 (E:=E) (k:=k) ho hT];obtain⟨st,sat,hv⟩:=Q20 E k h0 hi;exact hK _ _ _ _ _ ⟨rfl,rfl⟩ sat st hv

theorem G08 (w:World) (base:Nat) (t ty e:TypeId) (i:TypeInfo) (size:Nat) (ht:P.underlying t=some (.slice e)) (hi:P.info? e=some i)
  (v:Value) (n:Nat) (xs:AK) (h0:w.ownsRow base e size v n xs) (ao:Option Addr) (c:Nat) :
  (Builtin.append_ #[t,t] ty #[v,.slice ao 0 c]).run P w=.ok v w:=by
 rcases h0.2 with ⟨rfl,rfl⟩ | ⟨g,cap,cur,rfl,_,_,h1,_⟩
 .cases ao <;> simp [Builtin.append_,run_underlying ht,sizeOf,typeInfo,hi,Builtin.lenOf,Builtin.firstCells,loadCells,loadCellsFrom]
 .cases ao <;> simp [Builtin.append_,run_underlying ht,sizeOf,typeInfo,hi,Builtin.lenOf,Builtin.firstCells,h1,storeCells,loadCells,loadCellsFrom]

variable {x:Operand}
theorem J98 {s:Operand} {E k by_ i ver n:Nat} {kx:Nat} {xs:AD} (ho:o.op=.call { callee:=.builtin .append,args:=#[s,x],argTypes:=#[T,T] }) (hs:ev l s=.own i ver k xs) (hi:lk L i=some (.spare E k ver n)) (hx:Jv (ev l x)=some (kx,[]))
  (hT:sliceB P T E k=true) (hE:Qa P E k by_=true):Gy P o l L (Is (.own i ver k xs) L):=
 Hj fun a w U h7 hf=>by
  have hv:=hf.ev s;rw [hs] at hv;have h4:=(hf.ev x).Jv hx;obtain⟨ao,cap,h5,_⟩:=h4.len;obtain⟨inf,z,e1,e2,e3,e4,e5,e6⟩:=Qa.out hE;have h6:=hv;cases hv with
  | data h=>cases h
  | own hd hp=>
   obtain⟨t,ver',hw,h1,h2,h3⟩:=hp;rw [hi] at h1;cases h1;obtain⟨rfl,h8,vals,h0,h9⟩:=h3 rfl;have hr:=G08 (P:=P) w 0 T o.type E inf k (sliceB.out hT).1 e1 (a.eval s) _ _ h0 ao cap;exact⟨a.eval s,by simp [execOp,ho,resolve,invoke,builtin,h5,hr],h6⟩

theorem lG {L:Loc} {s:Operand} {E k by_ i kx:Nat} {f:W->AV} {xs ys:List W} (ho:o.op=.call { callee:=.builtin .append,args:=#[s,x],argTypes:=#[T,T] }) (hs:ev l s=OW i k f xs) (hi:lk L i=some (.spare E k xs.length xs.length)) (hx:Jv (ev l x)=some (kx,ys.map f))
  (hT:sliceB P T E k=true) (hE:Qa P E k by_=true) (hb:decide ((xs.length+ys.length)*by_<=140737488355328/\xs.length+ys.length<=maxLen)=true) (h2:∀ y,(f y).BI=true) (hk:kx=k\/ys=[]) :
  Gy P o l L (Is (OW i k f (xs++ys)) ((i,.spare E k (xs++ys).length (xs++ys).length)::L)):=by
 have h3:=P6 hb;by_cases h0:ys=[]
 .subst h0;have h:=J98 (P:=P) (o:=o) (by_:=by_) ho hs hi (by simpa using hx) hT hE;rw [List.append_nil];intro a w U K Q h4 hf hK;refine h a w U K Q h4 hf (fun u L1 v w1 U1 hu h5 st1 h6=>?_);obtain⟨rfl,rfl⟩:=hu;have h1:fL L1 ((i,.spare E k xs.length xs.length)::L1):=fun j=>by
   rw [Ge];by_cases e:i=j
   .subst e; rw [if_pos rfl,hi]
   .rw [if_neg e]
  exact hK _ _ v w1 U1 ⟨rfl,rfl⟩ (h5.BK h1) (st1.BK h1) (h6.BK h1)
 .have h:=YF (BA:=(xs++ys).length) (xs:=xs.map f) (ys:=ys.map f) ho hs hi hx hT hE (by simpa using h3.1) (by simpa using h3.2) (fun y hy=>by
   obtain⟨z,_,rfl⟩:=Pt.1 hy;exact h2 z) (hk.imp id (fun e=>by rw [e]; rfl)) (by
   have:=List.length_pos_iff.2 h0;rw [Pn]; omega)
  simpa only [OW,List.map_append,Pn,Pr] using h
theorem uL {f off:Nat} {cs:AD} (hT:vU P T f off=true) (ho:o.op=.field T x f) (hx:ev l x=.agg cs) (hn:cs[off]? = some u):Gy P o l L (Is u L):=
 Hj fun a w U _ hf=>by
  have h1:=hf.ev x;rw [hx] at h1;obtain⟨vs,he,hl,hv⟩:=h1.inv_agg;have h0:off < vs.size:=by
   rw [hl];rcases P4 off cs.length with h | h
   .exact h
   .simp [List.getElem?_eq_none h] at hn
  obtain⟨fs,fld,g1,g2,rfl,g4⟩:=vU.out hT;exact⟨vs[fld.offset],by simp [execOp,ho,Instr.field,underlying,g1,g2,he,asAgg,part,oD g4,h0],hv fld.offset u _ hn (by simp [h0])⟩
end ops

theorem J69 (hT:sliceB P T E k=true) (a:Option Addr) (n c:Nat) (w:World):(Op.equal T (.slice a n c) (.slice none 0 0)).run P w=.ok a.isNone w:=by
 have h:=(sliceB.out hT).1;unfold Op.equal;generalize hd:Op.maxDepth=d;obtain⟨d,rfl⟩:∃ m,d=m+1:=⟨Op.maxDepth - 1,by rw [<- hd]; rfl⟩;clear hd;cases a with
 | none=>rw [Op.equalIn]; simp [underlying,h]
 | some a=>rw [Op.equalIn]; simp [underlying,h]

def Q23 {W U:Type} [DecidableEq U] (xs:List W) (k:Bool->Option U):Option U:=
 match xs with
 | []=>if k true=k false then k false else none
 | _=>k false
theorem H76 {W U B:Type} [DecidableEq U] {xs:List W} {k:Bool->Option U} {r:U} {f:W->B} (h:Q23 xs k=some r) (b:Bool) (hb:b=true->xs.map f=[]):k b=some r:=by
 cases xs with
 | nil=>
  have h:(if k true=k false then k false else none)=some r:=h;by_cases e:k true=k false
  .rw [if_pos e] at h;cases b with
   | true=>rw [e]; exact h
   | false=>exact h
  .rw [if_neg e] at h; cases h
 | cons x l=>
  cases b with
  | true=>have:=hb rfl; cases this
  | false=>exact h
section
variable {P:Program} {o:Oper} {l:Fr} {L:Loc}
variable {xs:AD}
theorem J52 {x:Operand} {T T' E k k':Nat} (hT:sliceB P T E k'=true) (ho:o.op=.binOp .eql T x (.const (.slice none 0 0)) T') (hx:Jv (ev l x)=some (k,xs)):Gy P o l L (fun u L'=>∃ b:Bool,(b=true->xs=[])/\u=BL b/\L'=L):=by
 intro a w U K Q h0 hf hK;have hd:=(hf.ev x).Jv hx;have key:∀ ao n c,a.eval x=.slice ao n c->(execOp a.eval o).run P w=.ok (.value (.bool ao.isNone)) w:=fun ao n c e=>by
  have e2:a.eval (.const (.slice none 0 0))=.slice none 0 0:=rfl;simp [execOp,ho,eqGuard,binOp,e,e2,J69 hT]
 generalize hv:a.eval x=v at hd;cases hd with
 | nil h=>
  rename_i cap ao;unfold Oper.wp;rw [key _ _ _ hv];exact hK _ _ _ _ _ ⟨ao.isNone,fun _=>rfl,rfl,rfl⟩ h0 (Step.refl _ _ _) .sc
 | list vals h1 hm hk hS h=>
  unfold Oper.wp;rw [key _ _ _ hv];exact hK _ _ _ _ _ ⟨false,fun e=>(by cases e),rfl,rfl⟩ h0 (Step.refl _ _ _) .sc
theorem Q49 (i E k:Nat) {x:Operand} {ver:Nat} (ho:o.op=.assign x) (hx:ev l x=.sc (.slice none 0 0)) (hi:lk L i=some (.vec E k ver xs)):Gy P o l L (Is (.vec i (ver+1) k 0) ((i,.vec E k (ver+1) [])::L)):=by
 intro a w U K Q h0 hf hK;have hv:=hf.ev x;rw [hx] at hv;have hr:(execOp a.eval o).run P w=.ok (.value (.slice none 0 0)) w:=by simp [execOp,ho,hv.inv_sc]
 unfold Oper.wp;rw [hr];obtain⟨st,sat⟩:=R0 (w':=w) (t:=E) (k:=k) (BA:=ver+1) (xs':=[]) (ob':=none) h0 (.inr ⟨ver,xs,hi,by omega,fun e=>by omega⟩) rfl rfl ⟨rfl,Pf⟩ (Pf) (fun _ _ _=>rfl) (.inl rfl);exact hK _ _ _ w _ ⟨rfl,rfl⟩ (sat ⟨by simp,.inl ⟨rfl,rfl⟩⟩) st (.vec ⟨E,ver+1,[],by rw [Ge,if_pos rfl],Pf,fun _=>⟨rfl,.inl ⟨rfl,rfl,by simp [upP]⟩⟩⟩ rfl)
theorem Q4c (i E k:Nat) {T ver:Nat} (ho:o.op=.buildSlice T 0 #[]) (hi:lk L i=some (.vec E k ver xs)) (hT:sliceB P T E k=true):Gy P o l L (Is (.vec i (ver+1) k 0) ((i,.vec E k (ver+1) [])::L)):=by
 intro a w U K Q h1 hf hK;unfold Oper.wp;rw [G49 (E:=E) (k:=k) ho hT];have h0:w.heap.size < (w.alloc (.cells #[] E)).heap.size:=by simp
 obtain⟨st,sat⟩:=R0 (w':=w.alloc (.cells #[] E)) (t:=E) (k:=k) (BA:=ver+1) (xs':=[]) (ob':=some w.heap.size) h1 (.inr ⟨ver,xs,hi,by omega,fun e=>by omega⟩) rfl rfl ⟨rfl,Pf⟩ (Nat.le_of_lt h0) (fun b hb _=>Ju w _ hb) (.inr (.inr ⟨_,rfl,Pf,h0⟩));have hn:=heap_alloc_new w (.cells #[] E);exact hK _ _ _ _ _ ⟨rfl,rfl⟩ (sat ⟨by simp,.inr ⟨_,rfl,#[],hn,by simp,fun j u v hu=>by simp [flat] at hu⟩⟩) st (.vec ⟨E,ver+1,[],by rw [Ge,if_pos rfl],Pf,fun _=>⟨rfl,.inr ⟨w.heap.size,0,rfl,by simp [upP],Pf,Nat.zero_le _,by simp only [World.shape?,hn,Option.bind_some]; simp⟩⟩⟩ rfl)
end

section
variable {P:Program} {o:Oper} {l:Fr} {L:Loc}
theorem JD {T E k:Nat} (hT:sliceB P T E k=true) {ty:Nat} (w:World) (a s:Option Addr) (m cap q cap2:Nat) (cs:AK) (h0:m+q<=cap) (hs:s=none->q=0) (h4:cs.length=q*k) (h5:∀ (ad:Addr) (j:Nat) u,s=some ad->cs[j]? = some u->w.cell? (ad.add j)=some u) :
  (Builtin.append_ #[T,T] ty #[.slice a m cap,.slice s q cap2]).run P w=(match a with | some ad=>((storeCells (ad.add (m*k)) cs).run P w).andThen fun _ w=>.ok (.slice a (m+q) cap) w | none=>.ok (.slice a (m+q) cap) w):=by
 obtain⟨h1,h2⟩:=sliceB.out hT;have h3:=Q8 h2 w;cases s with
 | none=>
  have hq:=hs rfl;subst hq;have:cs=[]:=P1 (by rw [h4]; simp);subst this;have h6:m<=cap:=by omega
  cases a <;> simp [Builtin.append_,run_underlying h1,Builtin.lenOf,Builtin.firstCells,h3,storeCells,Result.andThen,h6]
 | some ad=>
  have hl:=run_loadCells_list (P:=P) w ad cs (fun j v h=>h5 ad j v rfl h);rw [h4] at hl;cases a with
  | none=>simp [Builtin.append_,run_underlying h1,Builtin.lenOf,Builtin.firstCells,h3,hl,h0]
  | some a2=>simp [Builtin.append_,run_underlying h1,Builtin.lenOf,Builtin.firstCells,h3,hl,h0]
theorem J29 {d x:Operand} {T E k i ver m:Nat} {xs ys:AD} (ho:o.op=.call { callee:=.builtin .append,args:=#[d,x],argTypes:=#[T,T] }) (hT:sliceB P T E k=true) (hd:ev l d=.vsl i ver k 0 m) (hi:lk L i=some (.vec E k ver xs)) (hs:yE L k (ev l x) ys) (hc:∀ y∈ys,y.BI=true) (h4:m+ys.length<=xs.length) (a4:Nat.blt 0 k=true) :
  Gy P o l L (Is (.vsl i ver k 0 (m+ys.length)) ((i,.vec E k ver (xs.take m++ys++xs.drop (m+ys.length)))::L)):=by
 intro a w U K Q h0 hf hK;have h6:=hf.ev d;rw [hd] at h6;have a5:=h6.inv_vsl0 hi;obtain⟨h9,asx,cap2,cs,a0,a7,h1,h5,a8⟩:=hs.reads h0 (hf.ev x);have b5:(xs.take m++ys++xs.drop (m+ys.length)).length=xs.length:=by
  simp only [Pn,List.length_take,List.length_drop]; omega
 have h7:=h0.obj i _ hi;rcases a5 with ⟨e1,e2,e3⟩ | ⟨b,cap,e1,e2,e3,e4,e5⟩
 ·-- nil: nothing there, nothing to append
  have a9:xs=[]:=by
   rcases h7.2 with ⟨_,h⟩ | ⟨b,h,_⟩
   .exact h
   .rw [show U.at_ i=U i from rfl] at e3; rw [e3] at h; cases h
  subst a9;subst e2;have b0:ys=[]:=by simpa using h4
  subst b0;have hr:=JD (P:=P) hT (ty:=o.type) w none asx 0 0 0 cap2 cs (by omega) (fun _=>rfl) (by simpa using h1) h5;have h8:(execOp a.eval o).run P w=.ok (.value (.slice none 0 0)) w:=by
   simp [execOp,ho,resolve,invoke,builtin,e1,a0,hr]
  unfold Oper.wp;rw [h8];have hq:fL L ((i,Jb.vec E k ver [])::L):=fun id=>by
   rw [Ge];by_cases e:i=id
   .subst e; rw [if_pos rfl,hi]
   .rw [if_neg e]
  exact hK _ _ _ w U ⟨rfl,rfl⟩ (h0.BK hq) ((Step.refl w U L).BK hq) (.vsl ⟨E,ver,[],by rw [Ge,if_pos rfl]; rfl,Pf,fun _=>⟨by simp,⟨none,0,rfl,by simp,Nat.zero_le _,.inl rfl⟩,fun _=>.inl ⟨rfl,rfl,e3⟩⟩⟩ rfl)
 .have b1:0 < k:=by simpa [Nat.blt_eq] using a4
  have hb:U.at_ i=some b:=e2;have b3:xs.length<=cap:=by
   rcases h7.2 with ⟨_,hx⟩ | ⟨b',h,vs,h2,h3,_⟩
   .subst hx; simp
   .rw [show U i=some b from e2] at h;cases h;have hs:vs.size=cap*k:=by
     have:=e5;simp [World.shape?,h2] at this;exact this
    rw [hs] at h3;exact Nat.le_of_mul_le_mul_right h3 b1
  have hr:=JD (P:=P) hT (ty:=o.type) w (some ⟨b,0,none⟩) asx m cap ys.length cap2 cs (by omega) (fun e=>by rw [a7 e]; rfl) h1 h5;have h8:(execOp a.eval o).run P w=((Builtin.append_ #[T,T] o.type #[.slice (some ⟨b,0,none⟩) m cap,.slice asx ys.length cap2]).run P w).andThen fun v w=>.ok (.value v) w:=by
   simp [execOp,ho,resolve,invoke,builtin,e1,a0]
   try rfl
  have hV:V w U L (.vsl i ver k 0 (m+ys.length)) (.slice (some ⟨b,0,none⟩) (m+ys.length) cap):=
   .vsl ⟨E,ver,xs,hi,Pf,fun _=>⟨by omega,⟨_,cap,rfl,by omega,e4,.inr ⟨b,e2,by simp⟩⟩,fun _=>.inr ⟨b,cap,rfl,e2,by omega,e4,e5⟩⟩⟩ rfl
  obtain⟨q1,vs,q2,q3,q4⟩:=nB h0 hi hb;have b4:m*k+ys.length*k<=xs.length*k:=by rw [<- Nat.add_mul]; exact Nat.mul_le_mul_right _ h4
  have a1:∀ (j:Nat) u x,(flat ys)[j]? = some u->cs[j]? = some x->D w (Hs w U L) u x:=fun j u x hu hx=>a8 j u x hu hx;have b2:∀ v∈cs,v.oneCell'=true:=fun v hv=>by
   obtain⟨j,hj⟩:=List.mem_iff_getElem?.1 hv;have a2:=(Pa hj).1;rw [h1] at a2;have hu:(flat ys)[j]? = some ((flat ys)[j]'(by rw [J2 h9]; exact a2)):=Pb _;exact(V.data (a1 j _ v hu hj)).cell (kS hc (Pd hu))
  have a3:=run_storeCells_at P b (m*k) E cs 0 vs w q2 (by rw [h1]; omega) b2;simp only [Nat.add_zero] at a3;obtain⟨st,sat⟩:=QV (off:=m) (zs:=ys) (cs:=cs) h0 hi hb q2 h9 (by rw [h1]) h4 a1;unfold Oper.wp;rw [h8,hr];have a6:(⟨b,0,none⟩:Addr).add (m*k)=⟨b,m*k,none⟩:=by simp [Addr.add_lit]
  simp only [a6,a3,Result.andThen];exact hK _ _ _ _ _ ⟨rfl,rfl⟩ sat st (hV.step st)
end
set_option linter.unusedVariables false




/-! ### Typed -/
set_option linter.unusedVariables false

section sound
variable {P:Program} {N:Cfg} {ops:AM} {ws los his:AI} {Ls:List Loc} {l0:Fr} {val:Nat->AV}

theorem Jd4 {id:Nat} {Q:Post} {l:Fr} {L L':Loc} (r:AM) (last:Oper) (ws los his:AI) (Ls:List Loc) (hm:P.follows .mixedOrders=true) (chk:nL ops ws los his=true) (h0:Ls[0]? = some L) (h1:Ls[ws.length]? = some L')
  (hr:ops=r++[last]) (h3:(List.range r.length).all (fun j=>((jE ops).getD r.length []).contains j)=true) (h5:ws.contains r.length=false) (h6:last.dst=none) (h:bD P N ops.toArray ws los his Ls 0 r l (fun l'=>JL P N ops.toArray [last] Q l' L')) (h7:ops.all bL=true:=by rfl):JC P N (.region id ops.toArray true) Q l L:=by
 have h4:ops.length=r.length+1:=by rw [hr]; simp
 have h2:ops[r.length]? = some last:=by rw [hr]; simp
 obtain⟨val,pc,hK⟩:=yU ops ws los his Ls l _ r.length (by omega) (fun j o d hj ho hd=>by
  have h9:=(Pa ho).1;have e:j=r.length:=by omega
  rw [e,h2] at ho;cases ho;rw [h6] at hd; cases hd) r 0 (fun _=>.AL) (fun j hj=>by rw [hr]; simp [Ph hj]) (by simp) (fun j o hj=>by omega) h
 intro n w0 U0 L0 a w U hs;refine wpIn_region_any hm ?_;rw [List.size_toArray];refine RT (ro:=N.ro) (n:=n) (fun i o hi=>List.all_eq_true.1 h7 o (Pd hi)) chk pc (.inr ⟨h4,last,h2,h3,h5,fun a w U L'' hL'' h8=>by rw [h1] at hL''; cases hL''; exact hK n w0 U0 L0 a w U h8⟩) ops.length (Array.replicate ops.length false) a _ ?_ (by simp only [Array.getD_eq_getD_getElem?,Array.getElem?_replicate]; split <;> rfl) ⟨by simp,⟨fun i o e hi=>?_⟩,U,L,?_,?_⟩
 .exact Nat.le_trans (P3 _ _) (by simp)
 .simp only [Array.getD_eq_getD_getElem?,Array.getElem?_replicate] at hi;split at hi <;> simp at hi
 .have:cnt (fun i=>(Array.replicate ops.length false).getD i false) ws=0:=by
   unfold cnt;have hf:∀ i,(Array.replicate ops.length false).getD i false=false:=fun i=>by
    simp only [Array.getD_eq_getD_getElem?,Array.getElem?_replicate]; split <;> rfl
   simp [hf]
  rw [this]; exact h0
 .have this:Zq ops l val (fun i=>(Array.replicate ops.length false).getD i false) ops.length=l:=by
   have hf:(fun i=>(Array.replicate ops.length false).getD i false)=fun _=>false:=by
    funext i;simp only [Array.getD_eq_getD_getElem?,Array.getElem?_replicate]; split <;> rfl
   rw [hf];have:∀ n,Zq ops l val (fun _=>false) n=l:=by
    intro n
    induction n with
    | zero=>rfl
    | succ n ih=>
     cases hd:(ops[n]?).bind (·.dst) with
     | none=>simp only [Zq,hd]; exact ih
     | some d=>simp only [Zq,hd,Bool.false_eq_true,if_false]; exact ih
   exact this _
  rw [this]; exact hs.drew
theorem Jd3 {id:Nat} {Q:Post} {l:Fr} {L L':Loc} (q:Nat) (last:Oper) (ws los his:AI) (Ls:List Loc) (hm:P.follows .mixedOrders=true) (chk:nL ops ws los his=true) (h0:Ls[0]? = some L) (h1:Ls[ws.length]? = some L') (hq:ops.drop q=[last]) (h3:(List.range q).all (fun j=>((jE ops).getD q []).contains j)=true) (h4:ws.contains q=false) (h5:last.dst=none)
  (h:bD P N ops.toArray ws los his Ls 0 (ops.take q) l (fun l'=>JL P N ops.toArray [last] Q l' L')) (h6:ops.all bL=true:=by rfl):JC P N (.region id ops.toArray true) Q l L:=by
 have h2:(ops.take q).length=q:=by
  have:=congrArg List.length hq;rw [List.length_drop] at this;rw [List.length_take];simp at this; omega
 have hr:ops=ops.take q++[last]:=by rw [<- hq,List.take_append_drop]
 exact Jd4 (ops.take q) last ws los his Ls hm chk h0 h1 hr (by rw [h2]; exact h3) (by rw [h2]; exact h4) h5 h h6
end sound
set_option linter.unusedVariables false

end Go.Proofs.YtbgfgnddogfpcaaGreat
