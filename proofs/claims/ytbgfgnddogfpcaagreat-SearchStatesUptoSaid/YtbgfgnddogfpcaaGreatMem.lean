/- What operations do to an abstract state: -/
import Derived.Test.YtbgfgnddogfpcaaGreatOps
namespace Go.Proofs.YtbgfgnddogfpcaaGreat
open Go.RowKit

def upP (U:Gx) (i:Nat) (ob:Option Nat):Gx:={ U with at_:=fun j=>if j=i then ob else U j }

section small
variable {w w':World} {U U':Gx} {L L':Loc}

theorem kU.stepW {ob:Option Nat} {o:Jb} (h:kU w U L ob o) (hs:mI w U L w' U' L') (hb:∀ b,ob=some b->w'.heap[b]? = w.heap[b]?):kU w' U' L' ob o:=by
 cases o with
 | box t cs=>
  obtain⟨b,rfl,vs,h1,h2,h3⟩:=h;exact⟨b,rfl,vs,(hb b rfl).trans h1,h2,fun j u v hu hv=>(h3 j u v hu hv).stepW hs⟩
 | spare t k ver hw=>
  rcases h with h | ⟨b,rfl,vs,h1,h2⟩
  .exact .inl h
  .exact .inr ⟨b,rfl,vs,(hb b rfl).trans h1,h2⟩
 | vec t k ver xs=>
  obtain⟨h0,h⟩:=h;refine⟨h0,?_⟩;rcases h with h | ⟨b,rfl,vs,h1,h2,h3⟩
  .exact .inl h
  .exact .inr ⟨b,rfl,vs,(hb b rfl).trans h1,h2,fun j u v hu hv=>(h3 j u v hu hv).mono hs.AX⟩
 | map t es=>
  obtain⟨b,rfl,h⟩:=h;exact⟨b,rfl,h.mono (hb b rfl) fun h=>h.mono hs.AX⟩
 | iter m n seen=>
  obtain⟨b,rfl,bm,hl,h1⟩:=h;exact⟨b,rfl,bm,hl.stepW hs,(hb b rfl).trans h1⟩
 | pin t b cs=>
  obtain⟨rfl,vs,h1,h2,h3⟩:=h;exact⟨rfl,vs,(hb b rfl).trans h1,h2,fun j u v hu hv=>(h3 j u v hu hv).mono hs.AX⟩
theorem kU.step {ob:Option Nat} {o:Jb} (h:kU w U L ob o) (hs:Step w U L w' U' L') (hb:∀ b,ob=some b->w'.heap[b]? = w.heap[b]?):kU w' U' L' ob o:=h.stepW hs.weak hb

theorem Ge (i j:Nat) (o:Jb) (L:Loc):lk ((i,o)::L) j=if i=j then some o else lk L j:=by
 by_cases e:i=j
 .subst e; simp [lk]
 .have:Nat.beq i j=false:=by
   cases hb:Nat.beq i j with
   | false=>rfl
   | true=>exact absurd (P2 hb) e
  simp [lk,this,e]

theorem Ju (w:World) (o:Obj) {b:Nat} (h:b < w.heap.size):(w.alloc o).heap[b]? = w.heap[b]? := by
 show (w.heap.push o)[b]? = _
 rw [Array.getElem?_push,if_neg (by omega)]

theorem bK {w w':World} {b:Nat} (h:w'.heap[b]? = w.heap[b]?):w'.shape? b=w.shape? b:=by
 unfold World.shape?; rw [h]

theorem Step.alloc {i:Nat} {lo:Jb} (hi:lk L i=none) (h0:∀ id b,(lk L id).isSome=true->U id=some b->b < w.heap.size) (o:Obj) :
  Step w U L (w.alloc o) (upP U i (some w.heap.size)) ((i,lo)::L) where
 os:=rfl
 tape:=rfl
 output:=⟨rfl,Pf⟩
 size:=by simp
 hid:=fun _ _ _=>Iff.rfl
 AX:=fun b j hs=>by
  refine⟨⟨by have:=hs.1; simp; omega,hs.seen,fun id ob hid hb=>?_⟩,?_⟩
  .rw [Ge] at hid;by_cases e:i=id
   .subst e; simp [upP] at hb; have:=hs.1; omega
   .rw [if_neg e] at hid;simp only [upP,if_neg (Ne.symm e)] at hb;exact hs.kept id ob hid hb
  .exact Jc (w:=w) (Ju w o hs.1)
 far:=fun b hb hf=>by
  refine⟨Ju w o hb,fun id hid e=>?_⟩;rw [Ge] at hid;by_cases e':i=id
  .subst e'; simp [upP] at e; omega
  .rw [if_neg e'] at hid;simp only [upP,if_neg (Ne.symm e')] at e;exact hf id hid e
 box:=fun id t cs hid=>by
  have e:i≠id:=fun e=>by subst e; rw [hi] at hid; cases hid
  exact⟨by simp [upP,Ne.symm e],cs,by rw [Ge,if_neg e]; exact hid⟩
 map:=fun id t cs hid=>by
  have e:i≠id:=fun e=>by subst e; rw [hi] at hid; cases hid
  exact⟨by simp [upP,Ne.symm e],cs,by rw [Ge,if_neg e]; exact hid⟩
 iter:=fun id t n cs hid=>by
  have e:i≠id:=fun e=>by subst e; rw [hi] at hid; cases hid
  exact⟨by simp [upP,Ne.symm e],n,cs,by rw [Ge,if_neg e]; exact hid⟩
 vec:=fun id t k ver xs hid=>by
  have e:i≠id:=fun e=>by subst e; rw [hi] at hid; cases hid
  refine⟨ver,xs,by rw [Ge,if_neg e]; exact hid,Pf,fun _=>⟨rfl,by simp [upP,Ne.symm e],fun b hb=>bK (Ju w o (h0 id b (by rw [hid]; rfl) hb))⟩⟩
 spare:=fun id t k ver hw hid=>by
  have e:i≠id:=fun e=>by subst e; rw [hi] at hid; cases hid
  refine⟨ver,hw,by rw [Ge,if_neg e]; exact hid,Pf,fun _=>⟨rfl,by simp [upP,Ne.symm e],fun b hb=>Ju w o (h0 id b (by rw [hid]; rfl) hb)⟩⟩

theorem Sat.alloc {i:Nat} {lo:Jb} (h5:Sat w U L) (hi:lk L i=none) (o:Obj)
  (ho:∀ (_:Step w U L (w.alloc o) (upP U i (some w.heap.size)) ((i,lo)::L)),kU (w.alloc o) (upP U i (some w.heap.size)) ((i,lo)::L) (some w.heap.size) lo) :
  Sat (w.alloc o) (upP U i (some w.heap.size)) ((i,lo)::L):=by
 have hs:=Step.alloc (lo:=lo) hi h5.bnd o;refine⟨fun b i h=>by have:=h5.hid b i h; simp; omega,fun id b hid hb=>?_,fun id b j hid hb h=>?_,fun id id' b h1 h2 h3 h4=>?_,fun id ob hid=>?_⟩
 .rw [Ge] at hid;by_cases e:i=id
  .subst e; simp [upP] at hb; simp; omega
  .rw [if_neg e] at hid;simp only [upP,if_neg (Ne.symm e)] at hb;have:=h5.bnd id b hid hb;simp; omega
 .rw [Ge] at hid;by_cases e:i=id
  .subst e; simp [upP] at hb; have:=h5.hid b j h; omega
  .rw [if_neg e] at hid;simp only [upP,if_neg (Ne.symm e)] at hb;exact h5.apart id b j hid hb h
 .rw [Ge] at h1 h2;by_cases e:i=id
  .by_cases e':i=id'
   .rw [<- e,e']
   .rw [if_neg e'] at h2;subst e;simp only [upP,if_neg (Ne.symm e')] at h4;simp [upP] at h3;have:=h5.bnd id' b h2 h4;omega
  .rw [if_neg e] at h1;simp only [upP,if_neg (Ne.symm e)] at h3;by_cases e':i=id'
   .subst e';simp [upP] at h4;have:=h5.bnd id b h1 h3;omega
   .rw [if_neg e'] at h2;simp only [upP,if_neg (Ne.symm e')] at h4;exact h5.inj id id' b h1 h2 h3 h4
 .rw [Ge] at hid;by_cases e:i=id
  .subst e;simp at hid; subst hid;simpa [upP] using ho hs
  .rw [if_neg e] at hid;have h0:=h5.obj id ob hid;simp only [upP,if_neg (Ne.symm e)];exact h0.step hs (fun b hb=>Ju w o (h5.bnd id b (by rw [hid]; rfl) hb))
end small

section mem
variable {P:Program} {o:Oper} {l:Fr} {L:Loc} {u:AV}

variable {T k:Nat}
theorem Qx.out (h:Qx P T k=true):∃ i z,P.info? T=some i/\i.zero=some z/\z.cells.size=k:=by
 unfold Qx at h;split at h
 .rename_i i hi;split at h
  .rename_i z hz; exact⟨i,z,hi,hz,by simpa using h⟩
  .cases h
 .cases h

theorem Jm (i:Nat) (k:Nat) (hz:Qx P T k=true) (ho:o.op=.alloc T:=by rfl) (hi:lk L i=none:=by rfl) :
  Gy P o l L (Is (.ptr i 0) ((i,.box T (List.replicate k .AL))::L)):=by
 intro a w U K Q h0 hf hK;obtain⟨inf,z,h1,h2,h3⟩:=Qx.out hz;unfold Oper.wp;have hr:(execOp a.eval o).run P w=.ok (.value (.pointer (some ⟨w.heap.size,0,none⟩))) (w.alloc (.cells z.cells T)):=by
  simp [execOp,ho,Instr.alloc,zeroValue,typeInfo,h1,h2,newVar,newRow]
 rw [hr];refine hK _ _ _ _ (upP U i (some w.heap.size)) ⟨rfl,rfl⟩ (h0.alloc hi _ (fun hs=>⟨_,rfl,z.cells,heap_alloc_new w _,by simp [h3],fun j u v hu _=>?_⟩)) (Step.alloc hi h0.bnd _) (.ptr (t:=T) (by simp [Ge]; rfl) (by simp [upP]));have:u=.AL:=by
  have:=Pd hu;exact List.eq_of_mem_replicate this
 subst this;exact .AL

variable {cs:AD} {x:Operand}
theorem Jp (i:Nat) (ho:o.op=.box T x:=by rfl) (hu:ev l x=u:=by rfl) (hx:u.cells=cs:=by rfl) (hc:u.BI=true:=by rfl) (hi:lk L i=none:=by rfl) :
  Gy P o l L (Is (.ptr i 0) ((i,.box T cs)::L)):=by
 subst hu;intro a w U K Q h0 hf hK;subst hx;unfold Oper.wp;have hr:(execOp a.eval o).run P w=.ok (.value (.pointer (some ⟨w.heap.size,0,none⟩))) (w.alloc (.cells (a.eval x).cells T)):=by
  simp [execOp,ho,Instr.box,newVar,newRow]
 rw [hr];obtain⟨h1,h2,_⟩:=(hf.ev x).cells hc;exact hK _ _ _ _ (upP U i (some w.heap.size)) ⟨rfl,rfl⟩ (h0.alloc hi _ (fun hs=>⟨_,rfl,_,heap_alloc_new w _,h1,fun j u v hu hv=>(h2 j u v hu hv).step hs⟩)) (Step.alloc hi h0.bnd _) (.ptr (t:=T) (by simp [Ge]; rfl) (by simp [upP]))

/-! ### A store -/
variable {U:Gx} {b i:Nat} {t:TypeId} {w:World}
theorem Step.set {L:Loc} {cs':AD} (h2:Sat w U L) (hi:lk L i=some (.box t cs)) (hb:U i=some b) (vs:Array Value) :
  Step w U L (w.setRow b vs) U ((i,.box t cs')::L) where
 os:=rfl
 tape:=rfl
 output:=⟨rfl,Pf⟩
 size:=by simp
 hid:=fun _ _ _=>Iff.rfl
 AX:=fun b' j hs=>by
  have h0:b'≠b:=fun e=>by subst e; exact hs.kept i _ hi hb
  refine⟨⟨by simpa using hs.1,hs.seen,fun id o hid h1=>?_⟩,Jc (w:=w) (setRow_other w b b' vs h0)⟩;rw [Ge] at hid;by_cases e:i=id
  .subst e; rw [hb] at h1; exact absurd (Pc h1) (Ne.symm h0)
  .rw [if_neg e] at hid; exact hs.kept id o hid h1
 far:=fun b' h4 hf=>by
  have h0:b'≠b:=fun e=>by subst e; exact hf i (by rw [hi]; rfl) hb
  refine⟨setRow_other w b b' vs h0,fun id hid=>?_⟩;rw [Ge] at hid;by_cases e:i=id
  .subst e; rw [hb]; exact fun e=>h0 (Pc e).symm
  .rw [if_neg e] at hid; exact hf id hid
 box:=fun id t' cs'' hid=>by
  refine⟨rfl,?_⟩;rw [Ge];by_cases e:i=id
  .subst e; rw [hi] at hid; cases hid; exact⟨cs',by simp⟩
  .exact⟨cs'',by rw [if_neg e]; exact hid⟩
 map:=fun id t' es hid=>by
  refine⟨rfl,es,?_⟩;rw [Ge,if_neg (fun e=>by subst e; rw [hi] at hid; cases hid)]; exact hid
 iter:=fun id t' n es hid=>by
  refine⟨rfl,n,es,?_⟩;rw [Ge,if_neg (fun e=>by subst e; rw [hi] at hid; cases hid)]; exact hid
 vec:=fun id t' k ver xs hid=>by
  have e:i≠id:=fun e=>by subst e; rw [hi] at hid; cases hid
  refine⟨ver,xs,by rw [Ge,if_neg e]; exact hid,Pf,fun _=>⟨rfl,rfl,fun b' h3=>bK (setRow_other w b b' vs (fun e'=>?_))⟩⟩;subst e';exact e (h2.inj i id b' (by rw [hi]; rfl) (by rw [hid]; rfl) hb h3)
 spare:=fun id t' k ver hw hid=>by
  have e:i≠id:=fun e=>by subst e; rw [hi] at hid; cases hid
  refine⟨ver,hw,by rw [Ge,if_neg e]; exact hid,Pf,fun _=>⟨rfl,rfl,fun b' h3=>setRow_other w b b' vs (fun e'=>?_)⟩⟩;subst e';exact e (h2.inj i id b' (by rw [hi]; rfl) (by rw [hid]; rfl) hb h3)

theorem Sat.set {L:Loc} {cs':AD} (h0:Sat w U L) (hi:lk L i=some (.box t cs)) (hb:U i=some b) {old:Array Value} (hold:w.heap[b]? = some (.cells old t (0,0))) (vs:Array Value)
  (hl:vs.size=cs'.length) (h:∀ (j:Nat) u v,cs'[j]? = some u->vs[j]? = some v->V w U L u v):Sat (w.setRow b vs) U ((i,.box t cs')::L):=by
 have hs:=Step.set (cs':=cs') h0 hi hb vs;have h3:∀ id,(lk ((i,Jb.box t cs')::L) id).isSome=true->(lk L id).isSome=true:=fun id h=>by
  rw [Ge] at h;by_cases e:i=id
  .subst e; rw [hi]; rfl
  .rwa [if_neg e] at h
 refine⟨fun b i h=>by simpa using h0.hid b i h,fun id b' hid h4=>by simpa using h0.bnd id b' (h3 id hid) h4,fun id b' j hid h4=>h0.apart id b' j (h3 id hid) h4,fun id id' b' h1 h2=>h0.inj id id' b' (h3 id h1) (h3 id' h2),fun id ob hid=>?_⟩;rw [Ge] at hid;by_cases e:i=id
 .subst e;simp at hid; subst hid;exact⟨b,hb,vs,setRow_heap w b old vs t (0,0) hold,hl,fun j u v hu hv=>(h j u v hu hv).step hs⟩
 .rw [if_neg e] at hid;refine(h0.obj id ob hid).step hs (fun b' h4=>setRow_other w b b' vs (fun e'=>?_));subst e';exact e (h0.inj i id b' (by rw [hi]; rfl) (by rw [hid]; rfl) hb h4)

variable {off:Nat}
theorem nP {old:Array Value} {v:Value} (hT:R3 P T k=true) (hv:v.cells.size=k) (h1:∀ x∈v.cells.toList,x.oneCell'=true) 
  (hold:w.heap[b]? = some (.cells old t (0,0))) (h0:off+k<=old.size) :
  (Instr.storeAt T (.pointer (some ⟨b,off,none⟩)) v).run P w=.ok () (w.setRow b (old.toList.take off++v.cells.toList++old.toList.drop (off+k)).toArray):=by
 have:=run_storeCells_at P b off t v.cells.toList 0 old w hold (by simpa [hv] using h0) h1;simp only [Nat.add_zero,Array.length_toList,hv] at this;simp [Instr.storeAt,Instr.sureAddr,storeVar,Q8 hT,hv,this]

theorem Gc9 {L:Loc} {us:AD} {old ws:AK} (h3:old.length=cs.length) (h4:ws.length=us.length) (hk:us.length=k) (h0:off+k<=cs.length)
  (h:∀ (j:Nat) u v,cs[j]? = some u->old[j]? = some v->V w U L u v) (h':∀ (j:Nat) u v,us[j]? = some u->ws[j]? = some v->V w U L u v) :
  ∀ (j:Nat) u v,(cs.take off++us++cs.drop (off+k))[j]? = some u->(old.take off++ws++old.drop (off+k))[j]? = some v->V w U L u v:=by
 intro j u v hu hv;rcases P4 j off with h1 | h1
 .rw [List.append_assoc,Ph (by simp; omega),Pk,if_pos h1] at hu hv;exact h j u v hu hv
 .rcases P4 j (off+k) with h2 | h2
  .rw [Ph (by simp; omega),Pg (by simp; omega)] at hu hv;simp only [List.length_take] at hu hv;rw [Nat.min_eq_left (by omega)] at hu hv;exact h' _ u v hu hv
  .rw [Pg (by simp; omega)] at hu hv;simp only [Pn,List.length_take,Pm] at hu hv;rw [Nat.min_eq_left (by omega)] at hu hv;rw [show off+k+(j - (off+us.length))=j by omega] at hu;rw [show off+k+(j - (off+ws.length))=j by omega] at hv;exact h j u v hu hv

def zE:Nat->AD->AD->Option AD
 | _,[],cs=>some cs
 | 0,u::us,_::cs=>match zE 0 us cs with
  | some s=>some (u::s)
  | none=>none
 | n+1,us,c::cs=>match zE n us cs with
  | some s=>some (c::s)
  | none=>none
 | _,_::_,[]=>none

theorem G19:∀ {off:Nat} {us cs ds:AD},zE off us cs=some ds->us≠[]->ds=cs.take off++us++cs.drop (off+us.length)/\off+us.length<=cs.length
 | off,[],cs,ds,h,h0=>absurd rfl h0
 | 0,u::us,[],ds,h,_=>by simp [zE] at h
 | n+1,u::us,[],ds,h,_=>by simp [zE] at h
 | 0,u::us,c::cs,ds,h,_=>by
  simp only [zE] at h;cases hr:zE 0 us cs with
  | none=>rw [hr] at h; cases h
  | some s=>
   rw [hr] at h;simp at h; subst h;by_cases e:us=[]
   .subst e; simp [zE] at hr; subst hr; simp
   .obtain⟨h1,h2⟩:=G19 hr e;subst h1;simp at h2 ⊢;exact h2
 | n+1,u::us,c::cs,ds,h,h0=>by
  simp only [zE] at h;cases hr:zE n (u::us) cs with
  | none=>rw [hr] at h; cases h
  | some s=>
   rw [hr] at h;simp at h; subst h;obtain⟨h1,h2⟩:=G19 hr (by simp);subst h1;refine⟨?_,by simp at h2 ⊢; omega⟩;rw [show n+1+(u::us).length=(n+(u::us).length)+1 by omega,List.drop_succ_cons,List.take_succ_cons];simp

theorem Hi {y:Operand} {ds:AD} (hT:R3 P T k=true) (ho:o.op=.store T x y:=by rfl) (hu:ev l y=u:=by rfl) (hx:ev l x=.ptr i off:=by rfl) (hi:lk L i=some (.box t cs):=by rfl)
  (hc:u.BI=true:=by rfl) (h6:zE off u.cells cs=some ds:=by rfl) (hk:u.cells.length=k:=by rfl) (h5:Nat.blt 0 k=true:=by rfl) :
  Gy P o l L (Is .AL ((i,.box t ds)::L)):=by
 subst hu;have h7:(ev l y).cells≠[]:=fun e=>by rw [e] at hk; subst hk; cases h5
 obtain⟨rfl,h2⟩:=G19 h6 h7;rw [hk] at h2;have h3:off+k<=cs.length:=h2;rw [hk];intro a w U K Q h0 hf hK;have h1:=hf.ev x;rw [hx] at h1;obtain⟨b,hb,h8⟩:=h1.inv_ptr;obtain⟨old,h4,h9,a0⟩:=yB h0 hi hb;obtain⟨c1,c2,c3⟩:=(hf.ev y).cells hc;have hr:=nP (P:=P) (off:=off) hT (c1.trans hk) c3 h4 (by omega);unfold Oper.wp;have a1:(execOp a.eval o).run P w=.ok .skip (w.setRow b (old.toList.take off++(a.eval y).cells.toList++old.toList.drop (off+k)).toArray):=by
  simp [execOp,ho,h8,hr]
 rw [a1];refine hK _ _ _ _ U ⟨rfl,rfl⟩ (h0.set hi hb h4 _ ?_ ?_) (Step.set h0 hi hb _) .AL
 .simp [c1]; omega
 .intro j u v hu hv;exact Gc9 (by rw [Array.length_toList]; exact h9) (by rw [Array.length_toList]; exact c1) hk h3 (fun j u v hu hv=>a0 j u v hu (by simpa using hv)) (fun j u v hu hv=>c2 j u v hu (by simpa using hv)) j u v hu (by simpa using hv)

/-! ### Slices: lengths and elements -/
variable {xs:AD} {S:Nat->Nat->Prop}
theorem D.len {x:Value} (h:D w S (.list k xs) x):∃ ao cap,x=.slice ao xs.length cap/\xs.length<=cap/\cap<=maxLen:=by
 cases h with
 | nil h=>exact⟨_,_,rfl,by simp,h⟩
 | list vals h0 hm=>exact⟨_,_,rfl,h0,hm⟩

theorem dU:∀ (xs ys:AD),flat (xs++ys)=flat xs++flat ys
 | [],_=>rfl
 | x::xs,ys=>by simp [flat,dU xs ys]
theorem D.lst_list {ys:AD} {v:Value} (h:D w S (.lst k xs ys) v):D w S (.list k xs) v:=by
 cases h with
 | lnil h=>exact .nil h
 | lst vals h0 hm hk hS h=>
  rw [dU] at hS h;exact .list vals (by omega) hm (fun x hx=>hk x (Ps.2 (.inl hx))) (fun j hj=>hS j (by rw [Pn]; omega)) (fun j u hu=>h j u (by rw [Ph (Pa hu).1]; exact hu))
def Jv:AV->Option (Nat×AD)
 | .list k xs=>some (k,xs)
 | .lst k xs _=>some (k,xs)
 | .own _ _ k xs=>some (k,xs)
 | .blk _ _ _ (.list k xs)=>some (k,xs)
 | .frz _ _ (.list k xs)=>some (k,xs)
 | .sc (.slice none 0 0)=>some (1,[])
 | _=>none

theorem V.Jv {L:Loc} {u:AV} {x:Value} (h:V w U L u x) (ha:Jv u=some (k,xs)):D w (Hs w U L) (.list k xs) x:=by
 cases u with
 | list k' xs'=>simp [Go.Proofs.YtbgfgnddogfpcaaGreat.Jv] at ha; obtain⟨rfl,rfl⟩:=ha; exact h.inv_list
 | lst k' xs' ys'=>
  simp [Go.Proofs.YtbgfgnddogfpcaaGreat.Jv] at ha; obtain⟨rfl,rfl⟩:=ha;cases h with
  | data h=>exact h.lst_list
 | blk o t k' u'=>
  cases u' with
  | list k2 xs2=>
   simp [Go.Proofs.YtbgfgnddogfpcaaGreat.Jv] at ha; obtain⟨rfl,rfl⟩:=ha;cases h with
   | data h=>
    cases h with
    | blk _ h=>exact h
  | _=>simp [Go.Proofs.YtbgfgnddogfpcaaGreat.Jv] at ha
 | frz t k' u'=>
  cases u' with
  | list k2 xs2=>
   simp [Go.Proofs.YtbgfgnddogfpcaaGreat.Jv] at ha; obtain⟨rfl,rfl⟩:=ha;cases h with
   | data h=>
    cases h with
    | frz _ h=>exact h
  | _=>simp [Go.Proofs.YtbgfgnddogfpcaaGreat.Jv] at ha
 | own i ver k' xs'=>
  simp [Go.Proofs.YtbgfgnddogfpcaaGreat.Jv] at ha; obtain⟨rfl,rfl⟩:=ha;cases h with
  | data h=>cases h
  | own hd _=>exact hd
 | sc v=>
  have:=h.inv_sc;subst this;cases x with
  | slice ao n c=>
   cases ao with
   | none=>
    cases n with
    | zero=>
     cases c with
     | zero=>simp [Go.Proofs.YtbgfgnddogfpcaaGreat.Jv] at ha; obtain⟨rfl,rfl⟩:=ha; exact .nil (Nat.zero_le _)
     | succ c=>simp [Go.Proofs.YtbgfgnddogfpcaaGreat.Jv] at ha
    | succ n=>simp [Go.Proofs.YtbgfgnddogfpcaaGreat.Jv] at ha
   | some a=>simp [Go.Proofs.YtbgfgnddogfpcaaGreat.Jv] at ha
  | _=>simp [Go.Proofs.YtbgfgnddogfpcaaGreat.Jv] at ha
 | _=>simp [Go.Proofs.YtbgfgnddogfpcaaGreat.Jv] at ha

variable {E:Nat}
theorem Je6 {k':Nat} (hT:sliceB P T E k'=true) (ho:o.op=.call { callee:=.builtin .len,args:=#[x],argTypes:=#[T] }:=by rfl) (hx:Jv (ev l x)=some (k,xs):=by rfl):Gy P o l L (Is (.sc (.int .i64 xs.length)) L):=
 Hj fun a w U _ hf=>by
  obtain⟨ao,cap,h1,_⟩:=((hf.ev x).Jv hx).len;exact⟨.int .i64 xs.length,by simp [execOp,ho,resolve,invoke,builtin,Builtin.len_,underlying,(sliceB.out hT).1,h1,goInt],.sc⟩

theorem Q9f {N:Cfg} {Q:Post} {ops:Array Oper} {rest:AM} {d:Nat} {k':Nat} (hT:sliceB P T E k'=true) (hk:xs.length<=maxLen->JL P N ops rest Q ((d,.sc (.int .i64 xs.length))::l) L) (ho:o.op=.call { callee:=.builtin .len,args:=#[x],argTypes:=#[T] }:=by rfl) (hx:Jv (ev l x)=some (k,xs):=by rfl) (hg:o.guard=none:=by rfl) (hd:o.dst=some d:=by rfl) (hn:Nat.blt d N.n=true:=by rfl):JL P N ops (o::rest) Q l L:=by
 intro n w0 U0 L0 a w U hs;obtain⟨ao,cap,h1,h2,h3⟩:=((hs.frame.ev x).Jv hx).len;exact G0 (Je6 hT ho hx) (hk (Nat.le_trans h2 h3)) hg hd hn (by unfold bL; rw [ho]) n w0 U0 L0 a w U hs

theorem J2 {k:Nat}:∀ {xs:AD},(∀ x∈xs,x.cells.length=k)->(flat xs).length=xs.length*k
 | [],_=>by simp [flat]
 | x::r,h=>by
  simp only [flat,Pn,Pi,h x (by simp),J2 (xs:=r) (fun y hy=>h y (by simp [hy]))];rw [Nat.add_mul]; omega


theorem H03 {k:Nat}:∀ {xs:AD},(∀ x∈xs,x.cells.length=k)->∀ {i:Nat} {y:AV},xs[i]? = some y->∀ j,j < k->(flat xs)[i*k+j]? = y.cells[j]?
 | [],_,i,y,hy,_,_=>by simp at hy
 | x::r,h,i,y,hy,j,hj=>by
  have hx:=h x (by simp);cases i with
  | zero=>
   simp at hy; subst hy;simp only [flat,Nat.zero_mul,Nat.zero_add];rw [Ph (by omega)]
  | succ i=>
   simp at hy;simp only [flat];rw [Pg (by rw [hx,Nat.add_mul]; omega),hx];rw [show (i+1)*k+j - k=i*k+j by rw [Nat.add_mul]; omega];exact H03 (fun z hz=>h z (by simp [hz])) hy j hj

variable {y:AV}
theorem D.elem {n cap:Nat} (h:D w S (.list k xs) (.slice (some ⟨b,off,none⟩) n cap)) (hy:xs[i]? = some y) :
  D w S (.GY y.cells) (.pointer (some ⟨b,off+i*k,none⟩)):=by
 cases h with
 | nil=>simp at hy
 | list vals h0 hm hk hS h=>
  have hi:i < xs.length:=by
   rcases P4 i xs.length with h | h
   .exact h
   .simp [List.getElem?_eq_none h] at hy
  have h1:y.cells.length=k:=hk y (Pd hy);refine .GY (fun j=>vals (i*k+j)) (fun j hj=>?_) (fun j u hu=>?_)
  .have:=hS (i*k+j) (by
    rw [J2 hk];have:(i+1)*k<=xs.length*k:=Nat.mul_le_mul_right k hi;rw [Nat.add_mul] at this; omega)
   rw [show off+i*k+j=off+(i*k+j) by omega]; exact this
  .have hj:j < k:=by
    rcases P4 j k with h | h
    .exact h
    .simp [List.getElem?_eq_none (show y.cells.length<=j by omega)] at hu
   exact h _ u ((H03 hk hy j hj).trans hu)

theorem D.addr {x:Value} (h:D w S (.list k xs) x) (hy:xs[i]? = some y) :
  ∃ b off cap,x=.slice (some ⟨b,off,none⟩) xs.length cap:=by
 cases h with
 | nil=>simp at hy
 | list=>exact⟨_,_,_,rfl⟩

theorem Q55 {ix:Operand} {kd:IntKind} {n:Int} {m:Nat} (ho:o.op=.indexAddr T x ix) (hx:Jv (ev l x)=some (k,xs)) (hi:ev l ix=.sc (.int kd n)) (hT:sliceB P T E k=true) (hy:xs[m]? = some y) (hm:n=(m:Int)):Gy P o l L (Is (.GY y.cells) L):=
 Hj fun a w U _ hf=>by
  subst hm;have h1:=(hf.ev x).Jv hx;have h2:=hf.ev ix;rw [hi] at h2;obtain⟨b,off,cap,h0⟩:=h1.addr hy;rw [h0] at h1;have h3:m < xs.length:=by
   rcases P4 m xs.length with h | h
   .exact h
   .simp [List.getElem?_eq_none h] at hy
  have hr:=Q8 (sliceB.out hT).2 w;refine⟨.pointer (some ⟨b,off+m*k,none⟩),?_,.data (h1.elem hy)⟩;simp [execOp,ho,Instr.indexAt,h2.inv_sc,asIntOf,underlying,(sliceB.out hT).1,h0,h3,hr,Addr.add_lit]
end mem
end Go.Proofs.YtbgfgnddogfpcaaGreat
