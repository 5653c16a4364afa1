/- Maps of the call's own: -/
import Derived.Test.YtbgfgnddogfpcaaGreatDraw
import Derived.DeepKeys5
import Derived.Laws.StructEq
namespace Go.Proofs.YtbgfgnddogfpcaaGreat
open Go.RowKit

structure pG (P:Program) (k:TypeId) {W:Type} (kv:W->Value):Prop where
 inj:∀ a b,kv a=kv b->a=b
 check:∀ (w:World) (em:Bool) a,(Instr.checkKey em 10000 k (kv a)).run P w=.ok () w
 find:∀ (w:World) a (es:List MapEntry),(∀ e∈es,∃ b,e.key=kv b) ->
  ((Instr.findKey k (kv a) es).run P w=.ok none w/\∀ e∈es,e.key≠kv a)\/∃ j e,(Instr.findKey k (kv a) es).run P w=.ok (some (j,e.val)) w/\es[j]? = some e/\e.key=kv a
 stays:∀ (w:World) a,(Instr.keyThatStays (kv a) (kv a)).run P w=.ok (kv a) w

variable {P:Program}
theorem pG.of_int {k:TypeId} {kd:IntKind} (h:JU P k kd=true):pG P k (fun n:Int=>Value.int kd n) where
 inj:=fun a b e=>by cases e; rfl
 check:=fun w em a=>by
  show (Instr.checkKey em (9999+1) k (.int kd a)).run P w=.ok () w
  generalize 9999=n;simp only [Instr.checkKey,underlying,run_program,Sem.run_bind,Result.andThen_ok,JU.out h,Sem.run_pure]
 find:=fun w a es he=>by
  have key:∀ (es:List MapEntry) (i:Nat),(∀ e∈es,∃ b,e.key=Value.int kd b) ->
    (Instr.findNow (.int kd) (.int kd a) es i=some none/\∀ e∈es,e.key≠.int kd a)\/∃ j e,Instr.findNow (.int kd) (.int kd a) es i=some (some (i+j,e.val))/\es[j]? = some e/\e.key=.int kd a:=by
   intro es
   induction es with
   | nil=>intro i _; exact .inl ⟨rfl,by simp⟩
   | cons x r ih=>
    intro i he;obtain⟨b,hb⟩:=he x (by simp);by_cases e:a=b
    .subst e;exact .inr ⟨0,x,by simp [Instr.findNow,Instr.sameNow,hb],rfl,hb⟩
    .have hs:Instr.findNow (.int kd) (.int kd a) (x::r) i=Instr.findNow (.int kd) (.int kd a) r (i+1):=by
      have e':(a==b)=false:=by simp [e]
      simp [Instr.findNow,Instr.sameNow,hb,e']
     rcases ih (i+1) (fun y hy=>he y (by simp [hy])) with ⟨h1,h2⟩ | ⟨j,y,h1,h2,h3⟩
     .refine .inl ⟨by rw [hs]; exact h1,fun y hy=>?_⟩;rcases Pv.1 hy with rfl | hy
      .rw [hb]; intro e'; cases e'; exact e rfl
      .exact h2 y hy
     .exact .inr ⟨j+1,y,by rw [hs,h1]; congr 3; omega,by simpa using h2,h3⟩
  rcases key es 0 he with ⟨h1,h2⟩ | ⟨j,e,h1,h2,h3⟩
  .exact .inl ⟨by simp [Instr.findKey,underlying,JU.out h,h1],h2⟩
  .exact .inr ⟨j,e,by simp [Instr.findKey,underlying,JU.out h,h1],h2,h3⟩
 stays:=fun w a=>by simp [Instr.keyThatStays,Instr.sameBits]

/-! ### A map aQ a list of keys and elements -/
section plain
variable {W B:Type} [DecidableEq W]
def iA (l:List (W×B)) (a:W):Option B:=(l.find? fun p=>p.1=a).map (·.2)
def dS (l:List (W×B)) (a:W):Nat:=l.findIdx fun p=>p.1=a
def lP (l:List (W×B)) (a:W):Bool:=l.any fun p=>p.1=a
def rE (l:List (W×B)) (a:W) (v:B):List (W×B):=if lP l a then l.map fun p=>if p.1=a then (a,v) else p else l++[(a,v)]
def nR (l:List (W×B)) (a:W) (z:B):List (W×B):=if lP l a then l else l++[(a,z)]
end plain
def mapOf {W B:Type} (kv:W->Value) (av:B->AV) (l:List (W×B)):List (Value×AV):=l.map fun p=>(kv p.1,av p.2)

section plain
variable {W B:Type} [DecidableEq W]
variable {l:List (W×B)} {a:W}
theorem J71 (h:∀ p∈l,p.1≠a):iA l a=none:=by
 unfold iA;rw [List.find?_eq_none.2 fun p hp=>by simpa using h p hp]; rfl
theorem J09 (h:∀ p∈l,p.1≠a):lP l a=false:=by
 unfold lP;rw [List.any_eq_false]; intro p hp; simpa using h p hp
theorem pL {p:W×B} (hp:p∈l) (h:p.1=a):lP l a=true:=by
 unfold lP;rw [List.any_eq_true]; exact⟨p,hp,by simpa using h⟩
theorem yW:∀ {l:List (W×B)},(l.map (·.1)).Nodup->∀ {j:Nat} {a:W} {v:B},l[j]? = some (a,v)->iA l a=some v/\dS l a=j
 | [],_,j,a,v,h=>by simp at h
 | (b,u)::r,hn,j,a,v,h=>by
  simp only [List.map_cons,List.nodup_cons] at hn;cases j with
  | zero=>simp at h; obtain⟨rfl,rfl⟩:=h; simp [iA,dS,List.findIdx_cons]
  | succ j=>
   simp at h;have h0:b≠a:=fun e=>hn.1 (by subst e; exact Pt.2 ⟨(b,v),Pd h,rfl⟩);obtain⟨h1,h2⟩:=yW hn.2 h;simp only [iA,dS] at h1 h2 ⊢;simp [List.findIdx_cons,h0,h1,h2]
theorem yV:∀ {l:List (W×B)} {a:W},(∀ p∈l,p.1≠a)->dS l a=l.length
 | [],_,_=>rfl
 | (b,u)::r,a,h=>by
  have hb:b≠a:=h (b,u) (by simp);have:=yV (l:=r) (a:=a) (fun p hp=>h p (by simp [hp]));simp only [dS] at this ⊢;simp [List.findIdx_cons,hb,this]
end plain

/-! ### One object of the call's own is changed -/
def Jb.alike:Jb->Jb->Prop
 | .map t _,.map t' _=>t=t'
 | .iter m _ _,.iter m' _ _=>m=m'
 | _,_=>False

variable {w:World}
theorem Step.change {w':World} {U:Gx} {L:Loc} {i b:Nat} {o o':Jb} (h7:Sat w U L) (hi:lk L i=some o) (hb:U i=some b) (ha:o.alike o')
  (h1:w'.os=w.os) (h2:w'.tape=w.tape) (h3:w'.output=w.output/\w.drawn<=w'.drawn) (h4:w'.heap.size=w.heap.size) (h5:∀ k,k≠b->w'.heap[k]? = w.heap[k]?):Step w U L w' U ((i,o')::L) where
 os:=h1
 tape:=h2
 output:=h3
 size:=by omega
 hid:=fun _ _ _=>Iff.rfl
 AX:=fun b' j hs=>by
  have h0:b'≠b:=fun e=>by subst e; have:=hs.kept i _ hi hb; cases o <;> cases o' <;> simp [Jb.alike] at ha <;> exact this
  refine⟨⟨by rw [h4]; exact hs.lt,hs.seen,fun id o2 hid h6=>?_⟩,Jc (w:=w) (h5 b' h0)⟩;rw [Ge] at hid;by_cases e:i=id
  .subst e; rw [hb] at h6; exact absurd (Pc h6) (Ne.symm h0)
  .rw [if_neg e] at hid; exact hs.kept id o2 hid h6
 far:=fun b' h9 hf=>by
  have h0:b'≠b:=fun e=>by subst e; exact hf i (by rw [hi]; rfl) hb
  refine⟨h5 b' h0,fun id hid=>?_⟩;rw [Ge] at hid;by_cases e:i=id
  .subst e; rw [hb]; exact fun e=>h0 (Pc e).symm
  .rw [if_neg e] at hid; exact hf id hid
 box:=fun id t' cs hid=>by
  refine⟨rfl,cs,?_⟩;rw [Ge,if_neg (fun e=>by subst e; rw [hi] at hid; cases hid; cases o' <;> simp [Jb.alike] at ha)]; exact hid
 map:=fun id t' es hid=>by
  refine⟨rfl,?_⟩;rw [Ge];by_cases e:i=id
  .subst e; rw [hi] at hid; cases hid;cases o' <;> simp [Jb.alike] at ha;subst ha; exact⟨_,if_pos rfl⟩
  .exact⟨es,by rw [if_neg e]; exact hid⟩
 iter:=fun id m n es hid=>by
  refine⟨rfl,?_⟩;rw [Ge];by_cases e:i=id
  .subst e; rw [hi] at hid; cases hid;cases o' <;> simp [Jb.alike] at ha;subst ha; exact⟨_,_,if_pos rfl⟩
  .exact⟨n,es,by rw [if_neg e]; exact hid⟩
 vec:=fun id t' k ver xs hid=>by
  have e:i≠id:=fun e=>by subst e; rw [hi] at hid; cases hid; cases o' <;> simp [Jb.alike] at ha
  refine⟨ver,xs,by rw [Ge,if_neg e]; exact hid,Pf,fun _=>⟨rfl,rfl,fun b' h8=>bK (h5 b' (fun e'=>?_))⟩⟩;subst e';exact e (h7.inj i id b' (by rw [hi]; rfl) (by rw [hid]; rfl) hb h8)
 spare:=fun id t' k ver hw hid=>by
  have e:i≠id:=fun e=>by subst e; rw [hi] at hid; cases hid; cases o' <;> simp [Jb.alike] at ha
  refine⟨ver,hw,by rw [Ge,if_neg e]; exact hid,Pf,fun _=>⟨rfl,rfl,fun b' h8=>h5 b' (fun e'=>?_)⟩⟩;subst e';exact e (h7.inj i id b' (by rw [hi]; rfl) (by rw [hid]; rfl) hb h8)

theorem Sat.change {w':World} {U:Gx} {L:Loc} {i b:Nat} {o o':Jb} (h0:Sat w U L) (hi:lk L i=some o) (hb:U i=some b) (st:Step w U L w' U ((i,o')::L)) (h4:w'.heap.size=w.heap.size) (h5:∀ k,k≠b->w'.heap[k]? = w.heap[k]?)
  (ho:kU w' U ((i,o')::L) (some b) o'):Sat w' U ((i,o')::L):=by
 have h3:∀ id,(lk ((i,o')::L) id).isSome=true->(lk L id).isSome=true:=fun id h=>by
  rw [Ge] at h;by_cases e:i=id
  .subst e; rw [hi]; rfl
  .rwa [if_neg e] at h
 refine⟨fun b i h=>by rw [h4]; exact h0.hid b i h,fun id b' hid h6=>by rw [h4]; exact h0.bnd id b' (h3 id hid) h6,fun id b' j hid h6=>h0.apart id b' j (h3 id hid) h6,fun id id' b' h1 h2=>h0.inj id id' b' (h3 id h1) (h3 id' h2),fun id ob hid=>?_⟩;rw [Ge] at hid;by_cases e:i=id
 .subst e;simp at hid; subst hid;rw [hb]; exact ho
 .rw [if_neg e] at hid;refine(h0.obj id ob hid).step st (fun b' h6=>h5 b' (fun e'=>?_));subst e';exact e (h0.inj i id b' (by rw [hi]; rfl) (by rw [hid]; rfl) hb h6)

/-! ### The operations -/
def fD (P:Program) (T K E:Nat):Bool:=match P.underlying T with | some (.map k e)=>k==K&&e==E&&Nat.blt T 1000000 | _=>false
theorem fD.both {T K E:Nat} (h:fD P T K E=true):P.underlying T=some (.map K E)/\Nat.blt T 1000000=true:=by
 unfold fD at h; split at h
 .simp only [Pp,beq_iff_eq] at h; obtain⟨⟨rfl,rfl⟩,h⟩:=h; exact⟨by assumption,h⟩
 .cases h
theorem fD.out {T K E:Nat} (h:fD P T K E=true):P.underlying T=some (.map K E):=(fD.both h).1

def bE:Value->AV
 | .agg vs=>.agg (vs.toList.map .sc)
 | v=>.sc v
theorem HQ {S:Nat->Nat->Prop} (v:Value):D w S (bE v) v:=by
 cases v with
 | agg vs=>
  refine .agg (by simp) fun j u v hu hv=>?_;simp only [Pj,Option.map_eq_some_iff] at hu;obtain⟨x,hx,rfl⟩:=hu;rw [Array.getElem?_toList] at hx;rw [hx] at hv; cases hv; exact .sc
 | _=>exact .sc

section mops
variable {P:Program} {o:Oper} {l:Fr} {L:Loc} {u:AV}

theorem J95 (i:Nat) {T:Nat} (ho:o.op=.makeMap T none) (hi:lk L i=none) (h1:Nat.blt T 1000000=true:=by rfl):Gy P o l L (Is (.mp i) ((i,.map T [])::L)):=by
 intro a w U K Q h0 hf hK;have hr:(execOp a.eval o).run P w=.ok (.value (.map (some w.heap.size))) (w.alloc (.map #[] 0)):=by
  simp [execOp,ho,Instr.makeMap]
 unfold Oper.wp;rw [hr];exact hK _ _ _ _ (upP U i (some w.heap.size)) ⟨rfl,rfl⟩ (h0.alloc hi _ (fun hs=>⟨_,rfl,.inl ⟨h1,#[],heap_alloc_new w _,rfl,fun i e k u he=>by simp at he⟩⟩)) (Step.alloc hi h0.bnd _) (.mp (t:=T) (es:=[]) (by simp [Ge]) (by simp [upP]))

variable {es:List (Value×AV)} {i:Nat}
theorem xT {w:World} {U:Gx} {b:Nat} {t:TypeId} (h1:Sat w U L) (hi:lk L i=some (.map t es)) (hb:U i=some b) (h2:Nat.blt t 1000000=true):MapAt w (Hs w U L) b es:=by
 obtain⟨b',h0,h⟩:=h1.obj i _ hi;rw [hb] at h0; cases h0;rcases h with ⟨_,h⟩ | ⟨h,_⟩
 .exact h
 .rw [h2] at h; cases h

section typed
variable {W B:Type} [DecidableEq W] {kv:W->Value} {av:B->AV}

variable {ents:Array MapEntry} {lst:List (W×B)} {K:Nat} {w:World}
theorem G5f {S:Nat->Nat->Prop} (hk:pG P K kv) (hn:(lst.map (·.1)).Nodup) (a0:ents.size=(mapOf kv av lst).length)
  (he:∀ (i:Nat) e k u,ents[i]? = some e->(mapOf kv av lst)[i]? = some (k,u)->e.key=k/\D w S u e.val/\e.born=i) (a:W) :
  ((Instr.findKey K (kv a) ents.toList).run P w=.ok none w/\(∀ p∈lst,p.1≠a)/\iA lst a=none/\lP lst a=false/\dS lst a=ents.size) \/
  ∃ e v,(Instr.findKey K (kv a) ents.toList).run P w=.ok (some (dS lst a,e.val)) w/\ents[dS lst a]? = some e/\e.key=kv a/\iA lst a=some v/\lP lst a=true/\D w S (av v) e.val/\lst[dS lst a]? = some (a,v)/\e.born=dS lst a:=by
 have h5:ents.size=lst.length:=by simpa [mapOf] using a0
 have h9:∀ e∈ents.toList,∃ b,e.key=kv b:=by
  intro e hm;obtain⟨j,hj,e1⟩:=List.mem_iff_getElem.1 hm;have h0:j < lst.length:=by simpa [h5] using hj
  refine⟨lst[j].1,(he j e (kv lst[j].1) (av lst[j].2) ?_ ?_).1⟩
  .rw [<- e1]; simp at hj; simp [hj]
  .simp [mapOf,h0]
 rcases hk.find w a ents.toList h9 with ⟨h1,h2⟩ | ⟨j,e,h1,h2,h3⟩
 .have h4:∀ p∈lst,p.1≠a:=by
   intro p hp e;obtain⟨j,hj,e1⟩:=List.mem_iff_getElem.1 hp;have h0:j < ents.size:=by omega
   have:=(he j ents[j] (kv lst[j].1) (av lst[j].2) (by simp [h0]) (by simp [mapOf,hj])).1;refine h2 ents[j] (Array.getElem_mem_toList h0) ?_;rw [this,e1,e]
  exact .inl ⟨h1,h4,J71 h4,J09 h4,by rw [yV h4,h5]⟩
 .have hj:j < lst.length:=by
   have:=(Pa h2).1;simp at this; omega
  have h6:ents[j]? = some e:=by simpa using h2
  obtain⟨k1,k2,k3⟩:=he j e (kv lst[j].1) (av lst[j].2) h6 (by simp [mapOf,hj]);have h7:lst[j].1=a:=hk.inj _ _ (k1.symm.trans h3);have h8:lst[j]? = some (a,lst[j].2):=by rw [Pb hj,<- h7]
  obtain⟨g1,g2⟩:=yW hn h8;exact .inr ⟨e,lst[j].2,by rw [g2]; exact h1,by rw [g2]; exact h6,h3,g1,pL (List.getElem_mem hj) h7,k2,by rw [g2]; exact h8,by rw [g2]; exact k3⟩

variable {E:Nat}
theorem H6f {zv:Value} (hz:(P.info? E).bind (·.zero)=some zv) (w:World):(zeroValue E).run P w=.ok zv w:=by
 cases h1:P.info? E with
 | none=>rw [h1] at hz; cases hz
 | some i=>rw [h1] at hz; simp at hz; simp [zeroValue,typeInfo,h1,hz]

variable {T i:Nat} {m x:Operand} {a:W}
theorem G8d {ok:Bool} (z0:B) (zv:Value) (ho:o.op=.lookup T m x ok) (hm:ev l m=.mp i) (hi:lk L i=some (.map T (mapOf kv av lst))) (hn:(lst.map (·.1)).Nodup)
  (hx:ev l x=bE (kv a)) (hk:pG P K kv) (hT:fD P T K E=true) (hz:(P.info? E).bind (·.zero)=some zv) (h9:av z0=bE zv) :
  Gy P o l L (Is (bif ok then .tup [av ((iA lst a).getD z0),BL (lP lst a)] else av ((iA lst a).getD z0)) L):=
 Hj fun A w U h8 hf=>by
  have hv:=hf.ev m;rw [hm] at hv;obtain⟨b,hb,h4⟩:=hv.inv_mp;obtain⟨ents,h1,h2,h3⟩:=xT h8 hi hb (fD.both hT).2;have h5:A.eval x=kv a:=by
   have h:=hf.ev x;rw [hx] at h;cases h6:kv a with
   | agg vs=>
    rw [h6] at h;obtain⟨ws,hw,hl,hc⟩:=h.inv_agg;rw [hw];congr 1;apply Array.ext
    .rw [hl]; simp
    .intro j a0 a1;have:=hc j (.sc vs[j]) ws[j] (by simp [a1]) (by simp [a0]);exact this.inv_sc
   | _=>rw [h6] at h; exact h.inv_sc
  have h0:(getObj b).run P w=.ok (.map ents ents.size) w:=by simp [getObj,Sem.run,h1]
  rcases G5f (P:=P) hk hn h2 h3 a with ⟨f1,f2,f3,f4,_⟩ | ⟨e,v,f1,f2,f3,f4,f5,f6,_⟩
  .refine⟨if ok then .tuple #[zv,.bool false] else zv,?_,?_⟩
   .simp only [execOp,ho,Instr.lookup,underlying,h4,h5,Sem.run_bind,run_program,Result.andThen_ok,fD.out hT,Sem.run_pure,h0,hk.check,f1,H6f hz]
   .rw [f3,f4];have h7:V w U L (av z0) zv:=by rw [h9]; exact .data (HQ zv)
    cases ok
    .exact h7
    .refine .tup rfl fun j u v hu hv=>?_
     match j with
     | 0=>simp at hu hv; subst hu; subst hv; exact h7
     | 1=>simp at hu hv; subst hu; subst hv; exact .sc
     | j+2=>simp at hu
  .refine⟨if ok then .tuple #[e.val,.bool true] else e.val,?_,?_⟩
   .simp only [execOp,ho,Instr.lookup,underlying,h4,h5,Sem.run_bind,run_program,Result.andThen_ok,fD.out hT,Sem.run_pure,h0,hk.check,f1]
   .rw [f4,f5];cases ok
    .exact .data f6
    .refine .tup rfl fun j u v' hu hv=>?_
     match j with
     | 0=>simp at hu hv; subst hu; subst hv; exact .data f6
     | 1=>simp at hu hv; subst hu; subst hv; exact .sc
     | j+2=>simp at hu

theorem J3e {A:Act} {U:Gx} {k:Value} (hf:Jq A w U L l) (hx:ev l x=bE k):A.eval x=k:=by
 have h:=hf.ev x;rw [hx] at h;cases k with
 | agg vs=>
  obtain⟨ws,hw,hl,hc⟩:=h.inv_agg;rw [hw];congr 1;apply Array.ext
  .rw [hl]; simp
  .intro j h0 h1;have:=hc j (.sc vs[j]) ws[j] (by simp [h1]) (by simp [h0]);exact this.inv_sc
 | _=>exact h.inv_sc

variable {b:Nat}
theorem eI {c:Nat} (h:w.heap[b]? = some (.map ents c)):(getObj b).run P w=.ok (.map ents c) w:=by simp [getObj,Sem.run,h]
theorem pX {ents':Array MapEntry} {c c':Nat} (h:w.heap[b]? = some (.map ents c)):(setObj b (.map ents' c')).run P w=.ok () { w with heap:=w.heap.setIfInBounds b (.map ents' c') }:=by simp [setObj,Sem.run,h]

theorem H6d (w:World) (b:Nat) (o:Obj):({ w with heap:=w.heap.setIfInBounds b o }:World).heap.size=w.heap.size:=by simp
theorem Gc8 (w:World) (b k:Nat) (o:Obj) (h:k≠b):({ w with heap:=w.heap.setIfInBounds b o }:World).heap[k]? = w.heap[k]? := by
 simp [Array.getElem?_setIfInBounds_ne (Ne.symm h)]
theorem Ja4 (w:World) (b:Nat) (o:Obj) (h:b < w.heap.size):({ w with heap:=w.heap.setIfInBounds b o }:World).heap[b]? = some o:=by
 simp [h]

theorem qE {U:Gx} {es es':List (Value×AV)} {ents':Array MapEntry} (h3:Nat.blt T 1000000=true) (h0:Sat w U L) (hi:lk L i=some (.map T es)) (hb:U i=some b)
  (h4:ents'.size=es'.length) (he:∀ (i:Nat) e k u,ents'[i]? = some e->es'[i]? = some (k,u)->e.key=k/\D w (Hs w U L) u e.val/\e.born=i) :
  let w':World:={ w with heap:=w.heap.setIfInBounds b (.map ents' ents'.size) }
  Sat w' U ((i,.map T es')::L)/\Step w U L w' U ((i,.map T es')::L):=by
 intro w';have h5:b < w.heap.size:=h0.bnd i b (by rw [hi]; rfl) hb;have st:Step w U L w' U ((i,.map T es')::L):=Step.change h0 hi hb rfl rfl rfl ⟨rfl,Pf⟩ (H6d w b _) (fun k hk=>Gc8 w b k _ hk);exact⟨Sat.change h0 hi hb st (H6d w b _) (fun k hk=>Gc8 w b k _ hk) ⟨b,rfl,.inl ⟨h3,ents',Ja4 w b _ h5,h4,fun j e k u h1 h2=>⟨(he j e k u h1 h2).1,(he j e k u h1 h2).2.1.mono st.AX,(he j e k u h1 h2).2.2⟩⟩⟩,st⟩

theorem G52 (h:(lst.map (·.1)).Nodup) (a:W) (v:B):((rE lst a v).map (·.1)).Nodup:=by
 unfold rE;by_cases hh:lP lst a=true
 .rw [if_pos hh];have:(lst.map fun p=>if p.1=a then (a,v) else p).map (·.1)=lst.map (·.1):=by
   rw [List.map_map];refine List.map_congr_left fun p _=>?_;simp only [Function.comp];by_cases e:p.1=a <;> simp [e]
  rw [this]; exact h
 .rw [if_neg hh];rw [List.map_append,List.nodup_append];refine⟨h,by simp,fun x hx y hy=>?_⟩;simp at hy; subst hy;intro e; subst e;obtain⟨p,hp,e⟩:=Pt.1 hx;exact hh (pL hp e)
theorem J08 (h:(lst.map (·.1)).Nodup) (a:W) (z:B):((nR lst a z).map (·.1)).Nodup:=by
 unfold nR;by_cases hh:lP lst a=true
 .rw [if_pos hh]; exact h
 .rw [if_neg hh];rw [List.map_append,List.nodup_append];refine⟨h,by simp,fun x hx y hy=>?_⟩;simp at hy; subst hy;intro e; subst e;obtain⟨p,hp,e⟩:=Pt.1 hx;exact hh (pL hp e)

variable {v:B}
theorem J39 (h:(lst.map (·.1)).Nodup) {j:Nat} {v0:B} (hj:lst[j]? = some (a,v0)):rE lst a v=lst.set j (a,v):=by
 have hm:lP lst a=true:=pL (Pd hj) rfl;unfold rE;rw [if_pos hm];apply List.ext_getElem?;intro i;rw [Pj,List.getElem?_set];by_cases e:j=i
 .subst e;have h0:j < lst.length:=(Pa hj).1;rw [if_pos rfl,if_pos h0,hj];simp
 .rw [if_neg e];cases hi:lst[i]? with
  | none=>rfl
  | some p=>
   obtain⟨b,u⟩:=p;by_cases e2:b=a
   .subst e2;have h1:=(yW h hi).2;have h2:=(yW h hj).2;omega
   .simp [e2]

theorem Ha6 {y:Operand} (ho:o.op=.mapUpdate T m x y) (hm:ev l m=.mp i) (hi:lk L i=some (.map T (mapOf kv av lst))) (hn:(lst.map (·.1)).Nodup)
  (hx:ev l x=bE (kv a)) (hy:(ev l y).plain=av v) (a0:(av v).BF=true) (hk:pG P K kv) (hT:fD P T K E=true) :
  Gy P o l L (Is .AL ((i,.map T (mapOf kv av (rE lst a v)))::L)):=by
 intro A w U KK Q h4 hf hK;have hv:=hf.ev m;rw [hm] at hv;obtain⟨b,hb,h6⟩:=hv.inv_mp;obtain⟨ents,h1,h2,h3⟩:=xT h4 hi hb (fD.both hT).2;have h7:A.eval x=kv a:=J3e hf hx;have h8:=(hf.ev y).plain;rw [hy] at h8;have h9:=h8.toD a0;have h5:ents.size=lst.length:=by simpa [mapOf] using h2
 rcases G5f (P:=P) (w:=w) hk hn h2 h3 a with ⟨f1,f2,f3,f4,f5⟩ | ⟨e,v0,f1,f2,f3,f4,f5,f6,f7,f8⟩
 .have hr:(execOp A.eval o).run P w=.ok .skip { w with heap:=w.heap.setIfInBounds b (.map (ents.push { key:=kv a,val:=A.eval y,born:=ents.size }) (ents.push { key:=kv a,val:=A.eval y,born:=ents.size }).size) }:=by
   simp only [execOp,ho,Instr.mapUpdate,underlying,h6,h7,Sem.run_bind,run_program,Result.andThen_ok,fD.out hT,Sem.run_pure,eI h1,hk.check,f1,pX h1,Array.size_push]
  unfold Oper.wp;rw [hr];have h0:rE lst a v=lst++[(a,v)]:=by simp [rE,f4]
  obtain⟨s1,s2⟩:=qE (fD.both hT).2 h4 hi hb (es':=mapOf kv av (rE lst a v)) (ents':=ents.push { key:=kv a,val:=A.eval y,born:=ents.size }) (by rw [h0]; simp [mapOf,h5]) (fun j e k u he hu=>by
   rw [h0] at hu;simp only [mapOf,List.map_append,List.map_cons,List.map_nil] at hu;rcases P4 j ents.size with hj | hj
   .rw [Array.getElem?_push,if_neg (by omega)] at he;rw [Ph (by simp; omega)] at hu;exact h3 j e k u he hu
   .have:j=ents.size:=by
     have:=(Nz he).1; simp at this; omega
    subst this;rw [Array.getElem?_push,if_pos rfl] at he;cases he;rw [Pg (by simp; omega)] at hu;simp [h5] at hu;obtain⟨rfl,rfl⟩:=hu;exact⟨rfl,h9,rfl⟩)
  exact hK _ _ _ _ U ⟨rfl,rfl⟩ s1 s2 .AL
 .have a1:=hk.stays w a;have a3:dS lst a < ents.size:=(Nz f2).1;have hr:(execOp A.eval o).run P w=.ok .skip { w with heap:=w.heap.setIfInBounds b (.map (ents.modify (dS lst a) fun e=>{ e with key:=kv a,val:=A.eval y }) (ents.modify (dS lst a) fun e=>{ e with key:=kv a,val:=A.eval y }).size) }:=by
   have a2:((ents[dS lst a]?).map (·.key)).getD (kv a)=kv a:=by rw [f2]; exact f3
   simp only [execOp,ho,Instr.mapUpdate,underlying,h6,h7,Sem.run_bind,run_program,Result.andThen_ok,fD.out hT,Sem.run_pure,eI h1,hk.check,f1,a2,a1,pX h1,Array.size_modify]
  unfold Oper.wp;rw [hr];have h0:=J39 (v:=v) hn f7;obtain⟨s1,s2⟩:=qE (fD.both hT).2 h4 hi hb (es':=mapOf kv av (rE lst a v)) (ents':=ents.modify (dS lst a) fun e=>{ e with key:=kv a,val:=A.eval y }) (by rw [h0]; simp [mapOf,h5]) (fun j e' k u he hu=>by
   rw [h0] at hu;simp only [mapOf,List.map_set] at hu;rw [Array.getElem?_modify] at he;rw [List.getElem?_set] at hu;by_cases ej:dS lst a=j
   .subst ej;rw [if_pos rfl,f2] at he;rw [if_pos rfl,if_pos (by simp; omega)] at hu;simp at he hu;obtain⟨rfl,rfl⟩:=hu;subst he;exact⟨rfl,h9,f8⟩
   .rw [if_neg ej] at he hu;exact h3 j e' k u he hu)
  exact hK _ _ _ _ U ⟨rfl,rfl⟩ s1 s2 .AL

theorem J24 (z0:B) (zv:Value) (ho:o.op=.mapEntry T m x) (hm:ev l m=.mp i) (hi:lk L i=some (.map T (mapOf kv av lst))) (hn:(lst.map (·.1)).Nodup)
  (hx:ev l x=bE (kv a)) (hk:pG P K kv) (hT:fD P T K E=true) (hz:(P.info? E).bind (·.zero)=some zv) (h8:av z0=bE zv) :
  Gy P o l L (Is (.tup [.AL,I64 (dS lst a)]) ((i,.map T (mapOf kv av (nR lst a z0)))::L)):=by
 intro A w U KK Q h4 hf hK;have hv:=hf.ev m;rw [hm] at hv;obtain⟨b,hb,h6⟩:=hv.inv_mp;obtain⟨ents,h1,h2,h3⟩:=xT h4 hi hb (fD.both hT).2;have h7:A.eval x=kv a:=J3e hf hx;have h5:ents.size=lst.length:=by simpa [mapOf] using h2
 have tupV:∀ {w':World} {L':Loc} (v1:Value) (n:Int),V w' U L' (.tup [.AL,I64 n]) (.tuple #[v1,.int .i64 n]):=fun v1 n=>.tup rfl fun j u v' hu hv=>by
  match j with
  | 0=>simp at hu hv; subst hu; exact .AL
  | 1=>simp at hu hv; subst hu; subst hv; exact .sc
  | j+2=>simp at hu
 rcases G5f (P:=P) (w:=w) hk hn h2 h3 a with ⟨f1,f2,f3,f4,f5⟩ | ⟨e,v0,f1,f2,f3,f4,f5,f6,f7,f8⟩
 .have hr:(execOp A.eval o).run P w=.ok (.value (.tuple #[zv,.int .i64 ents.size])) { w with heap:=w.heap.setIfInBounds b (.map (ents.push { key:=kv a,val:=zv,born:=ents.size }) (ents.push { key:=kv a,val:=zv,born:=ents.size }).size) }:=by
   simp only [execOp,ho,Instr.mapEntry,underlying,h6,h7,Sem.run_bind,run_program,Result.andThen_ok,fD.out hT,Sem.run_pure,eI h1,hk.check,f1,pX h1,Array.size_push,H6f hz,goInt]
  unfold Oper.wp;rw [hr];have h0:nR lst a z0=lst++[(a,z0)]:=by simp [nR,f4]
  obtain⟨s1,s2⟩:=qE (fD.both hT).2 h4 hi hb (es':=mapOf kv av (nR lst a z0)) (ents':=ents.push { key:=kv a,val:=zv,born:=ents.size }) (by rw [h0]; simp [mapOf,h5]) (fun j e k u he hu=>by
   rw [h0] at hu;simp only [mapOf,List.map_append,List.map_cons,List.map_nil] at hu;rcases P4 j ents.size with hj | hj
   .rw [Array.getElem?_push,if_neg (by omega)] at he;rw [Ph (by simp; omega)] at hu;exact h3 j e k u he hu
   .have:j=ents.size:=by
     have:=(Nz he).1; simp at this; omega
    subst this;rw [Array.getElem?_push,if_pos rfl] at he;cases he;rw [Pg (by simp; omega)] at hu;simp [h5] at hu;obtain⟨rfl,rfl⟩:=hu;exact⟨rfl,by rw [h8]; exact HQ zv,rfl⟩)
  refine hK _ _ _ _ U ⟨rfl,rfl⟩ s1 s2 ?_;rw [f5]; exact tupV _ _
 .have h9:=hk.stays w a;have a2:dS lst a < ents.size:=(Nz f2).1;have hr:(execOp A.eval o).run P w=.ok (.value (.tuple #[e.val,.int .i64 (dS lst a)])) { w with heap:=w.heap.setIfInBounds b (.map (ents.modify (dS lst a) fun e=>{ e with key:=kv a }) (ents.modify (dS lst a) fun e=>{ e with key:=kv a }).size) }:=by
   have a0:((ents[dS lst a]?).map (·.key)).getD (kv a)=kv a:=by rw [f2]; exact f3
   have a1:(Option.map (fun x=>(x.born:Int)) ents[dS lst a]?).getD 0=(dS lst a:Int):=by rw [f2]; simp [f8]
   simp only [execOp,ho,Instr.mapEntry,underlying,h6,h7,Sem.run_bind,run_program,Result.andThen_ok,fD.out hT,Sem.run_pure,eI h1,hk.check,f1,a0,h9,pX h1,Array.size_modify,a1,goInt]
  unfold Oper.wp;rw [hr];have h0:nR lst a z0=lst:=by simp [nR,f5]
  obtain⟨s1,s2⟩:=qE (fD.both hT).2 h4 hi hb (es':=mapOf kv av (nR lst a z0)) (ents':=ents.modify (dS lst a) fun e=>{ e with key:=kv a }) (by rw [h0]; simp [mapOf,h5]) (fun j e' k u he hu=>by
   rw [h0] at hu;rw [Array.getElem?_modify] at he;by_cases ej:dS lst a=j
   .subst ej;rw [if_pos rfl,f2] at he;simp at he;subst he;have:=h3 _ e k u f2 hu;exact⟨f3.symm.trans this.1,this.2⟩
   .rw [if_neg ej] at he;exact h3 j e' k u he hu)
  exact hK _ _ _ _ U ⟨rfl,rfl⟩ s1 s2 (tupV _ _)

theorem J3c (hn:(lst.map (·.1)).Nodup) (a:W) (z:B):∃ v0,(nR lst a z)[dS lst a]? = some (a,v0):=by
 unfold nR;by_cases h:lP lst a=true
 .rw [if_pos h];unfold lP at h;obtain⟨p,hp,e⟩:=List.any_eq_true.1 h;obtain⟨j,hj,e2⟩:=List.mem_iff_getElem.1 hp;have h0:lst[j]? = some (a,p.2):=by
   rw [Pb hj,e2];have:p.1=a:=by simpa using e
   rw [<- this]
  rw [(yW hn h0).2]; exact⟨_,h0⟩
 .rw [if_neg h];have h1:∀ p∈lst,p.1≠a:=fun p hp e=>h (pL hp e);rw [yV h1]; exact⟨z,by simp⟩

theorem Gd0 (hn:(lst.map (·.1)).Nodup) (a:W) (z v:B):(nR lst a z).set (dS lst a) (a,v)=rE lst a v:=by
 by_cases h:lP lst a=true
 .obtain⟨v0,h0⟩:=J3c hn a z;have:nR lst a z=lst:=by simp [nR,h]
  rw [this] at h0 ⊢;exact(J39 hn h0).symm
 .have h1:∀ p∈lst,p.1≠a:=fun p hp e=>h (pL hp e);have h':lP lst a=false:=by simpa using h
  simp [nR,rE,h',yV h1]

theorem H1c {s y:Operand} (z0:B) (ho:o.op=.entryStore T m s y) (hm:ev l m=.mp i) (hi:lk L i=some (.map T (mapOf kv av (nR lst a z0)))) (hn:(lst.map (·.1)).Nodup)
  (hs:ev l s=I64 (dS lst a)) (hy:(ev l y).plain=av v) (a2:(av v).BF=true) (h8:Nat.blt T 1000000=true:=by rfl) :
  Gy P o l L (Is .AL ((i,.map T (mapOf kv av (rE lst a v)))::L)):=by
 intro A w U KK Q h5 hf hK;have hv:=hf.ev m;rw [hm] at hv;obtain⟨b,hb,a3⟩:=hv.inv_mp;obtain⟨ents,h1,h2,h3⟩:=xT h5 hi hb h8;have h9:=hf.ev s;rw [hs] at h9;have a0:=(hf.ev y).plain;rw [hy] at a0;have a4:=a0.toD a2;have h6:ents.size=(nR lst a z0).length:=by simpa [mapOf] using h2
 obtain⟨v0,a1⟩:=J3c hn a z0;have h0:dS lst a < ents.size:=by rw [h6]; exact(Pa a1).1
 have h4:∀ (j:Nat) (hj:j < ents.size),ents[j].born=j:=fun j hj=>by
  have a5:j < (nR lst a z0).length:=by omega
  exact(h3 j ents[j] (kv (nR lst a z0)[j].1) (av (nR lst a z0)[j].2) (by simp [hj]) (by simp [mapOf,a5])).2.2
 have h7:ents.findIdx? (fun e=>(e.born:Int)==(dS lst a:Int))=some (dS lst a):=by
  rw [Array.findIdx?_eq_some_iff_getElem];refine⟨h0,by rw [h4 _ h0]; simp,fun j hj=>?_⟩;rw [h4 j (by omega)];simp; omega
 have hr:(execOp A.eval o).run P w=.ok .skip { w with heap:=w.heap.setIfInBounds b (.map (ents.modify (dS lst a) fun e=>{ e with val:=A.eval y }) (ents.modify (dS lst a) fun e=>{ e with val:=A.eval y }).size) }:=by
  simp only [execOp,ho,Instr.entryStore,a3,h9.inv_sc,asInt,asIntOf,Sem.run_bind,Result.andThen_ok,Sem.run_pure,eI h1,h7,pX h1,Array.size_modify]
 unfold Oper.wp;rw [hr];obtain⟨s1,s2⟩:=qE h8 h5 hi hb (es':=mapOf kv av (rE lst a v)) (ents':=ents.modify (dS lst a) fun e=>{ e with val:=A.eval y }) (by rw [<- Gd0 hn a z0 v]; simp [mapOf,h6]) (fun j e' k u he hu=>by
  rw [<- Gd0 hn a z0 v] at hu;simp only [mapOf,List.map_set] at hu;rw [Array.getElem?_modify] at he;rw [List.getElem?_set] at hu;by_cases ej:dS lst a=j
  .subst ej;rw [if_pos rfl,Array.getElem?_eq_getElem h0] at he;rw [if_pos rfl,if_pos (by simp; omega)] at hu;simp at he hu;obtain⟨rfl,rfl⟩:=hu;subst he;have:=(h3 (dS lst a) ents[dS lst a] (kv a) (av v0) (by simp [h0]) (by simp [mapOf,a1]));exact⟨this.1,a4,this.2.2⟩
  .rw [if_neg ej] at he hu;exact h3 j e' k u he hu)
 exact hK _ _ _ _ U ⟨rfl,rfl⟩ s1 s2 .AL
end typed

/-! ### Ranging over a map -/
variable {m t:Nat} {x:Operand}
theorem Q50 (i:Nat) {T K E:Nat} (ho:o.op=.range T x) (hx:ev l x=.mp m) (hm:lk L m=some (.map t es)) (hi:lk L i=none) (hT:fD P T K E=true) (h5:Nat.blt t 1000000=true:=by rfl) :
  Gy P o l L (Is (.it i) ((i,.iter (.mp m) es.length [])::L)):=by
 intro a w U KK Q h0 hf hK;have hv:=hf.ev x;rw [hx] at hv;obtain⟨b,hb,h6⟩:=hv.inv_mp;obtain⟨ents,h1,h2,h3⟩:=xT h0 hm hb h5;have hr:(execOp a.eval o).run P w=.ok (.value (.pointer (some ⟨w.heap.size,0,none⟩))) (w.alloc (.mapIter (some b) es.length #[] es.length)):=by
  simp only [execOp,ho,Instr.range,underlying,fD.out hT,Sem.run_bind,Sem.run_pure,run_program,Result.andThen_ok,h6,eI h1,run_newObj,h2];rfl
 unfold Oper.wp;rw [hr];have h4:i≠m:=fun e=>by subst e; rw [hi] at hm; cases hm
 exact hK _ _ _ _ (upP U i (some w.heap.size)) ⟨rfl,rfl⟩ (h0.alloc hi _ (fun hs=>⟨_,rfl,b,.mp (by rw [Ge,if_neg h4]; exact hm) (by simp [upP,Ne.symm h4,hb]),heap_alloc_new w _⟩)) (Step.alloc hi h0.bnd _)
  (.it (m:=.mp m) (n:=es.length) (seen:=[]) (by simp [Ge]) (by simp [upP]))

def Qe2 (i m:Nat) (L:Loc) (es:List (Value×AV)) (seen:AI):AV->Loc->Prop:=fun u L'=>
 (∃ j k v,es[j]? = some (k,v)/\j ∉ seen/\u=.tup [BL true,bE k,v]/\L'=(i,.iter (.mp m) es.length (seen++[j]))::L) \/
 ((∀ j,j < es.length->j∈seen)/\u=.tup [BL false]/\L'=L)

theorem Qae {seen:AI} (ho:o.op=.next x false) (hx:ev l x=.it i) (hi:lk L i=some (.iter (.mp m) es.length seen)) (hm:lk L m=some (.map t es)) (b8:Nat.blt t 1000000=true:=by rfl):Gy P o l L (Qe2 i m L es seen):=by
 intro a w U KK Q h8 hf hK;have hv:=hf.ev x;rw [hx] at hv;have b9:∃ b,U i=some b/\a.eval x=.pointer (some ⟨b,0,none⟩):=by
  generalize a.eval x=v at hv;cases hv with
  | data h=>cases h
  | it _ h=>exact⟨_,h,rfl⟩
 obtain⟨b,hb,a9⟩:=b9;obtain⟨b',b0,bm,c0,b1⟩:=h8.obj i _ hi;rw [hb] at b0; cases b0;obtain⟨bm',b2,ebm⟩:=c0.inv_mp;cases ebm;obtain⟨ents,h1,h2,h3⟩:=xT h8 hm b2 b8;have h6:∀ (j:Nat) (hj:j < ents.size),ents[j].born=j:=fun j hj=>by
  have h9:j < es.length:=by omega
  exact(h3 j ents[j] es[j].1 es[j].2 (by simp [hj]) (by simp [h9])).2.2
 -- what is left
 let left:Array MapEntry:=ents.filter fun e=>!seen.toArray.contains e.born
 have a2:∀ e∈left,∃ (j:Nat) (hj:j < ents.size),ents[j]=e/\j ∉ seen:=by
  intro e he;simp only [left,Array.mem_filter] at he;obtain⟨j,hj,e1⟩:=Array.mem_iff_getElem.1 he.1;refine⟨j,hj,e1,?_⟩;have:=he.2;rw [<- e1,h6 j hj] at this;simpa using this
 have hold:left.filter (fun e=>decide (e.born < es.length))=left:=by
  rw [Array.filter_eq_self];intro e he;obtain⟨j,hj,e1,_⟩:=a2 e he;rw [<- e1,h6 j hj]; simp; omega
 have b4:left.filter (fun e=>decide (e.born >= es.length))=#[]:=by
  rw [Array.filter_eq_empty_iff];intro e he;obtain⟨j,hj,e1,_⟩:=a2 e he;rw [<- e1,h6 j hj]; simp; omega
 have a0:(!seen.toArray.isEmpty&&!ents.isEmpty&&ents.all (fun e=>decide (e.born >= es.length)))=false:=by
  by_cases h0:ents.size=0
  .have:ents.isEmpty=true:=by simp [Array.isEmpty,h0]
   simp [this]
  .have:ents.all (fun e=>decide (e.born >= es.length))=false:=by
    rw [Bool.eq_false_iff];intro a3;rw [Array.all_eq_true] at a3;have:=a3 0 (by omega);rw [h6 0 (by omega)] at this;have:=P6 this;omega
   simp [this]
 have a1:(getObj b).run P w=.ok (.mapIter (some bm) es.length seen.toArray es.length) w:=by simp [getObj,Sem.run,b1]
 have c1:b < w.heap.size:=h8.bnd i b (by rw [hi]; rfl) hb;by_cases h7:left=#[]
 ·-- nothing is left
  have hr:(execOp a.eval o).run P w=.ok (.value (.tuple #[.bool false])) w:=by
   simp only [execOp,ho,Instr.next,a9,Sem.run_bind,Sem.run_pure,Result.andThen_ok,a1,eI h1,a0,Bool.false_eq_true,if_false];have e1:(ents.filter fun e=>!seen.toArray.contains e.born)=#[]:=h7;simp only [e1,Array.filter_empty,Array.isEmpty_empty,if_true,Array.append_empty,Array.map_empty,run_choose];rfl
  unfold Oper.wp;rw [hr];refine hK _ _ _ w U (.inr ⟨fun j hj=>?_,rfl,rfl⟩) h8 (Step.refl _ _ _) (.tup rfl fun j u v hu hv=>?_)
  .by_cases hs:j∈seen
   .exact hs
   .exfalso;have h9:j < ents.size:=by omega
    have:ents[j]∈left:=by
     simp only [left,Array.mem_filter];refine⟨Array.getElem_mem h9,?_⟩;rw [h6 j h9]; simpa using hs
    rw [h7] at this; simp at this
  .match j with
   | 0=>simp at hu hv; subst hu; subst hv; exact .sc
   | j+1=>simp at hu
 ·-- one of those that are left
  have a4:0 < left.size:=Array.size_pos_iff.2 h7;have a6:((if (left.filter fun e=>decide (e.born < es.length)).isEmpty then #[none] else #[])++((left.filter fun e=>decide (e.born < es.length))++(left.filter fun e=>decide (e.born >= es.length))).map some)=left.map some:=by
   rw [hold,b4];have:left.isEmpty=false:=by rw [Array.isEmpty_eq_false_iff]; exact h7
   rw [this];apply Array.ext';simp
  have a7:∀ (c:Nat),c < left.size->∃ (j:Nat) (hj:j < ents.size),j ∉ seen/\(left.map some)[c]? = some (some ents[j]):=by
   intro c hc;obtain⟨j,hj,e1,a5⟩:=a2 left[c] (Array.getElem_mem hc);exact⟨j,hj,a5,by simp [hc,e1]⟩
  have c2:∃ (c:Nat) (w1:World),(choose (.mapNext (left.map some).size)).run P w=.ok c w1/\c < left.size/\w1.heap=w.heap/\w1.os=w.os/\w1.tape=w.tape/\(w1.output=w.output/\w.drawn<=w1.drawn):=by
   rw [run_choose];by_cases b3:(Question.mapNext (left.map some).size).forced=true
   .exact⟨0,w,by rw [if_pos b3],a4,rfl,rfl,rfl,rfl,Pf⟩
   .refine⟨_,{ w with drawn:=w.drawn+1 },by rw [if_neg b3],?_,rfl,rfl,rfl,rfl,Nat.le_succ _⟩;simp only [Question.cut,Array.size_map];exact Nat.mod_lt _ a4
  obtain⟨c,w1,c3,c4,hh,c5,c6,b5⟩:=c2;obtain⟨j,hj,a5,c7⟩:=a7 c c4;have h9:j < es.length:=by omega
  have b6:w1.heap[b]? = some (.mapIter (some bm) es.length seen.toArray es.length):=by rw [hh]; exact b1
  have b7:(setObj b (.mapIter (some bm) es.length (seen.toArray.push ents[j].born) ents.size)).run P w1=.ok () { w1 with heap:=w1.heap.setIfInBounds b (.mapIter (some bm) es.length (seen.toArray.push ents[j].born) ents.size) }:=by
   simp [setObj,Sem.run,b6]
  have hr:(execOp a.eval o).run P w=.ok (.value (.tuple #[.bool true,ents[j].key,ents[j].val])) { w1 with heap:=w1.heap.setIfInBounds b (.mapIter (some bm) es.length (seen.toArray.push ents[j].born) ents.size) }:=by
   simp only [execOp,ho,Instr.next,a9,Sem.run_bind,Sem.run_pure,Result.andThen_ok,a1,eI h1,a0,Bool.false_eq_true,if_false];have e1:(ents.filter fun e=>!seen.toArray.contains e.born)=left:=rfl;rw [e1,a6,c3];simp only [Result.andThen_ok,c7,Sem.run_bind,b7,Sem.run_pure]
  unfold Oper.wp;rw [hr];obtain⟨k1,k2,k3⟩:=h3 j ents[j] es[j].1 es[j].2 (by simp [hj]) (by simp [h9]);have a8:seen.toArray.push ents[j].born=(seen++[j]).toArray:=by rw [h6 j hj]; simp
  have h4:({ w1 with heap:=w1.heap.setIfInBounds b (.mapIter (some bm) es.length (seen.toArray.push ents[j].born) ents.size) }:World).heap.size=w.heap.size:=by simp [hh]
  have h5:∀ k,k≠b->({ w1 with heap:=w1.heap.setIfInBounds b (.mapIter (some bm) es.length (seen.toArray.push ents[j].born) ents.size) }:World).heap[k]? = w.heap[k]? := fun k hk=>by
   simp [Array.getElem?_setIfInBounds_ne (Ne.symm hk),hh]
  have st:Step w U L { w1 with heap:=w1.heap.setIfInBounds b (.mapIter (some bm) es.length (seen.toArray.push ents[j].born) ents.size) } U ((i,.iter (.mp m) es.length (seen++[j]))::L):=
   Step.change h8 hi hb rfl c5 c6 b5 h4 h5
  have c8:i≠m:=fun e=>by subst e; rw [hi] at hm; cases hm
  refine hK _ _ _ _ U (.inl ⟨j,es[j].1,es[j].2,by simp [h9],a5,rfl,rfl⟩) (Sat.change h8 hi hb st h4 h5 ⟨b,rfl,bm,.mp (by rw [Ge,if_neg c8]; exact hm) b2,?_⟩) st (.tup rfl fun q u v hu hv=>?_)
  .rw [a8];simp [hh,c1,h2]
  .match q with
   | 0=>simp at hu hv; subst hu; subst hv; exact .sc
   | 1=>simp at hu hv; subst hu; subst hv; rw [<- k1]; exact .data (HQ _)
   | 2=>simp at hu hv; subst hu; subst hv; exact .data (k2.mono st.AX)
   | q+3=>simp at hu

theorem Q56 {j:Nat} {seen:AI} {k:Value} {v:AV} (ho:o.op=.entry x) (hx:ev l x=.it i) (hi:lk L i=some (.iter (.mp m) es.length (seen++[j]))) (hm:lk L m=some (.map t es)) (hj:es[j]? = some (k,v)) (a0:Nat.blt t 1000000=true:=by rfl) :
  Gy P o l L (Is (.tup [bE k,v]) L):=
 Hj fun a w U h5 hf=>by
  have hv:=hf.ev x;rw [hx] at hv;have a1:∃ b,U i=some b/\a.eval x=.pointer (some ⟨b,0,none⟩):=by
   generalize a.eval x=v at hv;cases hv with
   | data h=>cases h
   | it _ h=>exact⟨_,h,rfl⟩
  obtain⟨b,hb,a2⟩:=a1;obtain⟨b',h9,bm,a3,a4⟩:=h5.obj i _ hi;rw [hb] at h9; cases h9;obtain⟨bm',a5,ebm⟩:=a3.inv_mp;cases ebm;obtain⟨ents,h1,h2,h3⟩:=xT h5 hm a5 a0;have a7:j < es.length:=(Pa hj).1;have h0:j < ents.size:=by omega
  have h4:∀ (j:Nat) (hj:j < ents.size),ents[j].born=j:=fun j hj=>by
   have h0:j < es.length:=by omega
   exact(h3 j ents[j] es[j].1 es[j].2 (by simp [hj]) (by simp [h0])).2.2
  obtain⟨k1,k2,_⟩:=h3 j ents[j] k v (by simp [h0]) hj;have h6:(getObj b).run P w=.ok (.mapIter (some bm) es.length (seen++[j]).toArray es.length) w:=by simp [getObj,Sem.run,a4]
  have h7:(seen++[j]).toArray.back? = some j:=by simp
  have h8:ents.find? (fun e=>e.born==j)=some ents[j]:=by
   rw [Array.find?_eq_some_iff_getElem];refine⟨by rw [h4 j h0]; simp,j,h0,rfl,fun q hq=>?_⟩;rw [h4 q (by omega)];simp; omega
  have a6:(ents.size != es.length)=false:=by simp [h2]
  refine⟨.tuple #[ents[j].key,ents[j].val],?_,.tup rfl fun q u v hu hv=>?_⟩
  .simp only [execOp,ho,Instr.entry,a2,Sem.run_bind,Sem.run_pure,Result.andThen_ok,h6,h7,eI h1,a6,Bool.false_eq_true,if_false,h8]
  .match q with
   | 0=>simp at hu hv; subst hu; subst hv; rw [<- k1]; exact .data (HQ _)
   | 1=>simp at hu hv; subst hu; subst hv; exact .data k2
   | q+2=>simp at hu
end mops
end Go.Proofs.YtbgfgnddogfpcaaGreat
