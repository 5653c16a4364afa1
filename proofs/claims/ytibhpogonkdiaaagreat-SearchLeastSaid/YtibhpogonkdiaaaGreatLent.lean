/-
 Slices that begin as an empty literal and are appended to; Is a slice nil: Appending to a part from the front of a slice of the call's A slice of slices of the call's own,whose last slice still g Drawn orders whose last operation,behind all the others,is g The typed steps of slices of slices whose last slice grows. Slices with known cells behind them:
-/
import Derived.Test.YtibhpogonkdiaaaGreatMore2
set_option linter.unusedSimpArgs false
namespace Go.Proofs.YtibhpogonkdiaaaGreat
open Go.RowKit

variable {T:Nat} {P:Program} {w:World}
theorem G4f {o:Oper} {a:Act} {E k:Nat} (ho:o.op=.buildSlice T 0 #[]) (hT:sliceB P T E k=true):(execOp a.eval o).run P w=.ok (.value (.slice (some ⟨w.heap.size,0,none⟩) 0 0)) (w.alloc (.cells #[] E)):=by
 have h0:=Qd (sliceB.out hT).2 w;simp [execOp,ho,Instr.buildSlice,underlying,(sliceB.out hT).1,run_program,Sem.run_bind,Result.andThen_ok,h0,newRow,Instr.fill];grind

theorem J3c {β:H2} {L:Loc} {i:Nat} (E k:Nat) (vs:Array Value) (cap:Nat) (h7:cap<=maxLen) (h8:(w.alloc (.cells vs E)).ownsRow 0 E k (.slice (some ⟨w.heap.size,0,none⟩) 0 cap) 0 []) (h0:Sat w β L) (hi:lk L i=none) :
  Step w β L (w.alloc (.cells vs E)) (upP β i (some w.heap.size)) ((i,.spare E k 0 0)::L)∧Sat (w.alloc (.cells vs E)) (upP β i (some w.heap.size)) ((i,.spare E k 0 0)::L) ∧
  V (w.alloc (.cells vs E)) (upP β i (some w.heap.size)) ((i,.spare E k 0 0)::L) (.own i 0 k []) (.slice (some ⟨w.heap.size,0,none⟩) 0 cap):=by
 have a0:∀ id,(lk L id).isSome=true->i≠id:=fun id h e=>by subst e; rw [hi] at h; cases h
 have h5:∀ b,b < w.heap.size->(w.alloc (.cells vs E)).heap[b]? = w.heap[b]? := fun b hb=>Jv w _ hb;have h6:w.heap.size < (w.alloc (.cells vs E)).heap.size:=by simp
 have st:Step w β L (w.alloc (.cells vs E)) (upP β i (some w.heap.size)) ((i,.spare E k 0 0)::L):=by
  refine⟨rfl,rfl,⟨rfl,Sf⟩,Nat.le_of_lt h6,fun _ _ _=>Iff.rfl,fun b j hs=>⟨⟨Nat.lt_trans hs.lt h6,hs.seen,fun id ob hid hb=>?_⟩,Jt (w:=w) (h5 b hs.lt)⟩,fun b hb h9=>⟨h5 b hb,fun id hid e=>?_⟩,fun id t cs hid=>?_,fun id t cs hid=>?_,fun id t n cs hid=>?_,fun id t k' ver xs hid=>?_,fun id t k' ver hw hid=>?_⟩
  ·rw [Gm] at hid;by_cases e:i=id
   ·subst e; simp only [upP,if_true] at hb; cases hb; exact absurd hs.lt (Nat.lt_irrefl _)
   ·rw [if_neg e] at hid; simp only [upP,if_neg (Ne.symm e)] at hb; exact hs.kept id ob hid hb
  ·rw [Gm] at hid;by_cases e':i=id
   ·subst e'; simp only [upP,if_true] at e; cases e; exact absurd hb (Nat.lt_irrefl _)
   ·rw [if_neg e'] at hid; simp only [upP,if_neg (Ne.symm e')] at e; exact h9 id hid e
  all_goals
   have e:=a0 id (by rw [hid]; rfl)
  ·exact⟨by simp [upP,Ne.symm e],cs,by rw [Gm,if_neg e]; exact hid⟩
  ·exact⟨by simp [upP,Ne.symm e],cs,by rw [Gm,if_neg e]; exact hid⟩
  ·exact⟨by simp [upP,Ne.symm e],n,cs,by rw [Gm,if_neg e]; exact hid⟩
  ·exact⟨ver,xs,by rw [Gm,if_neg e]; exact hid,Sf,fun _=>⟨rfl,by simp [upP,Ne.symm e],fun b hb=>cR (h5 b (h0.bnd id b (by rw [hid]; rfl) hb))⟩⟩
  ·exact⟨ver,hw,by rw [Gm,if_neg e]; exact hid,Sf,fun _=>⟨rfl,by simp [upP,Ne.symm e],fun b hb=>h5 b (h0.bnd id b (by rw [hid]; rfl) hb)⟩⟩
 refine⟨st,⟨fun b j h=>Nat.lt_trans (h0.hid b j h) h6,fun id b hid hb=>?_,fun id b j hid hb hh=>?_,fun id id' b h1 h2 h3 h4=>?_,fun id ob hid=>?_⟩,?_⟩
 ·rw [Gm] at hid;by_cases e:i=id
  ·subst e; simp only [upP,if_true] at hb; cases hb; exact h6
  ·rw [if_neg e] at hid; simp only [upP,if_neg (Ne.symm e)] at hb; exact Nat.lt_trans (h0.bnd id b hid hb) h6
 ·rw [Gm] at hid;by_cases e:i=id
  ·subst e; simp only [upP,if_true] at hb; cases hb; exact absurd (h0.hid _ _ hh) (Nat.lt_irrefl _)
  ·rw [if_neg e] at hid; simp only [upP,if_neg (Ne.symm e)] at hb; exact h0.apart id b j hid hb hh
 ·by_cases e:i=id
  ·by_cases e':i=id'
   ·rw [<- e,e']
   ·subst e;rw [Gm,if_neg e'] at h2;simp only [upP,if_true] at h3;simp only [upP,if_neg (Ne.symm e')] at h4;cases h3;exact absurd (h0.bnd id' _ h2 h4) (Nat.lt_irrefl _)
  ·by_cases e':i=id'
   ·subst e';rw [Gm,if_neg e] at h1;simp only [upP,if_true] at h4;simp only [upP,if_neg (Ne.symm e)] at h3;cases h4;exact absurd (h0.bnd id _ h1 h3) (Nat.lt_irrefl _)
   ·rw [Gm,if_neg e] at h1;rw [Gm,if_neg e'] at h2;simp only [upP,if_neg (Ne.symm e)] at h3;simp only [upP,if_neg (Ne.symm e')] at h4;exact h0.inj id id' b h1 h2 h3 h4
 ·rw [Gm] at hid;by_cases e:i=id
  ·subst e; simp at hid; subst hid;exact .inr ⟨w.heap.size,by simp [upP],vs,heap_alloc_new w _,by simp⟩
  ·rw [if_neg e] at hid;simp only [upP,if_neg (Ne.symm e)];exact(h0.obj id ob hid).step st (fun b hb=>h5 b (h0.bnd id b (by rw [hid]; rfl) hb))
 ·exact .own (.nil h7) ⟨E,0,0,by rw [Gm,if_pos rfl],Sf,fun _=>⟨rfl,by simp [Value.ownBlock,upP],[],h8,fun j u hu=>by simp [flat] at hu⟩⟩

theorem Jfc {β:H2} {L:Loc} {i:Nat} (E k:Nat) (h0:Sat w β L) (hi:lk L i=none) :
  Step w β L (w.alloc (.cells #[] E)) (upP β i (some w.heap.size)) ((i,.spare E k 0 0)::L)∧Sat (w.alloc (.cells #[] E)) (upP β i (some w.heap.size)) ((i,.spare E k 0 0)::L) ∧
  V (w.alloc (.cells #[] E)) (upP β i (some w.heap.size)) ((i,.spare E k 0 0)::L) (.own i 0 k []) (.slice (some ⟨w.heap.size,0,none⟩) 0 0):=
 J3c E k #[] 0 (Nat.zero_le _) (World.ownsRow_lit w #[] 0 (Nat.zero_le _) (Nat.zero_le _) (by simp)) h0 hi

def uX (P:Program) (T f off:Nat):Bool:=
 match P.underlying T with
 | some (.struct fs)=>match fs[f]? with
  | some fld=>fld.offset==off&&Rj P fld.type
  | none=>false
 | _=>false
theorem uX.out {f off:Nat} (h:uX P T f off=true):∃ fs fld,P.underlying T=some (.struct fs)∧fs[f]? = some fld∧fld.offset=off∧Rj P fld.type=true:=by
 unfold uX at h;grind

section ops
variable {P:Program} {N:Cfg} {o:Oper} {l:Fr} {L L':Loc} {u:AV} {α:Type}

variable {T:Nat}
theorem QK (i E k:Nat) (ho:o.op=.buildSlice T 0 #[]) (hi:lk L i=none) (hT:sliceB P T E k=true):H7 P o l L (Is (.own i 0 k []) ((i,.spare E k 0 0)::L)):=by
 intro a w β K Q h0 hf hK;unfold Oper.wp;rw [G4f (E:=E) (k:=k) ho hT];obtain⟨st,sat,hv⟩:=Jfc E k h0 hi;exact hK _ _ _ _ _ ⟨rfl,rfl⟩ sat st hv

theorem G06 (w:World) (base:Nat) (t ty e:TypeId) (i:TypeInfo) (size:Nat) (ht:P.underlying t=some (.slice e)) (hi:P.info? e=some i)
  (v:Value) (n:Nat) (xs:AM) (h0:w.ownsRow base e size v n xs) (ao:Option Addr) (c:Nat) :
  (Builtin.append_ #[t,t] ty #[v,.slice ao 0 c]).run P w=.ok v w:=by
 rcases h0.2 with ⟨rfl,rfl⟩ | ⟨g,cap,cur,rfl,_,_,h1,_⟩
 ·cases ao <;> simp [Builtin.append_,run_underlying ht,sizeOf,typeInfo,hi,Builtin.lenOf,Builtin.firstCells,loadCells,loadCellsFrom]
 ·cases ao <;> simp [Builtin.append_,run_underlying ht,sizeOf,typeInfo,hi,Builtin.lenOf,Builtin.firstCells,h1,storeCells,loadCells,loadCellsFrom]

variable {i k:Nat} {x:Operand}
theorem Ja7 {s:Operand} {E by_ ver n:Nat} {kx:Nat} {xs:AG} (ho:o.op=.call { callee:=.builtin .append,args:=#[s,x],argTypes:=#[T,T] }) (hs:ev l s=.own i ver k xs) (hi:lk L i=some (.spare E k ver n)) (hx:Qi (ev l x)=some (kx,[]))
  (hT:sliceB P T E k=true) (hE:Y9 P E k by_=true):H7 P o l L (Is (.own i ver k xs) L):=
 J1 fun a w β h7 hf=>by
  have hv:=hf.ev s;rw [hs] at hv;have h4:=(hf.ev x).Qi hx;obtain⟨ao,cap,h5,_⟩:=h4.len;obtain⟨inf,z,e1,e2,e3,e4,e5,e6⟩:=Y9.out hE;have h6:=hv;cases hv with
  | data h=>cases h
  | own hd hp=>
   obtain⟨t,ver',hw,h1,h2,h3⟩:=hp;rw [hi] at h1;cases h1;obtain⟨rfl,h8,vals,h0,h9⟩:=h3 rfl;have hr:=G06 (P:=P) w 0 T o.type E inf k (sliceB.out hT).1 e1 (a.eval s) _ _ h0 ao cap;exact⟨a.eval s,by simp [execOp,ho,resolve,invoke,builtin,h5,hr],h6⟩

theorem tQ {L:Loc} {s:Operand} {E by_ kx:Nat} {f:α->AV} {xs ys:List α} (ho:o.op=.call { callee:=.builtin .append,args:=#[s,x],argTypes:=#[T,T] }) (hs:ev l s=OW i k f xs) (hi:lk L i=some (.spare E k xs.length xs.length)) (hx:Qi (ev l x)=some (kx,ys.map f))
  (hT:sliceB P T E k=true) (hE:Y9 P E k by_=true) (hb:decide ((xs.length+ys.length)*by_<=140737488355328∧xs.length+ys.length<=maxLen)=true) (h2:∀ y,(f y).BJ=true) (hk:kx=k∨ys=[]) :
  H7 P o l L (Is (OW i k f (xs++ys)) ((i,.spare E k (xs++ys).length (xs++ys).length)::L)):=by
 have h3:=S6 hb;by_cases h0:ys=[]
 ·subst h0;have h:=Ja7 (P:=P) (o:=o) (by_:=by_) ho hs hi (by simpa using hx) hT hE;rw [List.append_nil];intro a w β K Q h4 hf hK;refine h a w β K Q h4 hf (fun u L1 v w1 β1 hu h5 st1 h6=>?_);obtain⟨rfl,rfl⟩:=hu;have h1:jM L1 ((i,.spare E k xs.length xs.length)::L1):=fun j=>by
   rw [Gm];grind
  exact hK _ _ v w1 β1 ⟨rfl,rfl⟩ (h5.BI h1) (st1.BI h1) (h6.BI h1)
 ·have h:=YG (AZ:=(xs++ys).length) (xs:=xs.map f) (ys:=ys.map f) ho hs hi hx hT hE (by simpa using h3.1) (by simpa using h3.2) (fun y hy=>by
   obtain⟨z,_,rfl⟩:=Su.1 hy;exact h2 z) (hk.imp id (fun e=>by rw [e]; rfl)) (by
   have:=List.length_pos_iff.2 h0;rw [Sn]; omega)
  simpa only [OW,List.map_append,Sn,Ss] using h
theorem tP {f off:Nat} {cs:AG} (hT:uX P T f off=true) (ho:o.op=.field T x f:=by rfl) (hx:ev l x=.agg cs:=by rfl) (hn:cs[off]? = some u:=by rfl):H7 P o l L (Is u L):=
 J1 fun a w β _ hf=>by
  have h1:=hf.ev x;rw [hx] at h1;obtain⟨vs,he,hl,hv⟩:=h1.inv_agg;have h0:off < vs.size:=by
   grind
  obtain⟨fs,fld,g1,g2,rfl,g4⟩:=uX.out hT;exact⟨vs[fld.offset],by simp [execOp,ho,Instr.field,underlying,g1,g2,he,asAgg,part,oJ g4,h0],hv fld.offset u _ hn (by simp [h0])⟩
theorem J9c {y:Operand} {ver m t kk fo:Nat} {f:α->AV} {xs:List α} {e z:α} {u:AV} (hT:Y0 P T kk=true) (ho:o.op=.store T x y) (hu:ev l y=u) (hx:ev l x=.BH i ver m fo) (hi:lk L i=some (.vec t k ver (xs.map f))) (he:xs[m]? = some e)
  (hc:u.BJ=true) (hd:u.BD=true) (h1:yR fo u.cells (f e).cells=some (f z).cells) (hk:u.cells.length=kk) (h0:Nat.blt 0 kk=true) :
  H7 P o l L (Is .AP ((i,.vec t k ver ((xs.set m z).map f))::L)):=by
 have h:=H9e (P:=P) (e:=f e) (z:=f z) (ds:=(f z).cells) hT ho hu hx hi (Jff he) hc hd h1 rfl hk h0;rw [<- List.map_set] at h;exact h
end ops

theorem J6b {E k:Nat} (hT:sliceB P T E k=true) (a:Option Addr) (n c:Nat) (w:World):(Op.equal T (.slice a n c) (.slice none 0 0)).run P w=.ok a.isNone w:=by
 have h:=(sliceB.out hT).1;unfold Op.equal;generalize hd:Op.maxDepth=d;obtain⟨d,rfl⟩:∃ m,d=m+1:=⟨Op.maxDepth - 1,by rw [<- hd]; rfl⟩;clear hd;cases a with
 | none=>rw [Op.equalIn]; simp [underlying,h]
 | some a=>rw [Op.equalIn]; simp [underlying,h]

def Jfe {α β:Type} [DecidableEq β] (xs:List α) (k:Bool->Option β):Option β:=
 match xs with
 | []=>if k true=k false then k false else none
 | _=>k false
theorem H75 {α β γ:Type} [DecidableEq β] {xs:List α} {k:Bool->Option β} {r:β} {f:α->γ} (h:Jfe xs k=some r) (b:Bool) (hb:b=true->xs.map f=[]):k b=some r:=by
 cases xs with
 | nil=>
  have h:(if k true=k false then k false else none)=some r:=h;by_cases e:k true=k false
  ·rw [if_pos e] at h;cases b with
   | true=>rw [e]; exact h
   | false=>exact h
  ·grind
 | cons x l=>
  cases b with
  | true=>have:=hb rfl; cases this
  | false=>exact h
section
variable {P:Program} {o:Oper} {l:Fr} {L:Loc}
variable {xs:AG}
theorem J58 {x:Operand} {T T' E k k':Nat} (hT:sliceB P T E k'=true) (ho:o.op=.binOp .eql T x (.const (.slice none 0 0)) T') (hx:Qi (ev l x)=some (k,xs)):H7 P o l L (fun u L'=>∃ b:Bool,(b=true->xs=[])∧u=BL b∧L'=L):=by
 intro a w β K Q h0 hf hK;have hd:=(hf.ev x).Qi hx;have key:∀ ao n c,a.eval x=.slice ao n c->(execOp a.eval o).run P w=.ok (.value (.bool ao.isNone)) w:=fun ao n c e=>by
  have e2:a.eval (.const (.slice none 0 0))=.slice none 0 0:=rfl;simp [execOp,ho,eqGuard,binOp,e,e2,J6b hT]
 generalize hv:a.eval x=v at hd;cases hd with
 | nil h=>
  rename_i cap ao;unfold Oper.wp;rw [key _ _ _ hv];exact hK _ _ _ _ _ ⟨ao.isNone,fun _=>rfl,rfl,rfl⟩ h0 (Step.refl _ _ _) .sc
 | list vals h1 hm hk hS h=>
  unfold Oper.wp;rw [key _ _ _ hv];exact hK _ _ _ _ _ ⟨false,fun e=>(by cases e),rfl,rfl⟩ h0 (Step.refl _ _ _) .sc
theorem Q18 (i E k:Nat) {x:Operand} {ver:Nat} (ho:o.op=.assign x) (hx:ev l x=.sc (.slice none 0 0)) (hi:lk L i=some (.vec E k ver xs)):H7 P o l L (Is (.vec i (ver+1) k 0) ((i,.vec E k (ver+1) [])::L)):=by
 intro a w β K Q h0 hf hK;have hv:=hf.ev x;rw [hx] at hv;have hr:(execOp a.eval o).run P w=.ok (.value (.slice none 0 0)) w:=by simp [execOp,ho,hv.inv_sc]
 unfold Oper.wp;rw [hr];obtain⟨st,sat⟩:=Rn (w':=w) (t:=E) (k:=k) (AZ:=ver+1) (xs':=[]) (ob':=none) h0 (.inr ⟨ver,xs,hi,by omega,fun e=>by omega⟩) rfl rfl ⟨rfl,Sf⟩ (Sf) (fun _ _ _=>rfl) (.inl rfl);exact hK _ _ _ w _ ⟨rfl,rfl⟩ (sat ⟨by simp,.inl ⟨rfl,rfl⟩⟩) st (.vec ⟨E,ver+1,[],by rw [Gm,if_pos rfl],Sf,fun _=>⟨rfl,.inl ⟨rfl,rfl,by simp [upP]⟩⟩⟩ rfl)
theorem Q1b (i E k:Nat) {T ver:Nat} (ho:o.op=.buildSlice T 0 #[]) (hi:lk L i=some (.vec E k ver xs)) (hT:sliceB P T E k=true):H7 P o l L (Is (.vec i (ver+1) k 0) ((i,.vec E k (ver+1) [])::L)):=by
 intro a w β K Q h1 hf hK;unfold Oper.wp;rw [G4f (E:=E) (k:=k) ho hT];have h0:w.heap.size < (w.alloc (.cells #[] E)).heap.size:=by simp
 obtain⟨st,sat⟩:=Rn (w':=w.alloc (.cells #[] E)) (t:=E) (k:=k) (AZ:=ver+1) (xs':=[]) (ob':=some w.heap.size) h1 (.inr ⟨ver,xs,hi,by omega,fun e=>by omega⟩) rfl rfl ⟨rfl,Sf⟩ (Nat.le_of_lt h0) (fun b hb _=>Jv w _ hb) (.inr (.inr ⟨_,rfl,Sf,h0⟩));have hn:=heap_alloc_new w (.cells #[] E);exact hK _ _ _ _ _ ⟨rfl,rfl⟩ (sat ⟨by simp,.inr ⟨_,rfl,#[],hn,by simp,fun j u v hu=>by simp [flat] at hu⟩⟩) st (.vec ⟨E,ver+1,[],by rw [Gm,if_pos rfl],Sf,fun _=>⟨rfl,.inr ⟨w.heap.size,0,rfl,by simp [upP],Sf,Nat.zero_le _,by simp only [World.shape?,hn,Option.bind_some]; simp⟩⟩⟩ rfl)
end

section
variable {P:Program} {o:Oper} {l:Fr} {L:Loc}
theorem HX {T E k:Nat} (hT:sliceB P T E k=true) {ty:Nat} (w:World) (a s:Option Addr) (m cap q cap2:Nat) (cs:AM) (h0:m+q<=cap) (hs:s=none->q=0) (h4:cs.length=q*k) (h5:∀ (ad:Addr) (j:Nat) u,s=some ad->cs[j]? = some u->w.cell? (ad.add j)=some u) :
  (Builtin.append_ #[T,T] ty #[.slice a m cap,.slice s q cap2]).run P w=(match a with | some ad=>((storeCells (ad.add (m*k)) cs).run P w).andThen fun _ w=>.ok (.slice a (m+q) cap) w | none=>.ok (.slice a (m+q) cap) w):=by
 obtain⟨h1,h2⟩:=sliceB.out hT;have h3:=Qd h2 w;cases s with
 | none=>
  have hq:=hs rfl;subst hq;have:cs=[]:=S1 (by rw [h4]; simp);subst this;have h6:m<=cap:=by omega
  cases a <;> simp [Builtin.append_,run_underlying h1,Builtin.lenOf,Builtin.firstCells,h3,storeCells,Result.andThen,h6]
 | some ad=>
  have hl:=run_loadCells_list (P:=P) w ad cs (fun j v h=>h5 ad j v rfl h);rw [h4] at hl;cases a with
  | none=>simp [Builtin.append_,run_underlying h1,Builtin.lenOf,Builtin.firstCells,h3,hl,h0]
  | some a2=>simp [Builtin.append_,run_underlying h1,Builtin.lenOf,Builtin.firstCells,h3,hl,h0]
theorem J31 {d x:Operand} {T E k i ver m:Nat} {xs ys:AG} (ho:o.op=.call { callee:=.builtin .append,args:=#[d,x],argTypes:=#[T,T] }) (hT:sliceB P T E k=true) (hd:ev l d=.vsl i ver k 0 m) (hi:lk L i=some (.vec E k ver xs)) (hs:xJ L k (ev l x) ys) (hc:∀ y∈ys,y.BJ=true) (h4:m+ys.length<=xs.length) (a4:Nat.blt 0 k=true) :
  H7 P o l L (Is (.vsl i ver k 0 (m+ys.length)) ((i,.vec E k ver (xs.take m++ys++xs.drop (m+ys.length)))::L)):=by
 intro a w β K Q h0 hf hK;have h6:=hf.ev d;rw [hd] at h6;have a5:=h6.inv_vsl0 hi;obtain⟨h9,asx,cap2,cs,a0,a7,h1,h5,a8⟩:=hs.reads h0 (hf.ev x);have b5:(xs.take m++ys++xs.drop (m+ys.length)).length=xs.length:=by
  simp only [Sn,List.length_take,List.length_drop]; omega
 have h7:=h0.obj i _ hi;rcases a5 with ⟨e1,e2,e3⟩ | ⟨b,cap,e1,e2,e3,e4,e5⟩
 ·-- nil: nothing there, nothing to append
  have a9:xs=[]:=by
   rcases h7.2 with ⟨_,h⟩ | ⟨b,h,_⟩
   ·exact h
   ·rw [show β.at_ i=β i from rfl] at e3; rw [e3] at h; cases h
  subst a9;subst e2;have b0:ys=[]:=by simpa using h4
  subst b0;have hr:=HX (P:=P) hT (ty:=o.type) w none asx 0 0 0 cap2 cs (by omega) (fun _=>rfl) (by simpa using h1) h5;have h8:(execOp a.eval o).run P w=.ok (.value (.slice none 0 0)) w:=by
   simp [execOp,ho,resolve,invoke,builtin,e1,a0,hr]
  unfold Oper.wp;rw [h8];have hq:jM L ((i,Jn.vec E k ver [])::L):=fun id=>by
   rw [Gm];by_cases e:i=id
   ·subst e; rw [if_pos rfl,hi]
   ·rw [if_neg e]
  exact hK _ _ _ w β ⟨rfl,rfl⟩ (h0.BI hq) ((Step.refl w β L).BI hq) (.vsl ⟨E,ver,[],by rw [Gm,if_pos rfl]; rfl,Sf,fun _=>⟨by simp,⟨none,0,rfl,by simp,Nat.zero_le _,.inl rfl⟩,fun _=>.inl ⟨rfl,rfl,e3⟩⟩⟩ rfl)
 ·have b1:0 < k:=by simpa [Nat.blt_eq] using a4
  have hb:β.at_ i=some b:=e2;have b3:xs.length<=cap:=by
   rcases h7.2 with ⟨_,hx⟩ | ⟨b',h,vs,h2,h3,_⟩
   ·subst hx; simp
   ·rw [show β i=some b from e2] at h;cases h;have hs:vs.size=cap*k:=by
     have:=e5;simp [World.shape?,h2] at this;exact this
    rw [hs] at h3;exact Nat.le_of_mul_le_mul_right h3 b1
  have hr:=HX (P:=P) hT (ty:=o.type) w (some ⟨b,0,none⟩) asx m cap ys.length cap2 cs (by omega) (fun e=>by rw [a7 e]; rfl) h1 h5;have h8:(execOp a.eval o).run P w=((Builtin.append_ #[T,T] o.type #[.slice (some ⟨b,0,none⟩) m cap,.slice asx ys.length cap2]).run P w).andThen fun v w=>.ok (.value v) w:=by
   simp [execOp,ho,resolve,invoke,builtin,e1,a0]
   try rfl
  have hV:V w β L (.vsl i ver k 0 (m+ys.length)) (.slice (some ⟨b,0,none⟩) (m+ys.length) cap):=
   .vsl ⟨E,ver,xs,hi,Sf,fun _=>⟨by omega,⟨_,cap,rfl,by omega,e4,.inr ⟨b,e2,by simp⟩⟩,fun _=>.inr ⟨b,cap,rfl,e2,by omega,e4,e5⟩⟩⟩ rfl
  obtain⟨q1,vs,q2,q3,q4⟩:=nH h0 hi hb;have b4:m*k+ys.length*k<=xs.length*k:=by rw [<- Nat.add_mul]; exact Nat.mul_le_mul_right _ h4
  have a1:∀ (j:Nat) u x,(flat ys)[j]? = some u->cs[j]? = some x->D w (J6 w β L) u x:=fun j u x hu hx=>a8 j u x hu hx;have b2:∀ v∈cs,v.oneCell'=true:=fun v hv=>by
   obtain⟨j,hj⟩:=List.mem_iff_getElem?.1 hv;have a2:=(Sa hj).1;rw [h1] at a2;have hu:(flat ys)[j]? = some ((flat ys)[j]'(by rw [Jd h9]; exact a2)):=Sb _;exact(V.data (a1 j _ v hu hj)).cell (tE hc (Sd hu))
  have a3:=run_storeCells_at P b (m*k) E cs 0 vs w q2 (by rw [h1]; omega) b2;simp only [Nat.add_zero] at a3;obtain⟨st,sat⟩:=QN (off:=m) (zs:=ys) (cs:=cs) h0 hi hb q2 h9 (by rw [h1]) h4 a1;unfold Oper.wp;rw [h8,hr];have a6:(⟨b,0,none⟩:Addr).add (m*k)=⟨b,m*k,none⟩:=by simp [Addr.add_lit]
  simp only [a6,a3,Result.andThen];exact hK _ _ _ _ _ ⟨rfl,rfl⟩ sat st (hV.step st)
end
set_option linter.unusedVariables false

section moves
variable {w w':World} {β:H2} {L:Loc} {i t k AZ hw1:Nat}
end moves

section ops
variable {P:Program} {N:Cfg} {Q:Post} {o:Oper} {ops:Array Oper} {rest:AN} {l:Fr} {L:Loc}

end ops

section freeze
variable {P:Program} {N:Cfg} {Q:Post} {l l':Fr} {L L':Loc}

end freeze

/-! ### Typed -/
section typed
variable {α:Type}
end typed
set_option linter.unusedVariables false

section sound
variable {P:Program} {N:Cfg} {ops:AN} {ws los his:AK} {Ls:List Loc} {l0:Fr} {val:Nat->AV}

end sound
set_option linter.unusedVariables false

section typed
variable {P:Program} {N:Cfg} {Q:Post} {o:Oper} {ops:Array Oper} {rest:AN} {l:Fr} {L:Loc} {α:Type}

end typed
set_option linter.unusedVariables false

section typed
variable {α β:Type} {f:α->AV} {g:β->AV} {k:Nat}
end typed

section ops
variable {P:Program} {N:Cfg} {o:Oper} {l:Fr} {L L':Loc} {u u':AV} {α:Type}
end ops
end Go.Proofs.YtibhpogonkdiaaaGreat
