/-
 Slices with known cells behind them: Slices that lie alone in a block: Slices in blocks of their own,read aQ data. slices.SortFunc of slices that lie alone in their blocks:
-/
import Derived.Test.YtbgfgnddogfpcaaGreatNest2
import Derived.Test.YtbgfgnddogfpcaaGreatDraw2
import Derived.Test.YtbgfgnddogfpcaaGreatSortD
import Derived.Test.YtbgfgnddogfpcaaGreatRel
namespace Go.Proofs.YtbgfgnddogfpcaaGreat
open Go.RowKit
set_option linter.unusedVariables false

theorem J15 {a b:ByteArray}:(a==b)=true ↔ a=b:=by
 constructor
 .intro h;obtain⟨d⟩:=a; obtain⟨e⟩:=b;have h:(d==e)=true:=h;rw [beq_iff_eq] at h;rw [h]
 .intro h; subst h;obtain⟨d⟩:=a;show (d==d)=true
  rw [beq_iff_eq]
inductive Cv:AV->AV->Prop
 | same {u:AV}:Cv u u
 | agg {cs ds:AD} (hl:ds.length=cs.length) (h:∀ (j:Nat) u u',cs[j]? = some u->ds[j]? = some u'->Cv u u'):Cv (.agg cs) (.agg ds)
 | list {k:Nat} {xs ys:AD} (hl:ys.length=xs.length) (hk:∀ (j:Nat) x y,xs[j]? = some x->ys[j]? = some y->y.cells.length=x.cells.length) (h:∀ (j:Nat) u u',(flat xs)[j]? = some u->(flat ys)[j]? = some u'->Cv u u'):Cv (.list k xs) (.list k ys)
 | lst {k:Nat} {xs ys zs:AD} (h:Cv (.list k xs) (.list k ys)):Cv (.lst k xs zs) (.list k ys)
 | tail {k:Nat} {xs ys:AD} (h:Cv (.list k xs) (.list k ys)):Cv (.list k xs) (.lst k ys [])
variable {k:Nat} {v:Value} {w:World}
theorem D.list_lst {S:Nat->Nat->Prop} {xs:AD} (h:D w S (.list k xs) v):D w S (.lst k xs []) v:=by
 cases h with
 | nil h=>exact .lnil h
 | list vals h0 hm hk hS h=>exact .lst vals (by simpa using h0) hm (by simpa using hk) (by simpa using hS) (by simpa using h)
variable {u u':AV}
theorem D.cv {S:Nat->Nat->Prop} (hc:Cv u u'):∀ {v:Value},D w S u v->D w S u' v:=by
 induction hc with
 | same=>exact fun h=>h
 | agg hl _ ih=>
  intro v h;cases h with
  | agg h3 h=>
   refine .agg (by rw [h3,hl]) (fun j u' x h0 hx=>?_);have hj:=(Pa h0).1;exact ih j _ u' (Pb (by omega)) h0 (h j _ x (Pb (by omega)) hx)
 | @list k xs ys hl hk _ ih=>
  intro v h;cases h with
  | nil h=>
   have:ys=[]:=P1 (by simpa using hl);subst this; exact .nil h
  | list vals h4 hm h1 hS h=>
   have h2:∀ y∈ys,y.cells.length=k:=fun y hy=>by
    obtain⟨j,hj⟩:=List.mem_iff_getElem?.1 hy;have h5:=(Pa hj).1;have hx:xs[j]? = some (xs[j]'(by omega)):=Pb (by omega);rw [hk j _ y hx hj];exact h1 _ (Pd hx)
   have h6:(flat ys).length=(flat xs).length:=by rw [J2 h2,J2 h1,hl]
   rw [<- hl];refine .list vals (by omega) hm h2 (fun j hj=>hS j (by omega)) (fun j u' h0=>?_);have hj:=(Pa h0).1;exact ih j _ u' (Pb (by omega)) h0 (h j _ (Pb (by omega)))
 | lst _ ih=>exact fun h=>ih h.lst_list
 | tail _ ih=>exact fun h=>(ih h).list_lst
variable {U:Gx} {L:Loc}
theorem V.cv (hc:Cv u u'):∀ {v:Value},V w U L u v->V w U L u' v:=by
 induction hc with
 | same=>exact fun h=>h
 | agg hl _ ih=>
  intro v h;obtain⟨vs,rfl,h1,h⟩:=h.inv_agg;refine .agg (by rw [h1,hl]) (fun j u' x h0 hx=>?_);have hj:=(Pa h0).1;exact ih j _ u' (Pb (by omega)) h0 (h j _ x (Pb (by omega)) hx)
 | list hl hk h=>exact fun hv=>.data (D.cv (.list hl hk h) hv.inv_list)
 | lst h=>exact fun hv=>by cases hv with | data hv=>exact .data (D.cv (.lst h) hv)
 | tail h=>exact fun hv=>.data (D.cv (.tail h) hv.inv_list)

def CvL:AD->AD->Prop
 | [],[]=>True
 | u::r,u'::r'=>Cv u u'/\CvL r r'
 | _,_=>False
theorem CvL.len:∀ {cs ds:AD},CvL cs ds->ds.length=cs.length
 | [],[],_=>rfl
 | _::_,_::_,h=>by rw [Pi,Pi,CvL.len h.2]
 | [],_::_,h=>h.elim
 | _::_,[],h=>h.elim
theorem CvL.get:∀ {cs ds:AD},CvL cs ds->∀ (j:Nat) u u',cs[j]? = some u->ds[j]? = some u'->Cv u u'
 | [],[],_,j,u,u',h,_=>by simp at h
 | _::_,_::_,h,0,u,u',h1,h2=>by simp at h1 h2; subst h1 h2; exact h.1
 | _::_,_::_,h,j+1,u,u',h1,h2=>CvL.get h.2 j u u' (by simpa using h1) (by simpa using h2)
 | [],_::_,h,_,_,_,_,_=>h.elim
 | _::_,[],h,_,_,_,_,_=>h.elim
theorem CvL.append:∀ {cs ds cs' ds':AD},CvL cs ds->CvL cs' ds'->CvL (cs++cs') (ds++ds')
 | [],[],_,_,_,h=>h
 | _::_,_::_,_,_,h,h'=>⟨h.1,CvL.append h.2 h'⟩
 | [],_::_,_,_,h,_=>h.elim
 | _::_,[],_,_,h,_=>h.elim
theorem Cv.aggL {cs ds:AD} (h:CvL cs ds):Cv (.agg cs) (.agg ds):=.agg h.len h.get
section typed
variable {B U:Type} {f:B->AV} {g:U->AV} {k:Nat}
abbrev Ln (B:Type):=List B×List B
abbrev LT {B:Type} (k:Nat) (f:B->AV) (e:Ln B):AV:=.lst k (e.1.map f) (e.2.map f)
theorem Cv.listM (p:B->U) (h:∀ x,CvL (f x).cells (g (p x)).cells) (xs:List B):Cv (LS k f xs) (LS k g (xs.map p)):=by
 refine .list (by simp) (fun j x y hx hy=>?_) ?_
 .rw [Pj] at hx hy;rw [Pj] at hy;cases hz:xs[j]? with
  | none=>rw [hz] at hx; cases hx
  | some z=>rw [hz] at hx hy; cases hx; cases hy; exact(h z).len
 .have:CvL (flat (xs.map f)) (flat ((xs.map p).map g)):=by
   induction xs with
   | nil=>trivial
   | cons x xs ih=>exact(h x).append ih
  exact this.get
theorem Cv.lstM (p:B->U) (h:∀ x,CvL (f x).cells (g (p x)).cells) (e:Ln B):Cv (LT k f e) (LS k g (e.1.map p)):=.lst (.listM p h e.1)
theorem Cv.lst0 (e:Ln B):Cv (LT k f e) (LS k f e.1):=.lst .same
theorem Cv.of0 (xs:List B):Cv (LS k f xs) (LT k f (xs,[])):=.tail .same
end typed

section ops
variable {P:Program} {N:Cfg} {o:Oper} {l:Fr} {L L':Loc} {u u':AV} {B:Type}
theorem Gy.cv (hc:Cv u u') (h:Gy P o l L (Is u L')):Gy P o l L (Is u' L'):=fun a w U K Q hs hf hK=>h a w U K Q hs hf (fun v L'' x w' U' hr h0 h1 hv=>by
 obtain⟨rfl,rfl⟩:=hr;exact hK _ _ _ _ _ ⟨rfl,rfl⟩ h0 h1 (hv.cv hc))
variable {kd:IntKind} {E T k:Nat} {x:Operand}
theorem lF (i:Nat) {y:Operand} {by_ c:Nat} {kd':IntKind} {nx ny:Int} (ho:o.op=.makeSlice T x y) (hx:ev l x=.sc (.int kd nx)) (hy:ev l y=.sc (.int kd' ny)) (hi:lk L i=none)
  (hT:sliceB P T E k=true) (hE:Qa P E k by_=true) (h0:nx=0) (hm:ny=(c:Int)) (hb:decide (by_*c<=281474976710656/\c<=maxLen)=true):Gy P o l L (Is (.own i 0 k []) ((i,.spare E k 0 0)::L)):=by
 subst h0 hm;intro a w U K Q h4 hf hK;have h1:=P6 hb;obtain⟨inf,zv,e1,e2,e3,e4,e5,e6⟩:=Qa.out hE;have h2:=hf.ev x;rw [hx] at h2;have h3:=hf.ev y;rw [hy] at h3;have h5:(c:Int)<=9223372036854775807:=by
  have h:=h1.2;simp [maxLen] at h;omega
 have h7:(inf.bytes:Int)*(c:Int)<=281474976710656:=by
  have h:((inf.bytes*c:Nat):Int)<=281474976710656:=by rw [e3]; have:=h1.1; omega
  rwa [Int.natCast_mul] at h
 have hr:=run_make (P:=P) w T E inf zv (sliceB.out hT).1 e1 e4 kd kd' 0 c (Int.le_refl _) (by omega) h7 h5;simp only [Int.toNat_zero,Int.toNat_natCast] at hr;have h6:(execOp a.eval o).run P w=.ok (.value (.slice (some ⟨w.heap.size,0,none⟩) 0 c)) (w.alloc (.cells (madeCells zv.cells (c*inf.size)) E)):=by
  simp [execOp,ho,h2.inv_sc,h3.inv_sc,hr]
 unfold Oper.wp;rw [h6];obtain⟨st,sat,hv⟩:=J35 E k (madeCells zv.cells (c*inf.size)) c h1.2 (World.ownsRow_made w _ c (Nat.zero_le _) h1.2 (by rw [size_madeCells,e2])) h4 hi;exact hK _ _ _ _ _ ⟨rfl,rfl⟩ sat st hv

theorem HZ (hT:sliceB P T E k=true) (a:Option Addr) (len cap n:Nat) (kd:IntKind) (w:World) (hn:n<=cap) :
  (Instr.sliceAt T (.slice a len cap) none (some (.int kd n)) none).run P w=.ok (.slice (if cap=0 then a else a.map (·.add (0*k))) n cap) w:=by
 obtain⟨h1,h2⟩:=sliceB.out hT;have h3:=Q8 h2 w;have hb:(Instr.sliceBound (.int kd (n:Int)) cap .sliceAcap).run P w=.ok n w:=by
  have:(0:Int)<=n/\(n:Int)<=cap:=⟨by omega,by omega⟩;simp [Instr.sliceBound,asIntOf,this]
 have hs:(Instr.sliceBounds true len cap none (some (.int kd n)) none).run P w=.ok (0,n,cap) w:=by
  simp [Instr.sliceBounds,hb]
 simp [Instr.sliceAt,Instr.slice,run_underlying h1,hs,h3]
variable {n:Nat}
theorem D.cut {w:World} {S:Nat->Nat->Prop} {xs:AD} {a:Option Addr} {len cap:Nat} (h:D w S (.list k xs) (.slice a len cap)) (hn:n<=xs.length) :
  D w S (.lst k (xs.take n) (xs.drop n)) (.slice (if cap=0 then a else a.map (·.add (0*k))) n cap):=by
 cases h with
 | nil h=>
  have:n=0:=by simpa using hn
  subst this;simp only [List.take_nil,List.drop_nil];exact .lnil h
 | @list _ b off _ _ vals h0 hm hk hS h=>
  have e:(if cap=0 then some (⟨b,off,none⟩:Addr) else (some (⟨b,off,none⟩:Addr)).map (·.add (0*k)))=some ⟨b,off,none⟩:=by
   split <;> simp [Addr.add_lit]
  rw [e];have hl:(xs.take n).length=n:=by rw [List.length_take]; omega
  have:=D.lst (w:=w) (S:=S) (k:=k) (b:=b) (off:=off) (cap:=cap) (xs:=xs.take n) (ys:=xs.drop n) vals (by rw [<- Pn,List.take_append_drop]; exact h0) hm (by rw [List.take_append_drop]; exact hk) (by rw [List.take_append_drop]; exact hS) (by rw [List.take_append_drop]; exact h)
  rwa [hl] at this
theorem D.whole {w:World} {S:Nat->Nat->Prop} {xs ys:AD} {a:Option Addr} {len cap:Nat} (h:D w S (.lst k xs ys) (.slice a len cap)) (hn:n<=xs.length+ys.length) :
  D w S (.list k ((xs++ys).take n)) (.slice (if cap=0 then a else a.map (·.add (0*k))) n cap)/\xs.length+ys.length<=cap:=by
 cases h with
 | lnil h=>
  have:n=0:=by simpa using hn
  subst this;exact⟨.nil h,Nat.zero_le _⟩
 | @lst _ b off _ _ _ vals h1 hm hk hS h=>
  refine⟨?_,h1⟩;have e:(if cap=0 then some (⟨b,off,none⟩:Addr) else (some (⟨b,off,none⟩:Addr)).map (·.add (0*k)))=some ⟨b,off,none⟩:=by
   split <;> simp [Addr.add_lit]
  rw [e];have hl:((xs++ys).take n).length=n:=by rw [List.length_take,Pn]; omega
  have h0:flat ((xs++ys).take n)=(flat (xs++ys)).take (n*k):=gN hk n;have:=D.list (w:=w) (S:=S) (k:=k) (b:=b) (off:=off) (cap:=cap) (xs:=(xs++ys).take n) vals (by omega) hm (fun x hx=>hk x (List.mem_of_mem_take hx)) (fun j hj=>hS j (by rw [h0,List.length_take] at hj; omega)) (fun j u hu=>h j u (by
   rw [h0,Pk] at hu;split at hu
   .exact hu
   .cases hu))
  rwa [hl] at this
theorem G8e {p:Operand} {ni:Int} {f:B->AV} {xs:List B} (ho:o.op=.slice T x none (some p) none) (hx:Jv (ev l x)=some (k,xs.map f)) (hp:ev l p=.sc (.int kd ni)) (hT:sliceB P T E k=true) (hn:ni=(n:Int)/\n<=xs.length):Gy P o l L (Is (LT k f (xs.take n,xs.drop n)) L):=
 Hj fun a w U h3 hf=>by
  obtain⟨rfl,hn⟩:=hn;have h1:=(hf.ev x).Jv hx;obtain⟨ao,cap,he,h2,h4⟩:=h1.len;rw [he] at h1;have h0:=hf.ev p;rw [hp] at h0;rw [Pr] at h2;refine⟨_,?_,.data (by
   have:=h1.cut (n:=n) (by rw [Pr]; exact hn);rw [<- List.map_take,<- List.map_drop] at this;exact this)⟩
  simp only [execOp,ho,he,h0.inv_sc,Sem.run_bind,Option.map_none,Option.map_some];rw [HZ hT ao _ cap n kd w (by omega)];rfl
theorem wD {p:Operand} {ni:Int} {f:B->AV} {e:Ln B} (ho:o.op=.slice T x none (some p) none) (hx:ev l x=LT k f e) (hp:ev l p=.sc (.int kd ni)) (hT:sliceB P T E k=true) (hn:ni=(n:Int)/\n<=(e.1++e.2).length):Gy P o l L (Is (LS k f ((e.1++e.2).take n)) L):=
 Hj fun a w U h4 hf=>by
  obtain⟨rfl,hn⟩:=hn;rw [Pn] at hn;have h0:=hf.ev x;rw [hx] at h0;have h3:=hf.ev p;rw [hp] at h3;cases h0 with
  | data h0=>
   obtain⟨ao,cap,he,_,_⟩:=h0.lst_list.len;rw [he] at h0;obtain⟨h1,h2⟩:=h0.whole (n:=n) (by simpa using hn);rw [Pr,Pr] at h2;refine⟨_,?_,.data (by
    rw [<- List.map_append,<- List.map_take] at h1;exact h1)⟩
   simp only [execOp,ho,he,h3.inv_sc,Sem.run_bind,Option.map_none,Option.map_some];rw [HZ hT ao _ cap n kd w (by omega)];rfl
end ops

section
variable {P:Program} {N:Cfg} {Q:Post} {l:Fr} {L:Loc}
theorem G89 {o:Oper} {x:Operand} {L:Loc} (t k:Nat) (ho:o.op=.assign x) (hx:ev l x=.sc (.slice none 0 0)):Gy P o l L (Is (.frz t k (.list 1 [])) L):=
 Hj fun a w U _ hf=>⟨a.eval x,by simp [execOp,ho],by
  have h:=hf.ev x;rw [hx] at h;rw [h.inv_sc];exact .data (.frz ⟨[],[],rfl,fun j o x ho=>by simp at ho,.nil,.inl ⟨rfl,rfl⟩⟩ (.nil (Nat.zero_le _)))⟩
end

variable {t:Nat}
theorem V.frzOut (h:V w U L (.frz t k u) v):V w U L u v:=by
 cases h with
 | data h=>cases h with
  | frz _ h=>exact .data h
theorem V.blkOut {o:Option (Nat×Nat)} (h:V w U L (.blk o t k u) v):V w U L u v:=by
 cases h with
 | data h=>cases h with
  | blk _ h=>exact .data h
theorem V.tupFrz {us:AD} (h:V w U L (.tup (.frz t k u::us)) v):V w U L (.tup (u::us)) v:=by
 obtain⟨vs,rfl,hl,hv⟩:=h.inv_tup;refine .tup hl fun j x y hx hy=>?_;cases j with
 | zero=>cases hx; exact(hv 0 _ y rfl hy).frzOut
 | succ j=>exact hv (j+1) x y hx hy
variable {P:Program}
theorem Pure.cvt {f:FuncId} {args:AD} (h:Pure P f args (·=u)) (hc:∀ w U v,V w U [] u v->V w U [] u' v):Pure P f args (·=u'):=by
 intro w U vs h0 hl hv;refine(h w U vs h0 hl hv).mono fun e w' hh=>?_;obtain⟨v,r,U',L',rfl,hs,st,h1,rfl,rfl⟩:=hh;exact⟨v,_,U',[],rfl,hs,st,hc _ _ _ h1,rfl,rfl⟩
theorem Pure.tupFrz {f:FuncId} {args:AD} {us:AD} (h:Pure P f args (·=.tup (.frz t k u::us))):Pure P f args (·=.tup (u::us)):=h.cvt fun _ _ _ h=>h.tupFrz
section
variable {P:Program} {o:Oper} {l:Fr} {L L':Loc} {u u':AV}
theorem A_is (e:u=u') (h:Gy P o l L (Is u L')):Gy P o l L (Is u' L'):=e ▸ h
theorem Qfd {t k:Nat} (h:Gy P o l L (Is (.frz t k u) L')):Gy P o l L (Is u L'):=fun a w U K Q hs hf hK=>h a w U K Q hs hf (fun v L'' x w' U' hr h0 h1 hv=>by
 obtain⟨rfl,rfl⟩:=hr;exact hK _ _ x w' U' ⟨rfl,rfl⟩ h0 h1 hv.frzOut)
theorem Gy.mono {R R':AV->Loc->Prop} (hR:∀ u L',R u L'->R' u L') (h:Gy P o l L R):Gy P o l L R':=
 fun a w U K Q hs hf hK=>h a w U K Q hs hf (fun u L' v w' U' hr=>hK u L' v w' U' (hR u L' hr))
end
set_option maxRecDepth 100000
open Go.RowKit Go.Sort Go.Shelf

set_option maxHeartbeats 1000000 in
theorem H68 {F:FuncId} (hs:yF P F) (h0:SortNone P F) {B:Type} {f:B->AV} (hf:∀ x,(f x).cells=[f x]) (c2:∀ x,(f x).isCell=true) (c3:∃ x0 v0,v0.oneCell'=true/\∀ (w:World) (S:Nat->Nat->Prop),D w S (f x0) v0) (cf:B->B->Int) (hO:SWO (ltOf cf)) (g:FuncId) (hB:H5 P g=true) (AZ:AD) (c4:Qr (fun _=>false) AZ=true)
  (b4:∀ x y,Pure P g ([f x,f y]++AZ) (·=I64 (cf x y))) (i ver E:Nat) (xs:List B) (b5:xs.length < 4611686018427387904) :
  Q2 P F [.vec i ver 1 xs.length,.fn g AZ] [(i,.vec E 1 ver (xs.map f))] (fun q L'=>∃ r:{r:List B // r.Perm xs/\dV cf r},q=.tup []/\L'=[(i,.vec E 1 ver (r.1.map f))]):=by
 intro w U vs a0 hl hv;have hi:lk [(i,Jb.vec E 1 ver (xs.map f))] i=some (.vec E 1 ver (xs.map f)):=by simp [lk]
 have c5:vs.size=2:=hl;obtain⟨v0,v1,rfl⟩:∃ v0 v1,vs=#[v0,v1]:=by
  refine⟨vs[0],vs[1],?_⟩;apply Array.ext
  .simp [c5]
  .intro j e3 a3;have:j=0\/j=1:=by omega
   rcases this with rfl | rfl <;> rfl
 have a4:=hv 0 _ v0 rfl rfl;have c6:=hv 1 _ v1 rfl rfl;obtain⟨cb,rfl,c7,c8⟩:=c6.inv_fn;have b6:∀ (j:Nat) u v,AZ[j]? = some u->cb[j]? = some v->D w (Hs w U [(i,Jb.vec E 1 ver (xs.map f))]) u v:=fun j u v hu h4=>(c8 j u v hu h4).toD (Yz c4 u (Pd hu));obtain⟨-,e4,c9⟩:=cX a0 hi a4;have a5:∀ r:List B,∀ y∈r.map f,y.cells.length=1:=fun r y hy=>by
  obtain⟨z,_,rfl⟩:=Pt.1 hy;rw [hf]; rfl
 have h8:∀ (r:List B) (L:Loc),L=[(i,Jb.vec E 1 ver (r.map f))]->fL ((i,Jb.vec E 1 ver (r.map f))::[(i,Jb.vec E 1 ver (xs.map f))]) L:=fun r L hL id=>by
  subst hL;rw [Ge,Ge,Ge];by_cases e:i=id
  .rw [if_pos e,if_pos e]
  .rw [if_neg e,if_neg e,if_neg e]
 rcases c9 with ⟨rfl,d0,a9⟩ | ⟨b,cap,cur,rfl,hb,q1,q2,q3,q4,q5⟩
 .refine(h0 g cb w).mono fun e w' h=>?_;obtain⟨rfl,n,os,rfl⟩:=h;have hx:xs=[]:=by simpa using d0
  subst hx;obtain⟨st,sat⟩:=R0 (w':=grow (w.drewN n) os) (t:=E) (k:=1) (BA:=ver) (xs':=([]:List B).map f) (ob':=none) a0 (.inr ⟨ver,_,hi,Pf,fun _=>⟨rfl,a9.symm,fun b hb=>by rw [a9] at hb; cases hb⟩⟩)
   rfl rfl ⟨rfl,by simp [grow,World.drewN]⟩ (by simp [grow,World.drewN]) (fun b hb _=>by simp [grow,World.drewN,Array.getElem?_append_left hb]) (.inl rfl)
  have s2:=sat ⟨a5 [],.inl ⟨rfl,rfl⟩⟩;exact⟨_,_,_,_,rfl,s2.BK (h8 [] _ rfl),st.BK (h8 [] _ rfl),.tup rfl (fun j u v hu=>by simp at hu),⟨[],List.Perm.refl _,List.Pairwise.nil⟩,rfl,rfl⟩
 .have b0:b < w.heap.size:=(Nz q3).1;have b1:(xs.map f).length=xs.length:=by simp
  rw [b1] at q1;rw [qH hf] at q5;have h5:∀ j,j < xs.length->j < cur.size:=fun j hj=>by rw [q4]; omega
  have hD:∀ (j:Nat) (hj:j < xs.length),D w (Hs w U [(i,Jb.vec E 1 ver (xs.map f))]) (f xs[j]) (cur[j]'(h5 j hj)):=fun j hj=>q5 j _ _ (by simp [hj]) (by simp [h5 j hj])
  -- the values, with what they are
  let A:Type:={ p:Value×B // p.1.oneCell'=true/\D w (Hs w U [(i,Jb.vec E 1 ver (xs.map f))]) (f p.2) p.1 }
  have mk:∀ (j:Nat) (hj:j < xs.length),(cur[j]'(h5 j hj)).oneCell'=true:=fun j hj=>V.cell (w:=w) (U:=U) (L:=[(i,Jb.vec E 1 ver (xs.map f))]) (.data (hD j hj)) (c2 _);obtain⟨d,hd⟩:∃ d:Array A,d=Array.ofFn (n:=xs.length) fun j=>⟨(cur[j.1]'(h5 j.1 j.2),xs[j.1]),mk j.1 j.2,hD j.1 j.2⟩:=⟨_,rfl⟩;have h6:d.size=xs.length:=by rw [hd]; simp
  have d1:d.toList.map (fun p:A=>p.1.2)=xs:=by
   apply List.ext_getElem
   .simp [h6]
   .intro j h1 h2;simp [hd]
  obtain⟨x0,v0,a4,d2⟩:=c3;have:Inhabited A:=⟨⟨(v0,x0),a4,d2 _ _⟩⟩
  let enc:A->Value:=fun p=>p.1.1
  have b7:OneCell enc:=fun p=>p.2.1
  let cfA:A->A->Int:=fun p q=>cf p.1.2 q.1.2
  have d3:SWO (ltOf cfA):=⟨fun x=>hO.irrefl x.1.2,fun x y z=>hO.trans x.1.2 y.1.2 z.1.2,fun x y z=>hO.ntrans x.1.2 y.1.2 z.1.2⟩;have hH:Holds enc w b 0 d:=by
   intro j hj;have a3:j < xs.length:=by rw [<- h6]; exact hj
   have e1:enc d[j]! = cur[j]'(h5 j a3):=by rw [getElem!_pos d j hj]; simp [hd,enc]
   constructor
   .rw [e1]; simp [World.cell?,q3,h5 j a3]
   .simp [World.frozen?,q3]
  have eg:∀ args w,(callFunc g args).run P w=.ok (.enter g args) w:=fun args w=>H5.out hB args w;have hC:CmpLays1 P g cb enc cfA b 0 d.size w:=by
   intro m os dk e5 x y;have h3:∀ b' j,Hs w U [(i,Jb.vec E 1 ver (xs.map f))] b' j->Qf (sortWorld enc w b 0 m dk os) b' j=Qf w b' j/\b' < (sortWorld enc w b 0 m dk os).heap.size:=by
    intro b' j hs;have a6:b'≠b:=fun e=>by
     have:=hs.kept i _ hi (by rw [e]; exact hb);exact this
    constructor
    .refine Jc (w:=w) ?_;unfold sortWorld;simp only [grow];rw [Array.getElem?_append_left (by simp only [putRow,mapBlock,Array.size_modify,Sort.ahead]; exact hs.lt)];simp only [putRow,mapBlock,Sort.ahead,Array.getElem?_modify,if_neg (Ne.symm a6)]
    .unfold sortWorld;simp only [size_grow,putRow,mapBlock,Array.size_modify,Sort.ahead];have:=hs.lt; omega
   generalize sortWorld enc w b 0 m dk os=W at h3 ⊢;have b8:(#[enc x,enc y]++cb).size=([f x.1.2,f y.1.2]++AZ).length:=by rw [Array.size_append,Pn,c7]; rfl
   have d4:=GX (w:=W) (b4 x.1.2 y.1.2) b8;refine(d4 (fun j a v ha h4=>?_)).mono fun e w' h=>?_
   .rcases P4 j 2 with hj | hj
    .rw [Ph (by simpa using hj)] at ha;rw [Array.getElem?_append_left (by simpa using hj)] at h4;have:j=0\/j=1:=by omega
     rcases this with rfl | rfl
     .simp at ha h4; subst ha h4; exact x.2.2.mono fun b' j' hs=>⟨(h3 b' j' hs).2,(h3 b' j' hs).1⟩
     .simp at ha h4; subst ha h4; exact y.2.2.mono fun b' j' hs=>⟨(h3 b' j' hs).2,(h3 b' j' hs).1⟩
    .rw [Pg (by simpa using hj)] at ha;rw [Array.getElem?_append_right (by simpa using hj)] at h4;exact(b6 (j - 2) a v (by simpa using ha) (by simpa using h4)).mono fun b' j' hs=>⟨(h3 b' j' hs).2,(h3 b' j' hs).1⟩
   .obtain⟨v,rfl,hd,q,os',rfl⟩:=h;have d5:=hd.inv_sc;subst d5;exact⟨rfl,q,os',rfl⟩
  have a2:=hs enc b7 cfA d3 g cb b 0 cap d w eg hC hH b0 (by rw [h6]; exact b5);rw [h6] at a2;rw [b1];refine a2.mono fun e w' h=>?_;obtain⟨rfl,d',n,os,hp,d6,rfl⟩:=h;have d7:PermIn 0 d.size d d':=by rw [h6]; exact hp
  obtain⟨d8,d9⟩:=H75 d7;have a1:d'.size=xs.length:=by rw [d9,h6]
  obtain⟨r,hr⟩:∃ r,d'.toList.map (fun p:A=>p.1.2)=r:=⟨_,rfl⟩;have a8:r.Perm xs:=by
   rw [<- hr];have:=d8.map (fun p:A=>p.1.2)
   rwa [d1] at this
  have b9:dV cf r:=by
   rw [<- hr];have:=G42 (cf:=cfA) (d:=d') (by rw [a1]; exact d6);unfold dV at this ⊢;exact List.pairwise_map.2 this
  have a7:r.length=xs.length:=by rw [<- hr]; simp [a1]
  have h9:(sortWorld enc w b 0 n d' os).heap[b]? = some (.cells (putCells enc 0 d' cur) E (0,0)):=by
   unfold sortWorld grow putRow mapBlock;simp only [Sort.ahead];rw [Array.getElem?_append_left (by simpa using b0),Array.getElem?_modify,if_pos rfl,q3];rfl
  have b2:(putCells enc 0 d' cur).size=cur.size:=by simp [putCells]
  have c0:∀ j,j < xs.length->(putCells enc 0 d' cur)[j]? = some (enc d'[j]!):=by
   intro j hj;have:=h5 j hj;simp [putCells,this,a1,hj]
  have f1:(sortWorld enc w b 0 n d' os).os=w.os:=rfl;have f2:(sortWorld enc w b 0 n d' os).tape=w.tape:=rfl;have f3:(sortWorld enc w b 0 n d' os).output=w.output/\w.drawn<=(sortWorld enc w b 0 n d' os).drawn:=⟨rfl,Nat.le_add_right _ _⟩;have f4:w.heap.size<=(sortWorld enc w b 0 n d' os).heap.size:=by
   unfold sortWorld;rw [size_grow];simp only [putRow,mapBlock,Array.size_modify,Sort.ahead]; omega
  have f5:∀ b',b' < w.heap.size->b≠b'->(sortWorld enc w b 0 n d' os).heap[b']? = w.heap[b']? := by
   intro b' h7 c1;unfold sortWorld grow putRow mapBlock;simp only [Sort.ahead];rw [Array.getElem?_append_left (by simpa using h7),Array.getElem?_modify,if_neg c1]
  generalize sortWorld enc w b 0 n d' os=W at h9 f1 f2 f3 f4 f5;obtain⟨st,sat⟩:=R0 (w':=W) (t:=E) (k:=1) (BA:=ver) (xs':=r.map f) (ob':=U.at_ i) a0
   (.inr ⟨ver,_,hi,Pf,fun _=>⟨by rw [Pr,Pr,a7],rfl,fun b' h7=>by
    rw [hb] at h7; cases h7;rw [World.shape?,h9,World.shape?,q3]; simp only [b2]⟩⟩) f1 f2 f3 f4
   (fun b' h7 a6=>f5 b' h7 (fun e=>a6 (by rw [inL,hi]; rfl) (by rw [hb,e])))
   (.inr (.inl ⟨by rw [inL,hi]; rfl,rfl⟩))
  have s2:=sat ⟨a5 r,.inr ⟨b,hb,_,h9,by rw [b2,q4,Pr,a7]; omega,fun j u v hu h4=>by
   rw [qH hf] at hu;have hj:=(Pa hu).1;rw [Pr,a7] at hj;rw [c0 j hj] at h4;have e0:=Pc h4;subst e0;have b3:j < d'.size:=by omega
   rw [<- hr,Pj,Pj,Array.getElem?_toList,Array.getElem?_eq_getElem b3,Option.map_some,Option.map_some] at hu;have e2:=Pc hu;subst e2;rw [getElem!_pos d' j b3];exact(d'[j]).2.2.mono fun b' j' hs=>st.AX b' j' hs⟩⟩
  exact⟨_,_,_,_,rfl,s2.BK (h8 r _ rfl),st.BK (h8 r _ rfl),.tup rfl (fun j u v hu=>by simp at hu),⟨r,a8,b9⟩,rfl,rfl⟩

theorem Pure.blk2 {g:FuncId} {AZ:AD} {R:AV->Prop} {o o':Option (Nat×Nat)} (h:Pure P g ([u,u']++AZ) R):Pure P g ([.blk o t k u,.blk o' t k u']++AZ) R:=fun w U vs h1 hl hv=>
 h w U vs h1 hl fun j a v ha h0=>by
  match j with
  | 0=>cases ha; exact(hv 0 _ v rfl h0).blkOut
  | 1=>cases ha; exact(hv 1 _ v rfl h0).blkOut
  | j+2=>exact hv (j+2) a v ha h0
section ops
variable {P:Program} {o:Oper} {l:Fr} {L:Loc}
theorem Q4f {F:FuncId} {x y:Operand} {ts:Array TypeId} {i ver E n:Nat} {g:FuncId} {AZ:AD} {Z B:Type} {f:Z×B->AV} {cmp:B->B->Option Int} {xs:List (Z×B)} {r:List B} (ho:o.op=.call { callee:=.value (.func F),args:=#[x,y],argTypes:=ts })
  (hs:yF P F) (h0:SortNone P F) (hf:∀ x,(f x).cells=[f x]) (h4:∀ x,(f x).isCell=true) (h5:∃ x0 v0,v0.oneCell'=true/\∀ (w:World) (S:Nat->Nat->Prop),D w S (f x0) v0) (hB:H5 P F=true) (h6:H5 P g=true)
  (hx:ev l x=.vec i ver 1 n) (hy:ev l y=.fn g AZ) (hi:lk L i=some (.vec E 1 ver (xs.map f))) (hn:n=xs.length) (h2:Qr (fun _=>false) AZ=true) (h:vI cmp (xs.map Prod.snd)=some r)
  (h3:∀ x y q,cmp x.2 y.2=some q->Pure P g ([f x,f y]++AZ) (·=I64 q)):Gy P o l L (fun u L'=>∃ q:{q:List (Z×B) // q.Perm xs/\q.map Prod.snd=r},u=.tup []/\L'=(i,.vec E 1 ver (q.1.map f))::qA L [(i,.vec E 1 ver (xs.map f))]):=by
 obtain⟨cf,hc,hO,hl,hp,h8,hu⟩:=G43 h;rw [Pr] at hl;subst hn;have h7:SWO (ltOf fun a b:Z×B=>cf a.2 b.2):=⟨fun x=>hO.irrefl x.2,fun x y z=>hO.trans x.2 y.2 z.2,fun x y z=>hO.ntrans x.2 y.2 z.2⟩;have h1:=H68 (P:=P) (F:=F) hs h0 hf h4 h5 (fun a b:Z×B=>cf a.2 b.2) h7 g h6 AZ h2 (fun a b=>h3 a b _ (hc a.2 b.2)) i ver E xs hl;have hA:=QU (o:=o) (l:=l) (L:=L) (xs:=[x,y]) (ts:=ts) (u:=fun _:{q:List (Z×B) // q.Perm xs/\dV (fun a b:Z×B=>cf a.2 b.2) q}=>AV.tup []) (Lr:=fun q=>[(i,Jb.vec E 1 ver (q.1.map f))]) ho h1 hB ⟨.inl hx,by simp [AV.refs,inL,lk],.inl hy,Qp _ _ h2,trivial⟩ ⟨hi,trivial⟩ (by simp [closedIn,Jb.refs]) (fun _=>by simp [nQ,inL,lk]);exact Gy.mono (fun u L' hr=>by
  obtain⟨q,e1,e2⟩:=hr;refine⟨⟨q.1,q.2.1,hu _ (q.2.1.map Prod.snd) ?_⟩,e1,e2⟩;exact List.pairwise_map.2 q.2.2) hA
end ops
end Go.Proofs.YtbgfgnddogfpcaaGreat
