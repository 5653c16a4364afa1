/- A call that knows which memory was there when it began: -/
import Derived.Test.YtbgfgnddogfpcaaGreatFlt
namespace Go.Proofs.YtbgfgnddogfpcaaGreat
open Go.RowKit
set_option linter.unusedVariables false
set_option linter.unusedSimpArgs false

inductive Pl:AV->Prop
 | sc {v:Value}:Pl (.sc v)
 | agg {cs:AD} (h:∀ u∈cs,Pl u):Pl (.agg cs)
 | list {k:Nat} {xs:AD} (h:∀ u∈flat xs,Pl u):Pl (.list k xs)
theorem Jbe {xs:AD} {u:AV} (h:u∈flat xs):∃ x∈xs,u∈x.cells:=by
 induction xs with
 | nil=>cases h
 | cons y r ih=>
  rw [show flat (y::r)=y.cells++flat r from rfl] at h;rcases Ps.1 h with h | h
  .exact⟨y,List.mem_cons_self ..,h⟩
  .obtain⟨x,h1,h2⟩:=ih h;exact⟨x,List.mem_cons_of_mem _ h1,h2⟩
variable {k:Nat}
theorem Pl.ls {W:Type} {f:W->AV} {xs:List W} (h:∀ x,∀ u∈(f x).cells,Pl u):Pl (LS k f xs):=.list fun u hu=>by
 obtain⟨y,h1,h2⟩:=Jbe hu;obtain⟨x,_,rfl⟩:=Pt.1 h1;exact h x u h2
theorem D.marks {w:World} {S:Nat->Nat->Prop} {u:AV} {v:Value} (h:D w S u v):Pl u->D w (fun b i=>S b i/\(w.cell? ⟨b,i,none⟩).isSome=true) u v:=by
 induction h with
 | AL=>exact fun _=>.AL
 | sc=>exact fun _=>.sc
 | agg hl _ ih=>
  intro hp;cases hp with
  | agg hp=>exact .agg hl fun j u v hu hv=>ih j u v hu hv (hp u (Pd hu))
 | nil h=>exact fun _=>.nil h
 | list vals h0 hm hk hS _ ih=>
  intro hp;cases hp with
  | list hp=>exact .list vals h0 hm hk (fun j hj=>⟨⟨(hS j hj).1,by rw [(hS j hj).2]; rfl⟩,(hS j hj).2⟩) fun j u hu=>ih j u hu (hp u (Pd hu))
 | _=>intro hp; cases hp

def Q39 (w:World) (U:Gx):Prop:=∀ b,b < w.heap.size->∃ i,U.hid b i
def H7a (w:World) (U:Gx):Gx:=⟨fun _=>none,fun b i=>b < w.heap.size/\(U.hid b i\/w.cell? ⟨b,i,none⟩=none)⟩
theorem H01 (w:World) (U:Gx):Q39 w (H7a w U):=fun b hb=>by
 have:∃ i,w.cell? ⟨b,i,none⟩=none:=by
  cases h:w.heap[b]? with
  | none=>exact⟨0,by simp [World.cell?,h]⟩
  | some o=>
   cases o with
   | cells vs t f=>exact⟨vs.size,by simp [World.cell?,h]⟩
   | _=>exact⟨0,by simp [World.cell?,h]⟩
 obtain⟨i,hi⟩:=this;exact⟨i,hb,.inr hi⟩

def JCf (P:Program) (N:Cfg) (c:Code) (Q:Post) (l:Fr) (L:Loc):Prop:=
 ∀ (n:Nat) w0 U0 a w U,Q39 w0 U0->Qn N w0 U0 [] a w U l L->c.wpIn (FR N.ro) n P (Q.out N w0 U0 []) a w
def JLf (P:Program) (N:Cfg) (ops:Array Oper) (rest:AM) (Q:Post) (l:Fr) (L:Loc):Prop:=
 ∀ (n:Nat) w0 U0 a w U,Q39 w0 U0->Qn N w0 U0 [] a w U l L->wpListIn (FR N.ro) n P ops (Q.out N w0 U0 []) rest a w
section code
variable {P:Program} {N:Cfg} {Q:Post} {l l':Fr} {L L':Loc}
theorem QK {x y:Code} (h:∀ K:Fr->Loc->Prop,(∀ l L,JCf P N y Q l L->K l L)->JC P N x (Q.seq K) l L):JCf P N (.seq x y) Q l L:=
 fun n w0 U0 a w U hm hs=>wpIn_seq (Code.wpIn_mono (fun e a' w' q=>by
  cases e with
  | normal=>obtain⟨U',l',L',h0,hq⟩:=q; exact hq n w0 U0 a' w' U' hm h0
  | exit i=>exact q
  | ret=>exact q
  | goto l=>exact q
  | panic c=>exact q
  | outgrown=>exact q) (h (fun l L=>JCf P N y Q l L) (fun _ _ h=>h) n w0 U0 [] a w U hs))
theorem Jcf {x y:Code} (h:∀ K:Fr->Loc->Prop,(∀ l L,JC P N y Q l L->K l L)->JCf P N x (Q.seq K) l L):JCf P N (.seq x y) Q l L:=
 fun n w0 U0 a w U hm hs=>wpIn_seq (Code.wpIn_mono (fun e a' w' q=>by
  cases e with
  | normal=>obtain⟨U',l',L',h0,hq⟩:=q; exact hq n w0 U0 [] a' w' U' h0
  | exit i=>exact q
  | ret=>exact q
  | goto l=>exact q
  | panic c=>exact q
  | outgrown=>exact q) (h (fun l L=>JC P N y Q l L) (fun _ _ h=>h) n w0 U0 a w U hm hs))
theorem J1d {id:Nat} {ops:AM} (h:JLf P N ops.toArray ops Q l L):JCf P N (.region id ops.toArray false) Q l L:=
 fun n w0 U0 a w U hm hs=>wpIn_region_lit (h n w0 U0 a w U hm hs)
theorem G81 {c:Code} (l':Fr) (L':Loc) (i:Nat) {t:TypeId} {cs:AD} (hi:lk L i=some (.box t cs)) (hd:Qr (fun _=>false) cs=true)
  (h0:lk L' i=none) (hl:aX (fun j=>(lk L' j).isSome) L L') (hb:allIn L' N.base=true) (hf:G84 i cs (fun j=>(lk L' j).isSome) l l') (hk:JCf P N c Q l' L'):JCf P N c Q l L:=
 fun n w0 U0 a w U hm hs=>hk n w0 U0 a w U hm (hs.freeze i hi hd h0 hl hb hf)
theorem J9c {o:Oper} {n:Nat} {F:Fence} {a:Act} {w0:World} {U0:Gx} {L0:Loc} {Q Q':Post} {K:Act->World->Prop} {r:Result Next} (h:o.uponIn F n P a K (Q'.out N w0 U0 L0) r):o.uponIn F n P a K (Q.out N w0 U0 L0) r:=by
 cases r with
 | ok x w'=>cases x <;> exact h
 | halt x w'=>cases x <;> exact h
theorem Qcd {o:Oper} {n:Nat} {F:Fence} {a:Act} {w w0:World} {U0:Gx} {L0:Loc} {Q Q':Post} {K:Act->World->Prop} (h:o.wpIn F n P a w K (Q'.out N w0 U0 L0)):o.wpIn F n P a w K (Q.out N w0 U0 L0):=⟨h.1,J9c h.2⟩
theorem zY {F:Fence} {n:Nat} {ops:Array Oper} {w0:World} {U0:Gx} {L0:Loc} {Q Q':Post} {suf:AM} (hn:∀ a w,Q'.out N w0 U0 L0 .normal a w->wpListIn F n P ops (Q.out N w0 U0 L0) suf a w) :
  ∀ (pre:AM) (a:Act) (w:World),wpListIn F n P ops (Q'.out N w0 U0 L0) pre a w->wpListIn F n P ops (Q.out N w0 U0 L0) (pre++suf) a w
 | [],a,w,h=>hn a w h
 | o::pre,a,w,h=>by
  show (if Region.wanted o (yielded ops a.tmps) then _ else _)
  have h:(if Region.wanted o (yielded ops a.tmps) then _ else _):=h;split at h
  .rename_i hw;rw [if_pos hw];exact Qcd (Oper.wpIn_mono (fun a w h=>zY hn pre a w h) h)
  .rename_i hw;rw [if_neg hw];exact⟨h.1,zY hn pre _ _ h.2⟩
theorem Q3a {ops:Array Oper} {rest:AM} (m:Nat) (h:∀ K:Fr->Loc->Prop,(∀ l L,JLf P N ops (rest.drop m) Q l L->K l L)->JL P N ops (rest.take m) (Q.seq K) l L):JLf P N ops rest Q l L:=
 fun n w0 U0 a w U hm hs=>by
  have:=zY (P:=P) (F:=FR N.ro) (n:=n) (ops:=ops) (N:=N) (w0:=w0) (U0:=U0) (L0:=[]) (Q:=Q) (suf:=rest.drop m) (fun a' w' q=>by
   obtain⟨U',l',L',h0,hq⟩:=q;exact hq n w0 U0 a' w' U' hm h0) (rest.take m) a w (h (fun l L=>JLf P N ops (rest.drop m) Q l L) (fun _ _ h=>h) n w0 U0 [] a w U hs)
  rwa [List.take_append_drop] at this
end code

theorem H10 {P:Program} {f:FuncId} {fn:Func} {c:Code} {args:AD} {t:Tmp} {x:Value} (hf:P.funcs[f]? = some fn) (hb:fn.body=some c) (h3:fn.results=#[.tmp t]) (h5:∀ u∈args,Pl u)
  (h:JCf P ⟨fn.ntmps,[],none⟩ c (.fin fun l _=>look l t=.sc x) (kM 0 args) []):Pure P f args (·=.sc x):=by
 intro w U vs h4 hl hv;have h6:Sat w (H7a w U) []:=⟨fun b i h=>h.1,fun id b h=>by simp [lk] at h,fun id b j h=>by simp [lk] at h,fun id id' b h=>by simp [lk] at h,fun id o h=>by simp [lk] at h⟩;refine callsIn_wide.1 (callsIn_of_wp_marks (F:=Fence.wide) (n:=0) hf hb trivial (Code.wpIn_mono (fun e a' w' q=>?_) (h 0 w (H7a w U) _ w (H7a w U) (H01 w U) ⟨h6,Step.refl _ _ _,⟨fun t=>?_⟩,?_,fun id h=>by simp [lk] at h,.nil⟩)))
 .have fin:(∃ U' l' L',Qn ⟨fn.ntmps,[],none⟩ w (H7a w U) [] a' w' U' l' L'/\look l' t=.sc x)->LeavesInM Fence.wide 0 P fn a'.tmps (fun e w'=>∃ v r U' L',e=.returned v/\Sat w' U' L'/\Step w U [] w' U' L'/\V w' U' L' r v/\L'=[]/\r=.sc x) a'.defers .returning w':=by
   rintro⟨U',l',L',hs,hq⟩;refine Qn.leaves (tmps:=a'.tmps) (ds:=a'.defers) hs fun w'' h0=>?_;have h2:=h0.frame.tmp t;rw [hq] at h2;have far:∀ b,b < w.heap.size->w''.heap[b]? = w.heap[b]? := fun b hb=>(h0.step.far b hb fun id h=>by simp [lk] at h).1;refine⟨_,results_tmp h3 _ _ _,_,_,⟨fun _=>none,U.hid⟩,[],rfl,⟨fun b i h=>P0 (h4.hid b i h) h0.step.size,fun id b h=>by simp [lk] at h,fun id b j h=>by simp [lk] at h,fun id id' b h=>by simp [lk] at h,fun id o h=>by simp [lk] at h⟩,?_,.data (by rw [h2.inv_sc]; exact .sc),rfl,rfl⟩;exact⟨h0.step.os,h0.step.tape,h0.step.output,h0.step.size,fun b i _=>Iff.rfl,fun b i hS=>⟨⟨P0 hS.lt h0.step.size,hS.seen,fun id o h=>by simp [lk] at h⟩,Jc (far b hS.lt)⟩,
    fun b hb _=>⟨far b hb,fun id h=>by simp [lk] at h⟩,fun id t cs h=>by simp [lk] at h,fun id t es h=>by simp [lk] at h,fun id m n es h=>by simp [lk] at h,fun id t k ver xs h=>by simp [lk] at h,fun id t k ver hw h=>by simp [lk] at h⟩
  cases e with
  | normal=>exact fin q
  | ret=>exact fin q
  | exit i=>obtain⟨_,_,_,_,hq⟩:=q; exact hq.elim
  | goto l=>exact q.elim
  | panic c=>exact q.elim
  | outgrown=>exact q.elim
 .rw [sF];simp only [Nat.zero_le,if_true,Nat.sub_zero];cases hu:args[t]? with
  | none=>exact .AL
  | some u=>
   have ht:t < vs.size:=by
    rcases P4 t args.length with h | h
    .omega
    .simp [List.getElem?_eq_none h] at hu
   have e:(vs++Array.replicate (fn.ntmps - vs.size) undef).getD t undef=vs[t]:=by
    rw [Array.getD_eq_getD_getElem?,Array.getElem?_append_left ht]; simp [ht]
   rw [e];have hd:=(hv t u vs[t] hu (by simp [ht])).data_of_nil.marks (h5 u (Pd hu));exact .data (hd.mono fun b i hS=>⟨⟨hS.1.lt,fun hh=>hh.2.elim hS.1.seen (fun h1=>by have:=hS.2; rw [h1] at this; cases this),fun id o h=>by simp [lk] at h⟩,rfl⟩)
 .simp; omega

/-! ### What was made new is taken back -/
def JH:Value->Raw
 | .slice (some a) n c=>some (a.block,n,c)
 | _=>none
variable {os:List (Option (Nat×Nat))} {b c:Nat}
theorem G68 {j:Nat} (h:os[j]? = some (some (b,c))):b∈jK os:=List.mem_filterMap.2 ⟨some (b,c),Pd h,rfl⟩
theorem J82 (o:Option (Nat×Nat)) (r:List (Option (Nat×Nat))):jK (o::r)=match o with
  | some bc=>bc.1::jK r
  | none=>jK r:=by cases o <;> rfl
theorem H8c:∀ {os:List (Option (Nat×Nat))},(jK os).Nodup->∀ {i j b c c':Nat},os[i]? = some (some (b,c))->os[j]? = some (some (b,c'))->i=j
 | [],_,i,j,b,c,c',h,_=>by simp at h
 | o::r,hn,i,j,b,c,c',h1,h2=>by
  have hr:(jK r).Nodup:=by
   rw [J82] at hn;cases o with
   | none=>exact hn
   | some bc=>exact(List.nodup_cons.1 hn).2
  cases i with
  | zero=>
   cases j with
   | zero=>rfl
   | succ j=>
    have e:o=some (b,c):=by simpa using h1
    subst e;have h2:r[j]? = some (some (b,c')):=by simpa using h2
    exact absurd (G68 (os:=r) (j:=j) h2) (List.nodup_cons.1 hn).1
  | succ i=>
   have h1:r[i]? = some (some (b,c)):=by simpa using h1
   cases j with
   | zero=>
    have e:o=some (b,c'):=by simpa using h2
    subst e;exact absurd (G68 (os:=r) (j:=i) h1) (List.nodup_cons.1 hn).1
   | succ j=>
    have h2:r[j]? = some (some (b,c')):=by simpa using h2
    rw [H8c hr h1 h2]
theorem Qd2 {e:Raw} {ao:Option Addr} {m:Nat} (h:rv e=.slice ao m c):rn e=m:=by
 rcases e with _ | ⟨b,n,c'⟩
 .exact(Value.slice.inj h).2.1
 .exact(Value.slice.inj h).2.1
def vK (k:Nat) (os:List (Option (Nat×Nat))):Hp:=os.filterMap fun o=>o.map fun bc=>(bc.1,List.replicate (bc.2*k) AV.AL)
theorem yP (k:Nat):∀ os,(vK k os).map Prod.fst=jK os
 | []=>rfl
 | none::r=>yP k r
 | some bc::r=>by
  show bc.1::(vK k r).map Prod.fst=bc.1::jK r
  rw [yP k r]
theorem Q6f:∀ {H:Hp} {b:Nat} {cs:AD},hg H b=some cs->(b,cs)∈H
 | (b',cs')::r,b,cs,h=>by
  rw [gR] at h;split at h
  .rename_i e;cases h; subst e; exact List.mem_cons_self ..
  .exact List.mem_cons_of_mem _ (Q6f h)
theorem Jad {cs:AD} (h:hg (vK k os) b=some cs):∃ j c:Nat,os[j]? = some (some (b,c))/\cs=List.replicate (c*k) AV.AL:=by
 obtain⟨o,ho,he⟩:=List.mem_filterMap.1 (Q6f h);obtain⟨j,hj⟩:=List.mem_iff_getElem?.1 ho;cases o with
 | none=>cases he
 | some bc=>
  cases he;exact⟨j,bc.2,hj,rfl⟩
theorem Q1d (hn:(jK os).Nodup) {j:Nat} (h:os[j]? = some (some (b,c))):hg (vK k os) b=some (List.replicate (c*k) AV.AL):=
 J10 (by rw [yP]; exact hn) (List.mem_filterMap.2 ⟨some (b,c),Pd h,rfl⟩)
def ScF (l:Fr):Fr->Prop
 | []=>True
 | (t,u)::r=>(∃ v,u=.sc v/\look l t=.sc v)/\ScF l r
variable {l:Fr}
theorem ScF.get:∀ {l1:Fr},ScF l l1->∀ t,look l1 t=.AL\/∃ v,look l1 t=.sc v/\look l t=.sc v
 | [],_,t=>.inl rfl
 | (i,u)::r,h,t=>by
  by_cases e:i=t
  .subst e;obtain⟨v,rfl,hv⟩:=h.1;exact .inr ⟨v,by simp [look],hv⟩
  .have hb:Nat.beq i t=false:=by
    cases hq:Nat.beq i t with
    | false=>rfl
    | true=>exact(e (P2 hq)).elim
   simpa [look,hb] using h.2.get t
theorem Qn.take {N:Cfg} {w0 w:World} {U0 U:Gx} {a:Act} {l1:Fr} (hm:Q39 w0 U0) (hs:Qn N w0 U0 [] a w U l []) (p:Nat) {tt T:Nat} {us:AD} (ht:look l tt=.frz T k (.list 1 us)) (a1:ScF l l1) (a2:∀ u∈us,u.cells=[u]) :
  ∃ (es:List Raw) (H0:Hp) (O0:Nat->Nat) (U':Gx),es.length=us.length/\(∀ (j:Nat) e k' ys,es[j]? = some e->us[j]? = some (.list k' ys)->rn e=ys.length)/\(∀ (j:Nat) e,es[j]? = some e->∀ b n c,e=some (b,n,c)->∃ cs,hg H0 b=some cs/\n<=c/\c<=maxLen/\cs.length=c*k)/\Ow O0 es/\(H0.map Prod.fst).Nodup /\
   Qn N w0 U0 [] a w U' ((tt,LS 1 RA es)::l1) (HL p T H0++[]):=by
 classical
 have hv:=hs.frame.tmp tt;rw [ht] at hv;generalize a0:a.tmps.getD tt undef=v at hv;have hd:=hv.data_of_nil;cases hd with
 | frz hf hd=>
 obtain⟨xs,os,h1,h2,h3,h4⟩:=hf;have raw:∀ (j:Nat) x,xs[j]? = some x->rv (JH x)=x/\(∀ b n c,JH x=some (b,n,c)->os[j]? = some (some (b,c))/\n<=c/\c<=maxLen):=fun j x hx=>by
  have a3:j < os.length:=by have:=(Pa hx).1; omega
  obtain⟨o,ho⟩:∃ o,os[j]? = some o:=⟨_,Pb a3⟩;rcases h2 j o x ho hx with ⟨_,rfl⟩ | ⟨b,c,n,vs,rfl,rfl,h5,h6,_⟩
  .exact⟨rfl,fun b n c e=>by cases e⟩
  .refine⟨rfl,fun b' n' c' e=>?_⟩;cases e;exact⟨ho,h5,h6⟩
 have els:∀ (j:Nat) u x,us[j]? = some u->xs[j]? = some x->D w (Hs w U []) u x:=fun j u x hu hx=>by
  rcases h4 with ⟨rfl,rfl⟩ | ⟨b0,cap,vs,t0,f0,rfl,g2,g3,g4,g5,g6,g7⟩
  .simp at hx
  .have a4:∀ ys:AD,(∀ u∈ys,u.cells=[u])->flat ys=ys:=fun ys hy=>by
    induction ys with
    | nil=>rfl
    | cons y r ih=>rw [show flat (y::r)=y.cells++flat r from rfl,hy y (List.mem_cons_self ..),ih fun u hu=>hy u (List.mem_cons_of_mem _ hu)]; rfl
   have hj:j < xs.length:=(Pa hx).1;obtain⟨_,_,_,vals,v1,v2,v3⟩:=hd.vals;obtain⟨y,a5,a6⟩:=v3 j u (by rw [a4 us a2]; exact hu);have hc:=v2 ⟨b0,0,none⟩ j y rfl a5;rw [Addr.add_lit,Nat.zero_add] at hc;have a7:w.cell? ⟨b0,j,none⟩=vs[j]? := by simp [World.cell?,g4]
   rw [a7,g5 j hj,hx] at hc;cases hc; exact a6
 have blk:∀ b,(hg (vK k os) b).isSome=true->∃ c:Nat,∃ vs:Array Value,hg (vK k os) b=some (List.replicate (c*k) AV.AL)/\w.heap[b]? = some (.cells vs T (0,0))/\vs.size=c*k/\(∀ i,Hs w U [] b i)/\b∈jK os:=fun b hb=>by
  obtain⟨cs,h0⟩:=Ny hb;obtain⟨j,c,hj,rfl⟩:=Jad h0;obtain⟨x,hx⟩:∃ x,xs[j]? = some x:=⟨_,Pb (by have:=(Pa hj).1; omega)⟩;rcases h2 j _ x hj hx with ⟨h,_⟩ | ⟨b',c',n,vs,h,_,_,_,h5,h6,h7⟩
  .cases h
  .cases h;exact⟨c,vs,h0,h5,h6,h7,G68 hj⟩
 have new:∀ b,(hg (vK k os) b).isSome=true->w0.heap.size<=b:=fun b hb=>by
  obtain⟨c,vs,_,_,_,h7,_⟩:=blk b hb;rcases P4 b w0.heap.size with h | h
  .obtain⟨i,hi⟩:=hm b h;exact absurd ((hs.step.hid b i h).2 hi) (h7 i).seen
  .exact h
 let U':Gx:=⟨fun id=>if p<=id/\(hg (vK k os) (id - p)).isSome=true then some (id - p) else none,U.hid⟩
 have at_:∀ id b,U'.at_ id=some b->id=p+b/\(hg (vK k os) b).isSome=true:=fun id b h=>by
  by_cases hc:p<=id/\(hg (vK k os) (id - p)).isSome=true
  .have:id - p=b:=by simpa [U',hc] using h
   subst this;exact⟨by omega,hc.2⟩
  .simp [U',hc] at h
 have lkL:∀ id o,lk (HL p T (vK k os)++[]) id=some o->∃ b cs,id=p+b/\hg (vK k os) b=some cs/\o=.pin T b cs:=fun id o h=>by
  rcases P4 id p with hp | hp
  .rw [Yu hp] at h; cases h
  .obtain⟨b,rfl⟩:∃ b,id=p+b:=⟨id - p,by omega⟩;rw [ZN] at h;cases hh:hg (vK k os) b with
   | none=>rw [hh] at h; cases h
   | some cs=>rw [hh] at h; cases h; exact⟨b,cs,rfl,hh,rfl⟩
 have atb:∀ b cs,hg (vK k os) b=some cs->U'.at_ (p+b)=some b:=fun b cs h=>by
  have hh:(hg (vK k os) b).isSome=true:=by rw [h]; rfl
  simp [U',hh]
 have sat':Sat w U' (HL p T (vK k os)++[]):=by
  refine⟨hs.sat.hid,fun id b _ he=>?_,fun id b j _ he=>?_,fun id id' b _ _ e1 e2=>?_,fun id o ho=>?_⟩
  .obtain⟨_,hh⟩:=at_ id b he;obtain⟨c,vs,_,h5,_⟩:=blk b hh;exact(Nz h5).1
  .obtain⟨_,hh⟩:=at_ id b he;obtain⟨c,vs,_,_,_,h7,_⟩:=blk b hh;exact(h7 j).seen
  .rw [(at_ id b e1).1,(at_ id' b e2).1]
  .obtain⟨b,cs,rfl,hh,rfl⟩:=lkL id o ho;obtain⟨c,vs,h4,h5,h6,h7,_⟩:=blk b (by rw [hh]; rfl);rw [hh] at h4; cases h4;refine⟨atb b _ hh,vs,h5,by rw [h6,List.length_replicate],fun j u v hu _=>?_⟩;have:=List.eq_of_mem_replicate (Pd hu);subst this; exact .AL
 have step':Step w0 U0 [] w U' (HL p T (vK k os)++[]):=by
  refine⟨hs.step.os,hs.step.tape,hs.step.output,hs.step.size,hs.step.hid,fun b i hS=>?_,fun b hb _=>⟨(hs.step.far b hb fun id h=>by simp [lk] at h).1,fun id _ he=>?_⟩,fun id t cs h=>by simp [lk] at h,fun id t es h=>by simp [lk] at h,fun id m n es h=>by simp [lk] at h,fun id t k ver xs h=>by simp [lk] at h,fun id t k ver hw h=>by simp [lk] at h⟩
  .obtain⟨s1,s2⟩:=hs.step.AX b i hS;refine⟨⟨s1.lt,s1.seen,fun id o _ he=>?_⟩,s2⟩;have:=new b (at_ id b he).2;have:=hS.lt;omega
  .have:=new b (at_ id b he).2;omega
 refine⟨xs.map JH,vK k os,fun b=>if h:∃ j,∃ c,os[j]? = some (some (b,c)) then Classical.choose h else 0,U',?_,?_,?_,?_,by rw [yP]; exact h3,sat',step',⟨fun t'=>?_⟩,hs.size,fun id h=>by simp [lk] at h,hs.defers.top,hs.defers.nodup,fun d a8=>?_⟩
 .rw [Pr];obtain⟨ao,c,h,_⟩:=hd.len;rcases h4 with ⟨rfl,rfl⟩ | ⟨b0,cap,vs,t0,f0,rfl,_⟩
  .exact(Value.slice.inj h).2.1
  .exact(Value.slice.inj h).2.1
 .intro j e k' ys he hu;rw [Pj] at he;obtain⟨x,hx,rfl⟩:=Option.map_eq_some_iff.1 he;obtain⟨ao,cq,hq,_⟩:=(els j _ x hu hx).len;exact Qd2 ((raw j x hx).1.trans hq)
 .intro j e he b n c hb;rw [Pj] at he;obtain⟨x,hx,rfl⟩:=Option.map_eq_some_iff.1 he;obtain⟨r1,r2,r3⟩:=(raw j x hx).2 b n c hb;exact⟨_,Q1d h3 r1,r2,r3,List.length_replicate⟩
 .intro j e b n c he hb;rw [Pj] at he;obtain⟨x,hx,rfl⟩:=Option.map_eq_some_iff.1 he;obtain⟨r1,_,_⟩:=(raw j x hx).2 b n c hb;have h8:∃ j,∃ c,os[j]? = some (some (b,c)):=⟨j,c,r1⟩;show (if h:∃ j,∃ c,os[j]? = some (some (b,c)) then Classical.choose h else 0)=j
  rw [dif_pos h8];obtain⟨c',h'⟩:=Classical.choose_spec h8;exact H8c h3 h' r1
 .by_cases e:tt=t'
  .subst e;rw [a0,show look ((tt,LS 1 RA (xs.map JH))::l1) tt=LS 1 RA (xs.map JH) by simp [look]];have a9:(xs.map JH).map RA=xs.map AV.sc:=by
    rw [List.map_map];refine List.map_congr_left fun x hx=>?_;obtain⟨j,hj⟩:=List.mem_iff_getElem?.1 hx;show AV.sc (rv (JH x))=.sc x
    rw [(raw j x hj).1]
   show V w U' _ (.list 1 ((xs.map JH).map RA)) v
   rw [a9];have h9:∀ ys:AK,flat (ys.map AV.sc)=ys.map AV.sc:=fun ys=>by
    induction ys with
    | nil=>rfl
    | cons y r ih=>show AV.sc y::flat (r.map AV.sc)=_; rw [ih]; rfl
   rcases h4 with ⟨rfl,rfl⟩ | ⟨b0,cap,vs,t0,f0,rfl,g2,g3,g4,g5,g6,g7⟩
   .exact .data (.nil (Nat.zero_le _))
   .have hl:(xs.map AV.sc).length=xs.length:=Pr ..;have:=D.list (w:=w) (S:=Hs w U' (HL p T (vK k os)++[])) (k:=1) (b:=b0) (off:=0) (cap:=cap) (xs:=xs.map AV.sc) (fun j=>vs.getD j undef) (by rw [hl]; exact g2) g3 (fun y hy=>by
     obtain⟨z,_,rfl⟩:=Pt.1 hy; rfl) (fun j hj=>⟨⟨(g6 (0+j)).lt,(g6 (0+j)).seen,fun id o _ he=>absurd (blk b0 (at_ id b0 he).2) (fun⟨_,_,_,_,_,_,h⟩=>g7 h)⟩,by
     rw [h9,hl] at hj;have hx:xs[j]? = some xs[j]:=by simp [hj]
     have hc:=(g5 j hj).trans hx;rw [Nat.zero_add];have b1:j < vs.size:=(Nz hc).1;simp [World.cell?,g4,b1]⟩) (fun j u hu=>by
     rw [h9,Pj] at hu;obtain⟨x,hx,rfl⟩:=Option.map_eq_some_iff.1 hu;have hj:j < xs.length:=(Pa hx).1;have hc:=(g5 j hj).trans hx;have:vs.getD j undef=x:=by rw [Array.getD_eq_getD_getElem?,hc]; rfl
     rw [this]; exact .sc)
    rw [hl] at this;exact .data this
  .have b2:Nat.beq tt t'=false:=by
    cases hq:Nat.beq tt t' with
    | false=>rfl
    | true=>exact(e (P2 hq)).elim
   have:look ((tt,LS 1 RA (xs.map JH))::l1) t'=look l1 t':=by simp [look,b2]
   rw [this];rcases a1.get t' with h | ⟨x,h,hx⟩
   .rw [h]; exact .AL
   .have:=hs.frame.tmp t';rw [hx] at this;rw [h,this.inv_sc]; exact .sc
 .obtain⟨D,e,hB,hD,_⟩:=hs.defers.each d a8;refine⟨D,e,hB,hD,fun id _ he=>?_⟩;obtain⟨c,vs,_,h5,_⟩:=blk D (at_ id D he).2;rw [h5] at hD; cases hD
theorem Jca {P:Program} {N:Cfg} {ops:Array Oper} {rest:AM} {Q:Post} (p:Nat) (l1:Fr) {tt T:Nat} {us:AD} (ht:look l tt=.frz T k (.list 1 us)) (h0:ScF l l1) (h7:∀ u∈us,u.cells=[u])
  (hk:∀ (es:List Raw) (H0:Hp) (O0:Nat->Nat),es.length=us.length->(∀ (j:Nat) e k' ys,es[j]? = some e->us[j]? = some (.list k' ys)->rn e=ys.length)->(∀ (j:Nat) e,es[j]? = some e->∀ b n c,e=some (b,n,c)->∃ cs,hg H0 b=some cs/\n<=c/\c<=maxLen/\cs.length=c*k)->Ow O0 es->(H0.map Prod.fst).Nodup ->
   JL P N ops rest Q ((tt,LS 1 RA es)::l1) (HL p T H0++[])):JLf P N ops rest Q l []:=fun n w0 U0 a w U hm hs=>by
 obtain⟨es,H0,O0,U',h1,h2,h3,h4,h5,h6⟩:=hs.take hm p ht h0 h7;exact hk es H0 O0 h1 h2 h3 h4 h5 n w0 U0 [] a w U' h6
end Go.Proofs.YtbgfgnddogfpcaaGreat
