/-
 What the moves that can be done are,and the yards behind the slices.Grow of no slice: slices.Grow of no slice.
-/
import Derived.Test.YtokjlondbjdlfaaGreatXB
import Derived.Test.YtokjlondbjdlfaaGreatPsm
import Derived.Lib.AppendZeros
set_option maxRecDepth 100000
namespace Go.Proofs.YtokjlondbjdlfaaGreat
open Go.RowKit

def Ga6 {α:Type} (r l:List α) (m:Option Unit) (g:Option (List α)):Prop:=g=some r→l <+: r∧m=some ()

theorem Gd6 {α β:Type} {r l:List α} {o:Option β} {m:β→Option Unit} {g:β→Option (List α)} (h:∀ v,Ga6 r l (m v) (g v)):Ga6 r l (bnd o m) (bnd o g):=by
 cases o with
 | none=>intro e; cases e
 | some v=>exact h v
theorem Jdb {α:Type} {r l:List α} {b:Bool} {m:Option Unit} {g:Option (List α)} (h:Ga6 r l m g):Ga6 r l (need b m) (need b g):=by
 cases b with
 | false=>intro e; cases e
 | true=>exact h
theorem Jda {α:Type} {r:List α} {b:Nat→Nat→(Nat→Option Unit)→Option Unit} {b':Nat→List α→(List α→Option (List α))→Option (List α)} {k:Nat→Option Unit} {k':List α→Option (List α)}
  (hb:∀ i l nx nx',(∀ l',Ga6 r l' (nx l'.length) (nx' l'))→Ga6 r l (b i l.length nx) (b' i l nx')) (hk:∀ l,Ga6 r l (k l.length) (k' l)) (n:Nat):∀ (i:Nat) (l:List α),Ga6 r l (upto b k n i l.length) (upto b' k' n i l):=by
 induction n with
 | zero=>intro i l; exact hk l
 | succ n ih=>intro i l; exact hb i l _ _ (fun l'=>ih (i+1) l')
theorem Qa5 {α:Type} [DecidableEq α] {r l:List α} {x:α} {m:Option Unit} {g:Option (List α)} (h:Ga6 r (l++[x]) m g):Ga6 r l (need (decide (r[l.length]? = some x)) m) g:=by
 intro e
 obtain⟨hp,hm⟩:=h e
 refine⟨(List.prefix_append l [x]).trans hp,?_⟩
 obtain⟨t,rfl⟩:=hp
 have:((l++[x])++t)[l.length]? = some x:=by simp
 unfold need; rw [Ev this]; exact hm
theorem R33 {α:Type} {r l:List α}:Ga6 r l (need (decide (l.length=r.length)) (some ())) (some l):=by
 intro e; cases e
 refine⟨List.prefix_refl _,?_⟩
 unfold need; rw [Ev rfl]; rfl
theorem R32 {α:Type} {r:List α} {m:Option Unit} {g:Option (List α)} (h:Ga6 r [] m g) (e:g=some r):m=some ():=(h e).2

theorem R84 {α:Type} {r l:List α} {f:(Nat→Option Unit)→Option Unit} {f':(List α→Option (List α))→Option (List α)} {k:Nat→Option Unit} {k':List α→Option (List α)}
  (hf:∀ kj kj',(∀ l',Ga6 r l' (kj l'.length) (kj' l'))→Ga6 r l (f kj) (f' kj')) (hk:∀ l',Ga6 r l' (k l'.length) (k' l')):Ga6 r l (jp f k) (jp f' k'):=hf _ _ hk
theorem Q73 {α:Type} {r l:List α} {b:Bool} {m m2:Option Unit} {g g2:Option (List α)} (h:Ga6 r l m g) (h2:Ga6 r l m2 g2):Ga6 r l (bif b then m else m2) (bif b then g else g2):=by
 cases b with
 | true=>exact h
 | false=>exact h2
theorem Q72 {α:Type} {r l:List α} {z:Int} {m:Int→Option Unit} {g:Int→Option (List α)} (h:∀ v,Ga6 r l (m v) (g v)):Ga6 r l (chk z m) (chk z g):=by
 unfold chk
 exact Q73 (h z) (fun e=>by cases e)
def Y2 (F:Nat) (p1:Int) (p2:Gp) (p3:Int):Option (List (G2×Gp)):=
 need (decide (p1≤9223372036854775807)) <|
 upto (fun i2 (s2:List (G2×Gp)) nx2=>
  need (decide (p1≤9223372036854775807)) <|
  upto (fun i50 (s50:List (G2×Gp)) nx50=>
   jp (fun kj53=>
    bnd (Qa F p2 (i2:Int)) fun r56=>
    bnd (Qa F p2 (i50:Int)) fun r57=>
    bif (((decide ((i2:Int)=(i50:Int)))||(decide (r56=0)))||(decide (r57=p3))) then
    (kj53 s50)
    else
    (chk (r56 - 1) fun v62=>
     chk (r56 - 1) fun v63=>
     bnd (Rm (i2:Int) 3) fun m64=>
     bnd (Rm v63 5) fun m65=>
     bnd (Rm (i50:Int) 3) fun m66=>
     bnd (Rm r57 5) fun m67=>
     bnd (Rm (i2:Int) 3) fun m68=>
     bnd (Rm v62 5) fun m69=>
     kj53 (s50++[((G2.mk (i2:Int) (i50:Int)),((p2.set (m66*6+m67*1) (p2.g (m64*6+m65*1))).set (m68*6+m69*1) 0))]))) fun(j53:List (G2×Gp))=>
   nx50 j53)
  (fun(s50:List (G2×Gp))=>
   nx2 s50) p1.toNat 0 s2)
 (fun(s2:List (G2×Gp))=>some s2) p1.toNat 0 []
def Gcc:=PLift.up (Gd0 Y2 (fun F p1 p2 p3 r h=>R32 (by
 unfold Z0
 refine Jdb (Jda (fun i2 s2 nx nx' h0=>?_) (fun s=>R33) _ 0 [])
 refine Jdb (Jda (fun i50 s50 nx nx' h0=>?_) (fun s=>h0 _) _ _ _)
 refine R84 (fun kj kj' h1=>?_) (fun l'=>h0 _)
 refine Gd6 fun r56=>Gd6 fun r57=>Q73 (h1 _) (Q72 fun v62=>Q72 fun v63=>Gd6 fun m64=>Gd6 fun m65=>Gd6 fun m66=>Gd6 fun m67=>Gd6 fun m68=>Gd6 fun m69=>Qa5 ?_)
 have:=h1 (s50++[((G2.mk (i2:Int) (i50:Int)),((p2.set (m66*6+m67*1) (p2.g (m64*6+m65*1))).set (m68*6+m69*1) 0))])
 rw [Ki] at this
 exact this) h))

section ops
variable {P:Program} {o:Oper} {l:Fr} {L:Loc}
theorem Jf4 {x:Operand} {T E k:Nat} (ho:o.op=.call { callee:=.builtin .cap,args:=#[x],argTypes:=#[T] }) (hT:sliceB P T E k=true) (hx:ev l x=.sc (.slice none 0 0)):Gn P o l L (Is (I64 0) L):=
 H2 fun a w β h0 hf=>by
  have hv:=hf.ev x
  rw [hx] at hv
  exact⟨.int .i64 0,by simp [execOp,ho,resolve,invoke,builtin,Builtin.cap_,underlying,(sliceB.out hT).1,hv.inv_sc,goInt],.sc⟩
theorem Jf2 {x:Operand} {T E k:Nat} (ho:o.op=.call { callee:=.builtin .len,args:=#[x],argTypes:=#[T] }) (hT:sliceB P T E k=true) (hx:ev l x=.sc (.slice none 0 0)):Gn P o l L (Is (I64 0) L):=
 H2 fun a w β h0 hf=>by
  have hv:=hf.ev x
  rw [hx] at hv
  exact⟨.int .i64 0,by simp [execOp,ho,resolve,invoke,builtin,Builtin.len_,underlying,(sliceB.out hT).1,hv.inv_sc,goInt],.sc⟩
theorem Q4f {x p:Operand} {T E k:Nat} (ho:o.op=.slice T x none (some p) none) (hT:sliceB P T E k=true) (hx:ev l x=.sc (.slice none 0 0)) (hp:ev l p=I64 0):Gn P o l L (Is (.sc (.slice none 0 0)) L):=
 H2 fun a w β h0 hf=>by
  have hv:=hf.ev x
  rw [hx] at hv
  have v1:=hf.ev p; rw [hp] at v1
  refine⟨.slice none 0 0,?_,.sc⟩
  simp only [execOp,ho,hv.inv_sc,Sem.run_bind,Option.map_none,Option.map_some,v1.inv_sc]
  rw [show (Value.int .i64 0)=.int .i64 ((0:Nat):Int) from rfl,G88 hT none 0 0 0 0 _ _ w (Kb) (Kb) (.inl ⟨rfl,rfl⟩) (.inr ⟨.i64,rfl⟩)]
  rfl
theorem Qba (j:Nat) {s q:Operand} {T Tn E k by_ n:Nat} {kq kn:IntKind} {zi:Int} (ho:o.op=.call { callee:=.builtin .append,args:=#[s,q],argTypes:=#[T,Tn] }) (hs:ev l s=.sc (.slice none 0 0)) (hq:ev l q=.sc (.int kq zi)) (a4:zi=(n:Int))
  (hT:sliceB P T E k=true) (a5:P.underlying Tn=some (.int kn)) (hE:Qk P E k by_=true) (a0:Nat.blt 0 k=true) (hb:n*by_≤140737488355328) (h0:n≤maxLen) (hn:0 < n) (hj:lk L j=none) :
  Gn P o l L (Is (.vec j 0 k n) ((j,.vec E k 0 (List.replicate n (.agg (List.replicate k .junk))))::L)):=by
 subst a4
 intro a w β K Q a1 hf hK
 have a6:0 < k:=by simpa [Nat.blt_eq] using a0
 have hv:=hf.ev s
 rw [hs] at hv
 have h4:=hf.ev q
 rw [hq] at h4
 obtain⟨inf,z,e1,e2,e3,e4,e5,e6⟩:=Qk.out hE
 have hr:=Lib.run_append_nil_zeros (P:=P) w T Tn o.type E inf z kq kn (sliceB.out hT).1 a5 e1 e4 n hn (by omega) (by have:=h0; simp [maxLen] at this; omega) (by rw [e3]; omega)
 have h1:=grownCap_ge w n 0 E
 have h5:=grownCap_le_maxLen w n 0 E h0
 generalize a7:grownCap w n 0 E=gc at hr h1 h5
 generalize a2:Builtin.zeroCells z.cells n++Builtin.zeroCells z.cells (gc - n)=row at hr
 have h6:∀ q,(Builtin.zeroCells z.cells q).size=q*k:=fun q=>by simp [Builtin.zeroCells,e5]
 have h7:row.size=gc*k:=by
  rw [← a2,Array.size_append,h6,h6,← Nat.add_mul]
  congr 1; omega
 have a3:(execOp a.eval o).run P w=.ok (.value (.slice (some ⟨w.heap.size,0,none⟩) n gc)) (w.drew.alloc (.cells row E)):=by
  simp [execOp,ho,resolve,invoke,builtin,hv.inv_sc,h4.inv_sc,hr]
 unfold Oper.wp
 rw [a3]
 have h3:∀ b',b' < w.heap.size→(w.drew.alloc (.cells row E)).heap[b']? = w.heap[b']? := fun b' h8=>by
  show (w.heap.push (.cells row E))[b']? = _
  rw [Array.getElem?_push,if_neg (by omega)]
 have h2:(w.drew.alloc (.cells row E)).heap[w.heap.size]? = some (.cells row E (0,0)):=by
  show (w.heap.push (.cells row E))[w.heap.size]? = _
  simp
 have h9:(w.drew.alloc (.cells row E)).heap.size=w.heap.size+1:=by
  show (w.heap.push (.cells row E)).size=_
  simp
 obtain⟨st,sat⟩:=Q4 (w':=w.drew.alloc (.cells row E)) (t:=E) (k:=k) (ver1:=0) (xs':=List.replicate n (.agg (List.replicate k .junk))) (ob':=some w.heap.size) a1 (.inl hj) rfl rfl ⟨rfl,Nat.le_succ _⟩ (by rw [h9]; omega) (fun b' h8 _=>h3 b' h8) (.inr (.inr ⟨_,rfl,Kb,by rw [h9]; omega⟩))
 refine hK _ _ _ _ _ ⟨rfl,rfl⟩ (sat ⟨fun y hy=>by rw [List.eq_of_mem_replicate hy]; simp [AV.cells],.inr ⟨_,rfl,row,h2,by rw [List.length_replicate,h7]; exact Nat.mul_le_mul_right _ h1,fun j u v hu hv=>?_⟩⟩) st (.vec ⟨E,0,_,by rw [G9,if_pos rfl],Kb,fun _=>⟨by rw [List.length_replicate],.inr ⟨w.heap.size,gc,rfl,by simp [upP],h1,h5,by unfold World.shape?; rw [h2]; simp only [h7]⟩⟩⟩ rfl)
 have:=J2a (k:=k) [] n (j:=j) (u:=u) (Nat.zero_le _) hu
 subst this
 exact .junk
end ops
set_option linter.unusedVariables false

/-! ### Int -/
theorem H8c:sliceB Tryz.prog 22 3 1=true:=by kernel_rfl
theorem R7d:Qk Tryz.prog 3 1 8=true:=by kernel_rfl
theorem R7c:Tryz.prog.underlying 3=some (.int .i64):=by kernel_rfl
def G33 (n:Int):Option (List Int):=need (decide (0≤n∧n*8≤140737488355328∧n≤(maxLen:Int))) <| some []
theorem H66 (n:Int) (r:List Int) (h:G33 n=some r):Jz Tryz.prog 67 [.sc (.slice none 0 0),I64 n] [] (fun av L'=>∃ p:Nat,av=.vec 1098 p 1 r.length∧L'=[(1098,.vec 3 1 p (r.map I64))]):=by
 unfold G33 at h
 obtain⟨hn,h⟩:=Ho h
 have hn:=Es hn
 obtain rfl:=Ez h
 obtain⟨m,rfl⟩:∃ m:Nat,n=(m:Int):=⟨n.toNat,by omega⟩
 refine G0c [] [.tmp 4] Tryz.func67 rfl rfl (H6f rfl) ?_
 refine Jr fun h1=>?_
 refine JLm (.sc (.slice none 0 0)) rfl ?_
 refine G6 (h1 ?_)
 refine Js fun h2=>?_
 refine Jr fun h3=>?_
 refine JLm (I64 (m:Int)) rfl ?_
 refine G0 (u:=BL (decide ((m:Int) < 0))) (J2 rfl rfl rfl) ?_
 refine G6 (h3 ?_)
 refine Gi rfl (fun hb=>?_) (fun hb=>?_)
 ·exact absurd (Es hb) (by omega)
 refine Gk (h2 ?_)
 refine Js fun h4=>?_
 refine Jr fun h5=>?_
 refine JLm (I64 (m:Int)) rfl ?_
 refine JLm (.sc (.slice none 0 0)) rfl ?_
 refine G0 (u:=I64 0) (Jf4 rfl H8c rfl) ?_
 refine JLm (.sc (.slice none 0 0)) rfl ?_
 refine G0 (u:=I64 0) (Jf2 rfl H8c rfl) ?_
 refine G0 (u:=I64 0) (G07 (show IntKind.i64.wrap ((0:Int) - 0)=0 by decide) rfl rfl rfl) ?_
 refine G0 (u:=I64 (m:Int)) (G07 (show IntKind.i64.wrap ((m:Int) - 0)=(m:Int) by rw [IntKind.wrap_i64]; simp only [maxLen] at hn; omega) rfl rfl rfl) ?_
 refine JLm (I64 (m:Int)) rfl ?_
 refine G6 (h5 ?_)
 refine Jr fun h6=>?_
 refine JLm (I64 (m:Int)) rfl ?_
 refine G0 (u:=BL (decide (0 < (m:Int)))) (G08 rfl rfl rfl) ?_
 refine G6 (h6 ?_)
 refine Gi rfl (fun hb=>?_) (fun hb=>?_)
 ·have hb:=Es hb
  refine G1 ?_
  refine JLm (.sc (.slice none 0 0)) rfl ?_
  refine JLm (.sc (.slice none 0 0)) rfl ?_
  refine G0 (u:=I64 0) (Jf4 rfl H8c rfl) ?_
  refine G0 (u:=.sc (.slice none 0 0)) (Q4f rfl H8c rfl rfl) ?_
  refine JLm (I64 (m:Int)) rfl ?_
  refine G0 (u:=.vec 1098 0 1 m) (Qba 1098 rfl rfl rfl rfl H8c R7c R7d rfl (by omega) (by omega) (by omega) rfl) ?_
  refine JLm (.sc (.slice none 0 0)) rfl ?_
  refine G0 (u:=I64 0) (Jf2 rfl H8c rfl) ?_
  refine G0 (u:=.vec 1098 (0+1) 1 0) (Q82 (hi:=0) rfl H8c rfl rfl rfl rfl (Nat.zero_le _)) ?_
  refine JLm (.vec 1098 (0+1) 1 0) rfl ?_
  refine G6 (h4 ?_)
  refine Jr fun h7=>?_
  refine JLm (.vec 1098 (0+1) 1 0) rfl ?_
  refine JLm (.vec 1098 (0+1) 1 0) rfl ?_
  refine G6 (h7 ?_)
  refine H0 ?_
  exact⟨[.vec 1098 (0+1) 1 0],[(1098,.vec 3 1 (0+1) [])],⟨⟨_,rfl,.vec⟩,trivial⟩,rfl,⟨⟨_,rfl,.conv (.same rfl)⟩,trivial⟩,0+1,rfl,rfl⟩
 ·refine Gk (h4 ?_)
  refine Jr fun h7=>?_
  refine JLm (.sc (.slice none 0 0)) rfl ?_
  refine G0 (u:=.vec 1098 0 1 0) (H48 1098 3 1 rfl rfl rfl) ?_
  refine G6 (h7 ?_)
  refine H0 ?_
  exact⟨[.vec 1098 0 1 0],[(1098,.vec 3 1 0 [])],⟨⟨_,rfl,.vec⟩,trivial⟩,rfl,⟨⟨_,rfl,.conv (.same rfl)⟩,trivial⟩,0,rfl,rfl⟩
def H67:=PLift.up H66
end Go.Proofs.YtokjlondbjdlfaaGreat
