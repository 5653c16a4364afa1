/-
 Functions that are ranged over: their contract,and how it is shown: a walk in which each call of yield hands the memory to the loop's body and takes it back.
-/
import Derived.Test.YtjkmmenifdklmaaGreatRel
set_option linter.unusedVariables false
set_option linter.unusedSimpArgs false
namespace Go.Proofs.YtjkmmenifdklmaaGreat
open Go.RowKit

structure Ha8 (X:Nat→Prop) (W W':World):Prop where
 os:W'.os=W.os
 tape:W'.tape=W.tape
 output:W'.output=W.output∧W.drawn≤W'.drawn
 size:W.heap.size≤W'.heap.size
 keep:∀ b,b < W.heap.size→¬ X b→W'.heap[b]? = W.heap[b]?

structure Hc7 where
 W0:World
 S:Nat→Nat→Prop
 lp:Nat
 J:Nat→(Nat→Prop)→(Nat→Nat→Prop)→World→Prop
 ys:List (List AV)
def Hc7.After (E:Hc7) (k:Nat) (X:Nat→Prop) (T:Nat→Nat→Prop) (W:World) (e:Ending) (W':World):Prop:=
 e=.returned (.bool true)∧∃ X':Nat→Prop,E.J (k+1) X' T W'∧Ha8 X W W'∧(∀ b,b < W.heap.size→(X' b ↔ X b))∧∀ b,X' b→b < W'.heap.size
structure Hc7.Ok (E:Hc7) (P:Program):Prop where
 abide:∀ k X T W W',E.J k X T W→Ha8 (fun b=>E.W0.heap.size≤b∧¬ X b) W W'→(∀ b i,T b i→W'.cell? ⟨b,i,none⟩=W.cell? ⟨b,i,none⟩)→E.J k X T W'
 round:∀ (m k:Nat) us X T (T':Nat→Nat→Prop) W (vs:Array Value),E.ys[k]? = some us→E.J k X T W→(∀ b i,T b i→T' b i)→(∀ b i,T' b i→¬ T b i→E.W0.heap.size≤b∧¬ X b∧b < W.heap.size)→vs.size=us.length →
  (∀ (j:Nat) u v,us[j]? = some u→vs[j]? = some v→D W (fun b i=>E.S b i∨T' b i) u v)→YieldAt Fence.wide m P E.lp vs W (E.After k X T' W)

structure StI (E:Hc7) (N:G33) (a:Act) (w:World) (β:H6) (l:Fr) (L:Loc) (k:Nat):Prop where
 sat:Sat w β L
 frame:Jx a w β L l
 size:N.n≤a.tmps.size
 defers:a.defers=[]
 old:E.W0.heap.size≤w.heap.size
 own:∀ id b,(lk L id).isSome=true→β id=some b→E.W0.heap.size≤b
 gh:∃ X T,E.J k X T w∧(∀ b,X b→b < w.heap.size∧∀ i,β.hid b i)∧∀ b i,T b i→Jw w β L b i
 vis:∀ b i,b < E.W0.heap.size→¬ β.hid b i→E.S b i

structure H0d where
 norm:Fr→Loc→Nat→Prop
 ret:Fr→Loc→Nat→Prop
 exit:Nat→Fr→Loc→Nat→Prop
def H0d.seq (Q:H0d) (K:Fr→Loc→Nat→Prop):H0d:=⟨K,Q.ret,Q.exit⟩
def H0d.blk (Q:H0d) (i:Nat):H0d:=⟨Q.norm,Q.ret,fun j l L k=>bif Nat.beq j i then Q.norm l L k else Q.exit j l L k⟩
def H0d.out (Q:H0d) (E:Hc7) (N:G33):Exit→Act→World→Prop
 | .normal,a,w=>∃ β l L k,StI E N a w β l L k∧Q.norm l L k
 | .ret,a,w=>∃ β l L k,StI E N a w β l L k∧Q.ret l L k
 | .exit i,a,w=>∃ β l L k,StI E N a w β l L k∧Q.exit i l L k
 | _,_,_=>False
theorem StI.step {E:Hc7} {P:Program} {N:G33} {a a':Act} {w w':World} {β β':H6} {l l':Fr} {L L':Loc} {k:Nat} (hE:E.Ok P) (h:StI E N a w β l L k) (hst:Step w β L w' β' L') (hsat:Sat w' β' L') (hf:Jx a' w' β' L' l') (hsz:a'.tmps.size=a.tmps.size) (hd:a'.defers=a.defers):StI E N a' w' β' l' L' k:=by
 have old':=h.old
 refine⟨hsat,hf,by rw [hsz]; exact h.size,by rw [hd]; exact h.defers,Nat.le_trans h.old hst.size,fun id b h1 h2=>?_,?_,fun b i hb hn=>h.vis b i hb fun hh=>hn ((hst.hid b i (Nat.lt_of_lt_of_le hb h.old)).2 hh)⟩
 ·rcases Nat.lt_or_ge b w.heap.size with hb | hb
  ·refine Classical.byContradiction fun hn=>?_
   have:∀ id0,(lk L id0).isSome=true→β id0≠some b:=fun id0 h3 h4=>hn (h.own id0 b h3 h4)
   exact(hst.far b hb this).2 id h1 h2
  ·omega
 ·obtain⟨X,T,hJ,hX,hT⟩:=h.gh
  refine⟨X,T,hE.abide k X T w w' hJ ⟨hst.os,hst.tape,hst.output,hst.size,fun b hb hn=>(hst.far b hb fun id h1 h2=>?_).1⟩ (fun b i h=>(hst.stab b i (hT b i h)).2),fun b hb=>⟨Nat.lt_of_lt_of_le (hX b hb).1 hst.size,fun i=>(hst.hid b i (hX b hb).1).2 ((hX b hb).2 i)⟩,fun b i h=>(hst.stab b i (hT b i h)).1⟩
  exact hn ⟨h.own id b h1 h2,fun hx=>h.sat.apart id b 0 h1 h2 ((hX b hx).2 0)⟩

theorem Sat.fits {B:List Nat} {w:World} {β:H6} {l l':Fr} {L L':Loc} (hs:Sat w β L) (h:Fits B l L l' L'):Sat w β L':=by
 have hd:=h.drop
 refine⟨hs.hid,fun id b hid hb=>hs.bnd id b (hd.some hid) hb,fun id b j hid hb=>hs.apart id b j (hd.some hid) hb,fun id id' b h1 h2=>hs.inj id id' b (hd.some h1) (hd.some h2),fun id o' ho'=>?_⟩
 obtain⟨o,ho,hc⟩:=h.loc.get ho'
 have h0:=hs.obj id o ho
 cases hc with
 | same=>exact h0
 | map=>
  obtain⟨b,h1,ents,h2,h3,h4⟩:=h0
  exact⟨b,h1,ents,h2,h3,fun i e k u he hu=>⟨(h4 i e k u he hu).1,(h4 i e k u he hu).2.1.mono fun b i hs=>⟨hd.stab hs,rfl⟩,(h4 i e k u he hu).2.2⟩⟩
 | vec=>
  obtain⟨h00,h0⟩:=h0
  refine⟨h00,?_⟩
  rcases h0 with h0 | ⟨b,h1,vs,h2,h3,h4⟩
  ·exact .inl h0
  ·exact .inr ⟨b,h1,vs,h2,h3,fun j u v hu hv=>(h4 j u v hu hv).mono fun b i hs=>⟨hd.stab hs,rfl⟩⟩
 | iter hm=>
  obtain⟨b,h1,bm,t,es,h2,h3,h4⟩:=h0
  obtain⟨o',ho'⟩:=Option.isSome_iff_exists.1 hm
  obtain⟨o2,ho2,hl⟩:=hd.like _ o' ho'
  rw [h2] at ho2; cases ho2
  cases o' <;> simp [Jd.like] at hl
  subst hl
  exact⟨b,h1,bm,_,_,ho',h3,h4⟩
 | box hl hc=>
  obtain⟨b,h1,vs,h2,h3,h4⟩:=h0
  refine⟨b,h1,vs,h2,h3.trans hl,fun j u' v hu' hv=>?_⟩
  rename_i cs cs'
  have hj:j < cs.length:=by
   rcases Nat.lt_or_ge j cs'.length with h | h
   ·omega
   ·simp [List.getElem?_eq_none h] at hu'
  exact(h4 j cs[j] v (by simp [hj]) hv).conv hd (hc j _ _ (by simp [hj]) hu')
theorem StI.fits {E:Hc7} {N:G33} {a:Act} {w:World} {β:H6} {l l':Fr} {L L':Loc} {k:Nat} (h:StI E N a w β l L k) (hfit:Fits N.base l L l' L'):StI E N a w β l' L' k:=
 ⟨h.sat.fits hfit,⟨fun t=>(h.frame.tmp t).conv hfit.drop (hfit.fr.get t)⟩,h.size,h.defers,h.old,fun id b h1 h2=>h.own id b (hfit.drop.some h1) h2,(by obtain⟨X,T,h1,h2,h3⟩:=h.gh; exact⟨X,T,h1,h2,fun b i h=>hfit.drop.stab (h3 b i h)⟩),h.vis⟩

section code
variable {E:Hc7} {P:Program} {N:G33} {Q:H0d} {l:Fr} {L:Loc} {k:Nat}

end code

section ops
variable {E:Hc7} {P:Program} {N:G33} {Q:H0d} {l:Fr} {L L':Loc} {k:Nat} {ops:Array Oper} {o:Oper} {rest:List Oper} {u:AV}

theorem StI.round {L:Loc} {w w':World} {β:H6} {X X':Nat→Prop} {T:Nat→Nat→Prop} (hsat:Sat w β L) (hX:∀ b,X b→b < w.heap.size∧∀ i,¬ T b i→β.hid b i) (notX:∀ id b,(lk L id).isSome=true→β id=some b→¬ X b) (ht:Ha8 X w w')
  (hT:∀ b i,T b i→X b→w'.cell? ⟨b,i,none⟩=w.cell? ⟨b,i,none⟩) (hX':∀ b,b < w.heap.size→(X' b ↔ X b)) (hlt:∀ b,X' b→b < w'.heap.size) :
  let β':H6:=⟨β.at_,fun b i=>β.hid b i∨(w.heap.size≤b∧b < w'.heap.size)⟩
  Sat w' β' L∧H4f w β L w' β' L∧∀ b,X' b→b < w'.heap.size∧∀ i,¬ T b i→β'.hid b i:=by
 intro β'
 have same:∀ id b,(lk L id).isSome=true→β id=some b→w'.heap[b]? = w.heap[b]? := fun id b h1 h2=>ht.keep b (hsat.bnd id b h1 h2) (notX id b h1 h2)
 have stab:∀ b i,Jw w β L b i→Jw w' β' L b i:=fun b i hs=>⟨Nat.lt_of_lt_of_le hs.lt ht.size,fun h=>h.elim hs.seen (fun h=>by have:=hs.lt; omega),hs.kept⟩
 have cell:∀ b i,Jw w β L b i→w'.cell? ⟨b,i,none⟩=w.cell? ⟨b,i,none⟩:=fun b i hs=>by
  by_cases hx:X b
  ·by_cases h:T b i
   ·exact hT b i h hx
   ·exact(hs.seen ((hX b hx).2 i h)).elim
  ·exact World.cell?_of_block (w:=w) (ht.keep b hs.lt hx)
 have stw:H4f w β L w' β' L:=⟨fun b i hs=>⟨stab b i hs,cell b i hs⟩,fun _ _ cs h=>⟨rfl,cs,h⟩,fun _ _ es h=>⟨rfl,es,h⟩,fun _ _ n es h=>⟨rfl,n,es,h⟩,
  fun id _ _ ver xs h=>⟨ver,xs,h,Nat.le_refl _,fun _=>⟨rfl,rfl,fun b hb=>G25 (same id b (by rw [h]; rfl) hb)⟩⟩,
  fun id _ _ ver hw h=>⟨ver,hw,h,Nat.le_refl _,fun _=>⟨rfl,rfl,fun b hb=>same id b (by rw [h]; rfl) hb⟩⟩⟩
 refine⟨⟨fun b i h=>h.elim (fun h=>Nat.lt_of_lt_of_le (hsat.hid b i h) ht.size) (fun h=>h.2),fun id b h1 h2=>Nat.lt_of_lt_of_le (hsat.bnd id b h1 h2) ht.size,fun id b j h1 h2 h=>h.elim (hsat.apart id b j h1 h2) (fun h=>by have:=hsat.bnd id b h1 h2; omega),hsat.inj,
  fun id o ho=>(hsat.obj id o ho).stepW stw (fun b hb=>same id b (by rw [ho]; rfl) hb)⟩,stw,fun b hb=>⟨hlt b hb,fun i hn=>?_⟩⟩
 rcases Nat.lt_or_ge b w.heap.size with h | h
 ·exact .inl ((hX b ((hX' b h).1 hb)).2 i hn)
 ·exact .inr ⟨h,hlt b hb⟩

def J63 (l:Fr):List Operand→List AV→Prop
 | [],[]=>True
 | x::r,u::s=>ev l x=u∧u.isData=true∧J63 l r s
 | _,_=>False
theorem J63.length {l:Fr}:∀ {xs:List Operand} {us:List AV},J63 l xs us→xs.length=us.length
 | [],[],_=>rfl
 | _::_,_::_,h=>by simp [J63.length h.2.2]
 | [],_::_,h=>h.elim
 | _::_,[],h=>h.elim
theorem J63.get {l:Fr}:∀ {xs:List Operand} {us:List AV},J63 l xs us→∀ {j:Nat} {x:Operand} {u:AV},xs[j]? = some x→us[j]? = some u→ev l x=u∧u.isData=true
 | _::_,_::_,h,0,x,u,hx,hu=>by simp at hx hu; subst hx; subst hu; exact⟨h.1,h.2.1⟩
 | _::_,_::_,h,j+1,x,u,hx,hu=>J63.get h.2.2 (by simpa using hx) (by simpa using hu)
 | [],[],_,j,x,u,hx,_=>by simp at hx
 | [],_::_,h,_,_,_,_,_=>h.elim
 | _::_,[],h,_,_,_,_,_=>h.elim

end ops

section code
variable {E:Hc7} {P:Program} {N:G33} {Q:H0d} {l:Fr} {L:Loc} {k:Nat}
end code
end Go.Proofs.YtjkmmenifdklmaaGreat
