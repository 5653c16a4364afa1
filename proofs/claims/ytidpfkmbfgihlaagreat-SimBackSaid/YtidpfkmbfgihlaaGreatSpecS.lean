/-
 What the simulator's methods that range over its maps return,whatever the order.
-/
import Derived.Test.YtidpfkmbfgihlaaGreatXS
set_option maxRecDepth 100000
namespace Go.Proofs.YtidpfkmbfgihlaaGreat
open Go.RowKit

def Zz (m:Gb) (is:Slot→Option Bool):Option Bool:=
 bif (Gt.He m.on).all (fun p=>(is p.1).isSome) then some ((Gt.He m.on).any fun p=>(is p.1).getD false) else none
theorem Qee {is:Slot→Option Bool} {r:Bool}:∀ {q:List (Slot×Box)},q.all (fun p=>(is p.1).isSome)=true →
  H24 (fun(x:Slot×Box) (_:Unit) nx=>bnd (is x.1) fun b=>bif b then lft (some (true=r)) else nx ()) (fun _=>some (false=r)) q ()=some ((q.any fun p=>(is p.1).getD false)=r)
 | [],_=>rfl
 | x::q,h=>by
  rw [List.all_cons,Bool.and_eq_true] at h
  obtain⟨b,hb⟩:=Option.isSome_iff_exists.1 h.1
  have ih:=Qee (is:=is) (r:=r) h.2
  rw [H24,hb]
  cases b with
  | true=>simp [bnd,lft,hb]
  | false=>simp only [bnd,cond_false,List.any_cons,hb,Option.getD_some,Bool.false_or]; exact ih
theorem R8b {α:Type} {c:α→Bool} {q l:List α} (hq:q.Perm l):q.any c=l.any c:=by
 rw [Bool.eq_iff_iff,List.any_eq_true,List.any_eq_true]
 exact⟨fun⟨x,h1,h2⟩=>⟨x,hq.mem_iff.1 h1,h2⟩,fun⟨x,h1,h2⟩=>⟨x,hq.mem_iff.2 h1,h2⟩⟩
theorem Y9b {α:Type} {c:α→Bool} {q l:List α} (hq:q.Perm l):q.all c=l.all c:=by
 rw [Bool.eq_iff_iff,List.all_eq_true,List.all_eq_true]
 exact⟨fun h x hx=>h x (hq.mem_iff.2 hx),fun h x hx=>h x (hq.mem_iff.1 hx)⟩
theorem Jaf (m:Gb) (is:Slot→Option Bool) (r:Bool) (h:Zz m is=some r):∃ p:Prop,H1f m is (fun r_=>r_=r)=some p∧p:=by
 unfold Zz at h
 cases hall:(Gt.He m.on).all (fun p=>(is p.1).isSome) with
 | false=>rw [hall] at h; cases h
 | true=>
  rw [hall,cond_true] at h
  refine⟨_,rfl,fun q hq=>?_⟩
  refine⟨_,Qee (by rw [Y9b hq]; exact hall),?_⟩
  rw [R8b hq]
  exact Option.some.inj h
def H42:=PLift.up (Q2e Zz Jaf)

def hgt (b:Box):Int:=bif b.High then 2896 else 2591
theorem R26 (b:Box):0≤hgt b:=by unfold hgt; cases b.High <;> decide
theorem Yf8 (b:Box):R9 b=some (hgt b):=by unfold R9 hgt; cases b.High <;> rfl
def R25 (c half:Int) (y:Slot):Bool:=decide (y.G2=c)&&(decide (y.Half=0)||decide (y.Half=half))
def He7 (c half:Int):List (Slot×Box)→Int
 | []=>0
 | p::r=>(bif R25 c half p.1 then hgt p.2 else 0)+He7 c half r
theorem R7f (c half:Int):∀ l,0≤He7 c half l
 | []=>Int.le_refl _
 | p::r=>by
  have:=R7f c half r
  have:=R26 p.2
  unfold He7
  cases R25 c half p.1 <;> simp <;> omega
theorem Y59 {c half:Int} {a b:List (Slot×Box)} (h:a.Perm b):He7 c half a=He7 c half b:=by
 induction h with
 | nil=>rfl
 | cons x _ ih=>simp only [He7,ih]
 | swap x y l=>simp only [He7]; omega
 | trans _ _ h1 h2=>exact h1.trans h2
def G24 (m:Gb) (x:Slot) (b:Box) (half:Int):Option Int:=
 bif decide ((bif (decide (x.Half=0)||decide (x.Half=half)) then hgt b else 0)+He7 x.G2 half (Gt.He m.on)≤9223372036854775807)
 then some ((bif (decide (x.Half=0)||decide (x.Half=half)) then hgt b else 0)+He7 x.G2 half (Gt.He m.on)) else none
theorem Z10 {β:Type} {z:Int} {k:Int→Option β} (h : -9223372036854775808≤z∧z≤9223372036854775807):chk z k=k z:=by
 unfold chk Qf6
 rw [decide_eq_true h.1,decide_eq_true h.2,Bool.and_self,cond_true]
theorem Jd2 {c half:Int} {kx:Int→Option Prop}:∀ {q:List (Slot×Box)} {n:Int},0≤n→n+He7 c half q≤9223372036854775807 →
  H24 (fun(x:Slot×Box) (s:Int) nx=>bif decide (x.1.G2=c)&&(decide (x.1.Half=0)||decide (x.1.Half=half)) then bnd (R9 x.2) fun r=>chk (s+r) fun v=>nx v else nx s) kx q n=kx (n+He7 c half q)
 | [],n,_,_=>by simp [H24,He7]
 | x::q,n,h0,h=>by
  have hp:=R7f c half q
  have h1:=R26 x.2
  rw [H24]
  unfold He7 at h ⊢
  cases hi:R25 c half x.1 with
  | false=>
   rw [hi,cond_false] at h
   have hi':(decide (x.1.G2=c)&&(decide (x.1.Half=0)||decide (x.1.Half=half)))=false:=hi
   simp only [hi',cond_false]
   rw [Jd2 h0 (by omega),Int.zero_add]
  | true=>
   rw [hi,cond_true] at h
   have hi':(decide (x.1.G2=c)&&(decide (x.1.Half=0)||decide (x.1.Half=half)))=true:=hi
   have hb:(bnd (R9 x.2) fun r=>chk (n+r) fun v=>some (Sum.inl v:Int ⊕ Prop))=some (.inl (n+hgt x.2)):=by
    rw [Yf8]; show chk (n+hgt x.2) (fun v=>some (Sum.inl v:Int ⊕ Prop))=_; rw [Z10 ⟨by omega,by omega⟩]
   simp only [hi',cond_true]
   rw [hb]
   simp only
   rw [Jd2 (c:=c) (half:=half) (q:=q) (by omega) (by omega),Int.add_assoc]
theorem J7d (m:Gb) (x:Slot) (b:Box) (half:Int) (r:Int) (h:G24 m x b half=some r):∃ p:Prop,G9c m x b half (fun r_=>r_=r)=some p∧p:=by
 unfold G24 at h
 have key:∀ n:Int,0≤n→(bif decide (n+He7 x.G2 half (Gt.He m.on)≤9223372036854775807) then some (n+He7 x.G2 half (Gt.He m.on)) else none)=some r →
   ∃ p:Prop,Hfb (fun(x15:Slot×Box) (s15:Int) nx15=>bif decide (x15.1.G2=x.G2)&&(decide (x15.1.Half=0)||decide (x15.1.Half=half)) then bnd (R9 x15.2) fun r20=>chk (s15+r20) fun v21=>nx15 v21 else nx15 s15) (fun s15=>some (s15=r)) (Gt.He m.on) n=some p∧p:=fun n h0 h=>by
  cases hd:decide (n+He7 x.G2 half (Gt.He m.on)≤9223372036854775807) with
  | false=>rw [hd] at h; cases h
  | true=>
   rw [hd,cond_true] at h
   have hd:=of_decide_eq_true hd
   refine⟨_,rfl,fun q hq=>?_⟩
   have e:=Y59 (c:=x.G2) (half:=half) hq
   rw [Jd2 h0 (by rw [e]; exact hd),e]
   exact⟨_,rfl,Option.some.inj h⟩
 unfold G9c jp
 cases hx:(decide (x.Half=0)||decide (x.Half=half)) with
 | false=>rw [hx,cond_false] at h; simp only [cond_false]; exact key 0 (Int.le_refl _) h
 | true=>rw [hx,cond_true] at h; simp only [cond_true]; rw [Yf8]; exact key (hgt b) (R26 b) h
def Hbd:=PLift.up (Je6 G24 J7d)

theorem Qfd:∀ (l:List J5) (i:Nat),each (fun y _ (_:Unit) nx=>bnd (y.val) fun r=>bif (!r) then (some y.bad) else nx ()) (fun _=>some 0) l i ()=H1c (l.map fun x=>(x.val,x.bad))
 | [],_=>rfl
 | y::l,i=>by
  rw [each,List.map_cons,H1c]
  cases y.val with
  | none=>rfl
  | some b=>
   cases b with
   | true=>exact Qfd l (i+1)
   | false=>rfl
def Q93:=PLift.up (fun(l:List J5) (r:Int) (h:H1c (l.map fun x=>(x.val,x.bad))=some r)=>Qaf l r ((Qfd l 0).trans h))
end Go.Proofs.YtidpfkmbfgihlaaGreat
