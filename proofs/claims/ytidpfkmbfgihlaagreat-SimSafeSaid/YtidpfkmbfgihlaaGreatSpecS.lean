/- What the simulator's methods that range over its maps return -/
import Derived.Test.YtidpfkmbfgihlaaGreatXS
set_option maxRecDepth 100000
namespace Go.Proofs.YtidpfkmbfgihlaaGreat
open Go.RowKit

def G05 (m:Gb) (is:Slot→Option Bool):Option Bool:=
 bif (Gu.Hf m.on).all (fun p=>(is p.1).isSome) then some ((Gu.Hf m.on).any fun p=>(is p.1).getD false) else none
theorem Qf9 {is:Slot→Option Bool} {r:Bool}:∀ {q:List (Slot×Box)},q.all (fun p=>(is p.1).isSome)=true →
  H2a (fun(x:Slot×Box) (_:Unit) nx=>bnd (is x.1) fun b=>bif b then lft (some (true=r)) else nx ()) (fun _=>some (false=r)) q ()=some ((q.any fun p=>(is p.1).getD false)=r)
 | [],_=>rfl
 | x::q,h=>by
  rw [List.all_cons,Mh] at h
  obtain⟨b,hb⟩:=Kr h.1
  have ih:=Qf9 (is:=is) (r:=r) h.2
  rw [H2a,hb]
  cases b with
  | true=>simp [bnd,lft,hb]
  | false=>simp only [bnd,cond_false,List.any_cons,hb,Option.getD_some,Bool.false_or]; exact ih
theorem R9a {α:Type} {c:α→Bool} {q l:List α} (hq:q.Perm l):q.any c=l.any c:=by
 rw [Bool.eq_iff_iff,List.any_eq_true,List.any_eq_true]
 exact⟨fun⟨x,h1,h2⟩=>⟨x,hq.mem_iff.1 h1,h2⟩,fun⟨x,h1,h2⟩=>⟨x,hq.mem_iff.2 h1,h2⟩⟩
theorem Yb1 {α:Type} {c:α→Bool} {q l:List α} (hq:q.Perm l):q.all c=l.all c:=by
 rw [Bool.eq_iff_iff,List.all_eq_true,List.all_eq_true]
 exact⟨fun h x hx=>h x (hq.mem_iff.2 hx),fun h x hx=>h x (hq.mem_iff.1 hx)⟩
theorem Jbb (m:Gb) (is:Slot→Option Bool) (r:Bool) (h:G05 m is=some r):∃ p:Prop,H25 m is (fun r_=>r_=r)=some p∧p:=by
 unfold G05 at h
 cases h0:(Gu.Hf m.on).all (fun p=>(is p.1).isSome) with
 | false=>rw [h0] at h; cases h
 | true=>
  rw [h0,cond_true] at h
  refine⟨_,rfl,fun q hq=>?_⟩
  refine⟨_,Qf9 (by rw [Yb1 hq]; exact h0),?_⟩
  rw [R9a hq]
  exact M5 h
def H47:=PLift.up (Q3a G05 Jbb)

def hgt (b:Box):Int:=bif b.High then 2896 else 2591
theorem R34 (b:Box):0≤hgt b:=by unfold hgt; cases b.High <;> decide
theorem Z09 (b:Box):Ra b=some (hgt b):=by unfold Ra hgt; cases b.High <;> rfl
def R33 (c half:Int) (y:Slot):Bool:=decide (y.G2=c)&&(decide (y.Half=0)||decide (y.Half=half))
def Hef (c half:Int):List (Slot×Box)→Int
 | []=>0
 | p::r=>(bif R33 c half p.1 then hgt p.2 else 0)+Hef c half r
theorem R8e (c half:Int):∀ l,0≤Hef c half l
 | []=>Int.le_refl _
 | p::r=>by
  have:=R8e c half r
  have:=R34 p.2
  unfold Hef
  cases R33 c half p.1 <;> simp <;> omega
theorem Y6b {c half:Int} {a b:List (Slot×Box)} (h:a.Perm b):Hef c half a=Hef c half b:=by
 induction h with
 | nil=>rfl
 | cons x _ ih=>simp only [Hef,ih]
 | swap x y l=>simp only [Hef]; omega
 | trans _ _ h1 h2=>exact h1.trans h2
def G2b (m:Gb) (x:Slot) (b:Box) (half:Int):Option Int:=
 bif decide ((bif (decide (x.Half=0)||decide (x.Half=half)) then hgt b else 0)+Hef x.G2 half (Gu.Hf m.on)≤9223372036854775807)
 then some ((bif (decide (x.Half=0)||decide (x.Half=half)) then hgt b else 0)+Hef x.G2 half (Gu.Hf m.on)) else none
theorem Z23 {β:Type} {z:Int} {k:Int→Option β} (h : -9223372036854775808≤z∧z≤9223372036854775807):chk z k=k z:=by
 unfold chk R03
 rw [M1 h.1,M1 h.2,Bool.and_self,cond_true]
theorem Jdd {c half:Int} {kx:Int→Option Prop}:∀ {q:List (Slot×Box)} {n:Int},0≤n→n+Hef c half q≤9223372036854775807 →
  H2a (fun(x:Slot×Box) (s:Int) nx=>bif decide (x.1.G2=c)&&(decide (x.1.Half=0)||decide (x.1.Half=half)) then bnd (Ra x.2) fun r=>chk (s+r) fun v=>nx v else nx s) kx q n=kx (n+Hef c half q)
 | [],n,_,_=>by simp [H2a,Hef]
 | x::q,n,h0,h=>by
  have hp:=R8e c half q
  have h1:=R34 x.2
  rw [H2a]
  unfold Hef at h ⊢
  cases hi:R33 c half x.1 with
  | false=>
   rw [hi,cond_false] at h
   have h2:(decide (x.1.G2=c)&&(decide (x.1.Half=0)||decide (x.1.Half=half)))=false:=hi
   simp only [h2,cond_false]
   rw [Jdd h0 (by omega),Int.zero_add]
  | true=>
   rw [hi,cond_true] at h
   have h2:(decide (x.1.G2=c)&&(decide (x.1.Half=0)||decide (x.1.Half=half)))=true:=hi
   have hb:(bnd (Ra x.2) fun r=>chk (n+r) fun v=>some (Sum.inl v:Int ⊕ Prop))=some (.inl (n+hgt x.2)):=by
    rw [Z09]; show chk (n+hgt x.2) (fun v=>some (Sum.inl v:Int ⊕ Prop))=_; rw [Z23 ⟨by omega,by omega⟩]
   simp only [h2,cond_true]
   rw [hb]
   simp only
   rw [Jdd (c:=c) (half:=half) (q:=q) (by omega) (by omega),Int.add_assoc]
theorem J86 (m:Gb) (x:Slot) (b:Box) (half:Int) (r:Int) (h:G2b m x b half=some r):∃ p:Prop,Ga2 m x b half (fun r_=>r_=r)=some p∧p:=by
 unfold G2b at h
 have key:∀ n:Int,0≤n→(bif decide (n+Hef x.G2 half (Gu.Hf m.on)≤9223372036854775807) then some (n+Hef x.G2 half (Gu.Hf m.on)) else none)=some r →
   ∃ p:Prop,J00 (fun(x15:Slot×Box) (s15:Int) nx15=>bif decide (x15.1.G2=x.G2)&&(decide (x15.1.Half=0)||decide (x15.1.Half=half)) then bnd (Ra x15.2) fun r20=>chk (s15+r20) fun v21=>nx15 v21 else nx15 s15) (fun s15=>some (s15=r)) (Gu.Hf m.on) n=some p∧p:=fun n h0 h=>by
  cases hd:decide (n+Hef x.G2 half (Gu.Hf m.on)≤9223372036854775807) with
  | false=>rw [hd] at h; cases h
  | true=>
   rw [hd,cond_true] at h
   have hd:=Kz hd
   refine⟨_,rfl,fun q hq=>?_⟩
   have e:=Y6b (c:=x.G2) (half:=half) hq
   rw [Jdd h0 (by rw [e]; exact hd),e]
   exact⟨_,rfl,M5 h⟩
 unfold Ga2 jp
 cases hx:(decide (x.Half=0)||decide (x.Half=half)) with
 | false=>rw [hx,cond_false] at h; simp only [cond_false]; exact key 0 (Int.le_refl _) h
 | true=>rw [hx,cond_true] at h; simp only [cond_true]; rw [Z09]; exact key (hgt b) (R34 b) h
def Hc6:=PLift.up (Jf1 G2b J86)

theorem R0a:∀ (l:List J6) (i:Nat),each (fun y _ (_:Unit) nx=>bnd (y.val) fun r=>bif (!r) then (some y.bad) else nx ()) (fun _=>some 0) l i ()=H22 (l.map fun x=>(x.val,x.bad))
 | [],_=>rfl
 | y::l,i=>by
  rw [each,List.map_cons,H22]
  cases y.val with
  | none=>rfl
  | some b=>
   cases b with
   | true=>exact R0a l (i+1)
   | false=>rfl
def Q9f:=PLift.up (fun(l:List J6) (r:Int) (h:H22 (l.map fun x=>(x.val,x.bad))=some r)=>Qbb l r ((R0a l 0).trans h))
end Go.Proofs.YtidpfkmbfgihlaaGreat
