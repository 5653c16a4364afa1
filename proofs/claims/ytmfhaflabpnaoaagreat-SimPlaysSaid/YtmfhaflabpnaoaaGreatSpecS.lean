/- What the simulator's methods that range over its maps return -/
import Derived.Test.YtmfhaflabpnaoaaGreatXS
set_option maxRecDepth 100000
namespace Go.Proofs.YtmfhaflabpnaoaaGreat
open Go.RowKit

def Zy (m:Gh) (is:Slot→Option Bool):Option Bool:=
 bif (Gv.Hc m.on).all (fun p=>(is p.1).isSome) then some ((Gv.Hc m.on).any fun p=>(is p.1).getD false) else none
theorem Q81 {is:Slot→Option Bool} {r:Bool}:∀ {q:List (Slot×Box)},q.all (fun p=>(is p.1).isSome)=true →
  H00 (fun(x:Slot×Box) (_:Unit) nx=>bnd (is x.1) fun b=>bif b then lft (some (true=r)) else nx ()) (fun _=>some (false=r)) q ()=some ((q.any fun p=>(is p.1).getD false)=r)
 | [],_=>rfl
 | x::q,h=>by
  rw [List.all_cons,Me] at h
  obtain⟨b,hb⟩:=Ko h.1
  have ih:=Q81 (is:=is) (r:=r) h.2
  rw [H00,hb]
  cases b with
  | true=>simp [bnd,lft,hb]
  | false=>simp only [bnd,cond_false,List.any_cons,hb,Option.getD_some,Bool.false_or]; exact ih
theorem R1c {α:Type} {c:α→Bool} {q l:List α} (hq:q.Perm l):q.any c=l.any c:=by
 rw [Bool.eq_iff_iff,List.any_eq_true,List.any_eq_true]
 exact⟨fun⟨x,h1,h2⟩=>⟨x,hq.mem_iff.1 h1,h2⟩,fun⟨x,h1,h2⟩=>⟨x,hq.mem_iff.2 h1,h2⟩⟩
theorem Y2d {α:Type} {c:α→Bool} {q l:List α} (hq:q.Perm l):q.all c=l.all c:=by
 rw [Bool.eq_iff_iff,List.all_eq_true,List.all_eq_true]
 exact⟨fun h x hx=>h x (hq.mem_iff.2 hx),fun h x hx=>h x (hq.mem_iff.1 hx)⟩
theorem J58 (m:Gh) (is:Slot→Option Bool) (r:Bool) (h:Zy m is=some r):∃ p:Prop,Gfb m is (fun r_=>r_=r)=some p∧p:=by
 unfold Zy at h
 cases h0:(Gv.Hc m.on).all (fun p=>(is p.1).isSome) with
 | false=>rw [h0] at h; cases h
 | true=>
  rw [h0,cond_true] at h
  refine⟨_,rfl,fun q hq=>?_⟩
  refine⟨_,Q81 (by rw [Y2d hq]; exact h0),?_⟩
  rw [R1c hq]
  exact M2 h
def H14:=PLift.up (Jc4 Zy J58)

def hgt (b:Box):Int:=bif b.High then 2896 else 2591
theorem Qb9 (b:Box):0≤hgt b:=by unfold hgt; cases b.High <;> decide
theorem Y84 (b:Box):R9 b=some (hgt b):=by unfold R9 hgt; cases b.High <;> rfl
def Qb8 (c half:Int) (y:Slot):Bool:=decide (y.G1=c)&&(decide (y.Half=0)||decide (y.Half=half))
def Hab (c half:Int):List (Slot×Box)→Int
 | []=>0
 | p::r=>(bif Qb8 c half p.1 then hgt p.2 else 0)+Hab c half r
theorem R12 (c half:Int):∀ l,0≤Hab c half l
 | []=>Int.le_refl _
 | p::r=>by
  have:=R12 c half r
  have:=Qb9 p.2
  unfold Hab
  cases Qb8 c half p.1 <;> simp <;> omega
theorem Re7 {c half:Int} {a b:List (Slot×Box)} (h:a.Perm b):Hab c half a=Hab c half b:=by
 induction h with
 | nil=>rfl
 | cons x _ ih=>simp only [Hab,ih]
 | swap x y l=>simp only [Hab]; omega
 | trans _ _ h1 h2=>exact h1.trans h2
def G26 (m:Gh) (x:Slot) (b:Box) (half:Int):Option Int:=
 bif decide ((bif (decide (x.Half=0)||decide (x.Half=half)) then hgt b else 0)+Hab x.G1 half (Gv.Hc m.on)≤9223372036854775807)
 then some ((bif (decide (x.Half=0)||decide (x.Half=half)) then hgt b else 0)+Hab x.G1 half (Gv.Hc m.on)) else none
theorem Ya4 {β:Type} {z:Int} {k:Int→Option β} (h : -9223372036854775808≤z∧z≤9223372036854775807):chk z k=k z:=by
 unfold chk Q8a
 rw [Ky h.1,Ky h.2,Bool.and_self,cond_true]
theorem J6e {c half:Int} {kx:Int→Option Prop}:∀ {q:List (Slot×Box)} {n:Int},0≤n→n+Hab c half q≤9223372036854775807 →
  H00 (fun(x:Slot×Box) (s:Int) nx=>bif decide (x.1.G1=c)&&(decide (x.1.Half=0)||decide (x.1.Half=half)) then bnd (R9 x.2) fun r=>chk (s+r) fun v=>nx v else nx s) kx q n=kx (n+Hab c half q)
 | [],n,_,_=>by simp [H00,Hab]
 | x::q,n,h0,h=>by
  have hp:=R12 c half q
  have h1:=Qb9 x.2
  rw [H00]
  unfold Hab at h ⊢
  cases hi:Qb8 c half x.1 with
  | false=>
   rw [hi,cond_false] at h
   have h2:(decide (x.1.G1=c)&&(decide (x.1.Half=0)||decide (x.1.Half=half)))=false:=hi
   simp only [h2,cond_false]
   rw [J6e h0 (by omega),Int.zero_add]
  | true=>
   rw [hi,cond_true] at h
   have h2:(decide (x.1.G1=c)&&(decide (x.1.Half=0)||decide (x.1.Half=half)))=true:=hi
   have hb:(bnd (R9 x.2) fun r=>chk (n+r) fun v=>some (Sum.inl v:Int ⊕ Prop))=some (.inl (n+hgt x.2)):=by
    rw [Y84]; show chk (n+hgt x.2) (fun v=>some (Sum.inl v:Int ⊕ Prop))=_; rw [Ya4 ⟨by omega,by omega⟩]
   simp only [h2,cond_true]
   rw [hb]
   simp only
   rw [J6e (c:=c) (half:=half) (q:=q) (by omega) (by omega),Int.add_assoc]
theorem J2b (m:Gh) (x:Slot) (b:Box) (half:Int) (r:Int) (h:G26 m x b half=some r):∃ p:Prop,G8c m x b half (fun r_=>r_=r)=some p∧p:=by
 unfold G26 at h
 have key:∀ n:Int,0≤n→(bif decide (n+Hab x.G1 half (Gv.Hc m.on)≤9223372036854775807) then some (n+Hab x.G1 half (Gv.Hc m.on)) else none)=some r →
   ∃ p:Prop,Hbc (fun(x15:Slot×Box) (s15:Int) nx15=>bif decide (x15.1.G1=x.G1)&&(decide (x15.1.Half=0)||decide (x15.1.Half=half)) then bnd (R9 x15.2) fun r20=>chk (s15+r20) fun v21=>nx15 v21 else nx15 s15) (fun s15=>some (s15=r)) (Gv.Hc m.on) n=some p∧p:=fun n h0 h=>by
  cases hd:decide (n+Hab x.G1 half (Gv.Hc m.on)≤9223372036854775807) with
  | false=>rw [hd] at h; cases h
  | true=>
   rw [hd,cond_true] at h
   have hd:=Kw hd
   refine⟨_,rfl,fun q hq=>?_⟩
   have e:=Re7 (c:=x.G1) (half:=half) hq
   rw [J6e h0 (by rw [e]; exact hd),e]
   exact⟨_,rfl,M2 h⟩
 unfold G8c jp
 cases hx:(decide (x.Half=0)||decide (x.Half=half)) with
 | false=>rw [hx,cond_false] at h; simp only [cond_false]; exact key 0 (Int.le_refl _) h
 | true=>rw [hx,cond_true] at h; simp only [cond_true]; rw [Y84]; exact key (hgt b) (Qb9 b) h
def H82:=PLift.up (J86 G26 J2b)

theorem Q92:∀ (l:List J6) (i:Nat),each (fun y _ (_:Unit) nx=>bnd (y.val) fun r=>bif (!r) then (some y.bad) else nx ()) (fun _=>some 0) l i ()=Gf9 (l.map fun x=>(x.val,x.bad))
 | [],_=>rfl
 | y::l,i=>by
  rw [each,List.map_cons,Gf9]
  cases y.val with
  | none=>rfl
  | some b=>
   cases b with
   | true=>exact Q92 l (i+1)
   | false=>rfl
def Q34:=PLift.up (fun(l:List J6) (r:Int) (h:Gf9 (l.map fun x=>(x.val,x.bad))=some r)=>Q48 l r ((Q92 l 0).trans h))
end Go.Proofs.YtmfhaflabpnaoaaGreat
