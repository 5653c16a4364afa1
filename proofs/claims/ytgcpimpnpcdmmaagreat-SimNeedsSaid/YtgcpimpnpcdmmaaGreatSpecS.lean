/- What the simulator's methods that range over its maps return -/
import Derived.Test.YtgcpimpnpcdmmaaGreatXS
set_option maxRecDepth 100000
namespace Go.Proofs.YtgcpimpnpcdmmaaGreat
open Go.RowKit

def G07 (m:Ge) (is:Slot→Option Bool):Option Bool:=
 bif (Gw.Hd m.on).all (fun p=>(is p.1).isSome) then some ((Gw.Hd m.on).any fun p=>(is p.1).getD false) else none
theorem R38 {is:Slot→Option Bool} {r:Bool}:∀ {q:List (Slot×Box)},q.all (fun p=>(is p.1).isSome)=true →
  H11 (fun(x:Slot×Box) (_:Unit) nx=>bnd (is x.1) fun b=>bif b then lft (some (true=r)) else nx ()) (fun _=>some (false=r)) q ()=some ((q.any fun p=>(is p.1).getD false)=r)
 | [],_=>rfl
 | x::q,h=>by
  rw [List.all_cons,Mk] at h
  obtain⟨b,hb⟩:=Kt h.1
  have ih:=R38 (is:=is) (r:=r) h.2
  rw [H11,hb]
  cases b with
  | true=>simp [bnd,lft,hb]
  | false=>simp only [bnd,cond_false,List.any_cons,hb,Option.getD_some,Bool.false_or]; exact ih
theorem Rf0 {α:Type} {c:α→Bool} {q l:List α} (hq:q.Perm l):q.any c=l.any c:=by
 rw [Bool.eq_iff_iff,List.any_eq_true,List.any_eq_true]
 exact⟨fun⟨x,h1,h2⟩=>⟨x,hq.mem_iff.1 h1,h2⟩,fun⟨x,h1,h2⟩=>⟨x,hq.mem_iff.2 h1,h2⟩⟩
theorem Z21 {α:Type} {c:α→Bool} {q l:List α} (hq:q.Perm l):q.all c=l.all c:=by
 rw [Bool.eq_iff_iff,List.all_eq_true,List.all_eq_true]
 exact⟨fun h x hx=>h x (hq.mem_iff.2 hx),fun h x hx=>h x (hq.mem_iff.1 hx)⟩
theorem Jfa (m:Ge) (is:Slot→Option Bool) (r:Bool) (h:G07 m is=some r):∃ p:Prop,H51 m is (fun r_=>r_=r)=some p∧p:=by
 unfold G07 at h
 cases h0:(Gw.Hd m.on).all (fun p=>(is p.1).isSome) with
 | false=>rw [h0] at h; cases h
 | true=>
  rw [h0,cond_true] at h
  refine⟨_,rfl,fun q hq=>?_⟩
  refine⟨_,R38 (by rw [Z21 hq]; exact h0),?_⟩
  rw [Rf0 hq]
  exact M8 h
def H71:=PLift.up (Q7d G07 Jfa)

def hgt (b:Box):Int:=bif b.High then 2896 else 2591
theorem R77 (b:Box):0≤hgt b:=by unfold hgt; cases b.High <;> decide
theorem Z85 (b:Box):R3 b=some (hgt b):=by unfold R3 hgt; cases b.High <;> rfl
def R76 (c half:Int) (y:Slot):Bool:=decide (y.G3=c)&&(decide (y.Half=0)||decide (y.Half=half))
def J20 (c half:Int):List (Slot×Box)→Int
 | []=>0
 | p::r=>(bif R76 c half p.1 then hgt p.2 else 0)+J20 c half r
theorem Re3 (c half:Int):∀ l,0≤J20 c half l
 | []=>Int.le_refl _
 | p::r=>by
  have:=Re3 c half r
  have:=R77 p.2
  unfold J20
  cases R76 c half p.1 <;> simp <;> omega
theorem Ycd {c half:Int} {a b:List (Slot×Box)} (h:a.Perm b):J20 c half a=J20 c half b:=by
 induction h with
 | nil=>rfl
 | cons x _ ih=>simp only [J20,ih]
 | swap x y l=>simp only [J20]; omega
 | trans _ _ h1 h2=>exact h1.trans h2
def G38 (m:Ge) (x:Slot) (b:Box) (half:Int):Option Int:=
 bif decide ((bif (decide (x.Half=0)||decide (x.Half=half)) then hgt b else 0)+J20 x.G3 half (Gw.Hd m.on)≤9223372036854775807)
 then some ((bif (decide (x.Half=0)||decide (x.Half=half)) then hgt b else 0)+J20 x.G3 half (Gw.Hd m.on)) else none
theorem Za7 {β:Type} {z:Int} {k:Int→Option β} (h : -9223372036854775808≤z∧z≤9223372036854775807):chk z k=k z:=by
 unfold chk R47
 rw [M4 h.1,M4 h.2,Bool.and_self,cond_true]
theorem Q1d {c half:Int} {kx:Int→Option Prop}:∀ {q:List (Slot×Box)} {n:Int},0≤n→n+J20 c half q≤9223372036854775807 →
  H11 (fun(x:Slot×Box) (s:Int) nx=>bif decide (x.1.G3=c)&&(decide (x.1.Half=0)||decide (x.1.Half=half)) then bnd (R3 x.2) fun r=>chk (s+r) fun v=>nx v else nx s) kx q n=kx (n+J20 c half q)
 | [],n,_,_=>by simp [H11,J20]
 | x::q,n,h0,h=>by
  have hp:=Re3 c half q
  have h1:=R77 x.2
  rw [H11]
  unfold J20 at h ⊢
  cases hi:R76 c half x.1 with
  | false=>
   rw [hi,cond_false] at h
   have h2:(decide (x.1.G3=c)&&(decide (x.1.Half=0)||decide (x.1.Half=half)))=false:=hi
   simp only [h2,cond_false]
   rw [Q1d h0 (by omega),Int.zero_add]
  | true=>
   rw [hi,cond_true] at h
   have h2:(decide (x.1.G3=c)&&(decide (x.1.Half=0)||decide (x.1.Half=half)))=true:=hi
   have hb:(bnd (R3 x.2) fun r=>chk (n+r) fun v=>some (Sum.inl v:Int ⊕ Prop))=some (.inl (n+hgt x.2)):=by
    rw [Z85]; show chk (n+hgt x.2) (fun v=>some (Sum.inl v:Int ⊕ Prop))=_; rw [Za7 ⟨by omega,by omega⟩]
   simp only [h2,cond_true]
   rw [hb]
   simp only
   rw [Q1d (c:=c) (half:=half) (q:=q) (by omega) (by omega),Int.add_assoc]
theorem Jc9 (m:Ge) (x:Slot) (b:Box) (half:Int) (r:Int) (h:G38 m x b half=some r):∃ p:Prop,Gba m x b half (fun r_=>r_=r)=some p∧p:=by
 unfold G38 at h
 have key:∀ n:Int,0≤n→(bif decide (n+J20 x.G3 half (Gw.Hd m.on)≤9223372036854775807) then some (n+J20 x.G3 half (Gw.Hd m.on)) else none)=some r →
   ∃ p:Prop,J32 (fun(x15:Slot×Box) (s15:Int) nx15=>bif decide (x15.1.G3=x.G3)&&(decide (x15.1.Half=0)||decide (x15.1.Half=half)) then bnd (R3 x15.2) fun r20=>chk (s15+r20) fun v21=>nx15 v21 else nx15 s15) (fun s15=>some (s15=r)) (Gw.Hd m.on) n=some p∧p:=fun n h0 h=>by
  cases hd:decide (n+J20 x.G3 half (Gw.Hd m.on)≤9223372036854775807) with
  | false=>rw [hd] at h; cases h
  | true=>
   rw [hd,cond_true] at h
   have hd:=M2 hd
   refine⟨_,rfl,fun q hq=>?_⟩
   have e:=Ycd (c:=x.G3) (half:=half) hq
   rw [Q1d h0 (by rw [e]; exact hd),e]
   exact⟨_,rfl,M8 h⟩
 unfold Gba jp
 cases hx:(decide (x.Half=0)||decide (x.Half=half)) with
 | false=>rw [hx,cond_false] at h; simp only [cond_false]; exact key 0 (Int.le_refl _) h
 | true=>rw [hx,cond_true] at h; simp only [cond_true]; rw [Z85]; exact key (hgt b) (R77 b) h
def Hfa:=PLift.up (Q38 G38 Jc9)

theorem R4e:∀ (l:List J6) (i:Nat),each (fun y _ (_:Unit) nx=>bnd (y.val) fun r=>bif (!r) then (some y.bad) else nx ()) (fun _=>some 0) l i ()=H4e (l.map fun x=>(x.val,x.bad))
 | [],_=>rfl
 | y::l,i=>by
  rw [each,List.map_cons,H4e]
  cases y.val with
  | none=>rfl
  | some b=>
   cases b with
   | true=>exact R4e l (i+1)
   | false=>rfl
def Qeb:=PLift.up (fun(l:List J6) (r:Int) (h:H4e (l.map fun x=>(x.val,x.bad))=some r)=>R03 l r ((R4e l 0).trans h))
end Go.Proofs.YtgcpimpnpcdmmaaGreat
