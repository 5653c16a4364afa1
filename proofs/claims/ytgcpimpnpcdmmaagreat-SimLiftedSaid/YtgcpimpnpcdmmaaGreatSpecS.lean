/- What the simulator's methods that range over its maps return -/
import Derived.Test.YtgcpimpnpcdmmaaGreatXS
set_option maxRecDepth 100000
namespace Go.Proofs.YtgcpimpnpcdmmaaGreat
open Go.RowKit

def Zy (m:Gc) (is:Slot→Option Bool):Option Bool:=
 bif (Gv.Hc m.on).all (fun p=>(is p.1).isSome) then some ((Gv.Hc m.on).any fun p=>(is p.1).getD false) else none
theorem R2c {is:Slot→Option Bool} {r:Bool}:∀ {q:List (Slot×Box)},q.all (fun p=>(is p.1).isSome)=true →
  H0b (fun(x:Slot×Box) (_:Unit) nx=>bnd (is x.1) fun b=>bif b then lft (some (true=r)) else nx ()) (fun _=>some (false=r)) q ()=some ((q.any fun p=>(is p.1).getD false)=r)
 | [],_=>rfl
 | x::q,h=>by
  rw [List.all_cons,Mj] at h
  obtain⟨b,hb⟩:=Kt h.1
  have ih:=R2c (is:=is) (r:=r) h.2
  rw [H0b,hb]
  cases b with
  | true=>simp [bnd,lft,hb]
  | false=>simp only [bnd,cond_false,List.any_cons,hb,Option.getD_some,Bool.false_or]; exact ih
theorem Re6 {α:Type} {c:α→Bool} {q l:List α} (hq:q.Perm l):q.any c=l.any c:=by
 rw [Bool.eq_iff_iff,List.any_eq_true,List.any_eq_true]
 exact⟨fun⟨x,h1,h2⟩=>⟨x,hq.mem_iff.1 h1,h2⟩,fun⟨x,h1,h2⟩=>⟨x,hq.mem_iff.2 h1,h2⟩⟩
theorem Z18 {α:Type} {c:α→Bool} {q l:List α} (hq:q.Perm l):q.all c=l.all c:=by
 rw [Bool.eq_iff_iff,List.all_eq_true,List.all_eq_true]
 exact⟨fun h x hx=>h x (hq.mem_iff.2 hx),fun h x hx=>h x (hq.mem_iff.1 hx)⟩
theorem Jeb (m:Gc) (is:Slot→Option Bool) (r:Bool) (h:Zy m is=some r):∃ p:Prop,H47 m is (fun r_=>r_=r)=some p∧p:=by
 unfold Zy at h
 cases h0:(Gv.Hc m.on).all (fun p=>(is p.1).isSome) with
 | false=>rw [h0] at h; cases h
 | true=>
  rw [h0,cond_true] at h
  refine⟨_,rfl,fun q hq=>?_⟩
  refine⟨_,R2c (by rw [Z18 hq]; exact h0),?_⟩
  rw [Re6 hq]
  exact M7 h
def H66:=PLift.up (Q6d Zy Jeb)

def hgt (b:Box):Int:=bif b.High then 2896 else 2591
theorem R6c (b:Box):0≤hgt b:=by unfold hgt; cases b.High <;> decide
theorem Z7e (b:Box):R0 b=some (hgt b):=by unfold R0 hgt; cases b.High <;> rfl
def R6b (c half:Int) (y:Slot):Bool:=decide (y.G3=c)&&(decide (y.Half=0)||decide (y.Half=half))
def J0c (c half:Int):List (Slot×Box)→Int
 | []=>0
 | p::r=>(bif R6b c half p.1 then hgt p.2 else 0)+J0c c half r
theorem Rd7 (c half:Int):∀ l,0≤J0c c half l
 | []=>Int.le_refl _
 | p::r=>by
  have:=Rd7 c half r
  have:=R6c p.2
  unfold J0c
  cases R6b c half p.1 <;> simp <;> omega
theorem Ybe {c half:Int} {a b:List (Slot×Box)} (h:a.Perm b):J0c c half a=J0c c half b:=by
 induction h with
 | nil=>rfl
 | cons x _ ih=>simp only [J0c,ih]
 | swap x y l=>simp only [J0c]; omega
 | trans _ _ h1 h2=>exact h1.trans h2
def G2a (m:Gc) (x:Slot) (b:Box) (half:Int):Option Int:=
 bif decide ((bif (decide (x.Half=0)||decide (x.Half=half)) then hgt b else 0)+J0c x.G3 half (Gv.Hc m.on)≤9223372036854775807)
 then some ((bif (decide (x.Half=0)||decide (x.Half=half)) then hgt b else 0)+J0c x.G3 half (Gv.Hc m.on)) else none
theorem Z9f {β:Type} {z:Int} {k:Int→Option β} (h : -9223372036854775808≤z∧z≤9223372036854775807):chk z k=k z:=by
 unfold chk R3a
 rw [M3 h.1,M3 h.2,Bool.and_self,cond_true]
theorem Q0b {c half:Int} {kx:Int→Option Prop}:∀ {q:List (Slot×Box)} {n:Int},0≤n→n+J0c c half q≤9223372036854775807 →
  H0b (fun(x:Slot×Box) (s:Int) nx=>bif decide (x.1.G3=c)&&(decide (x.1.Half=0)||decide (x.1.Half=half)) then bnd (R0 x.2) fun r=>chk (s+r) fun v=>nx v else nx s) kx q n=kx (n+J0c c half q)
 | [],n,_,_=>by simp [H0b,J0c]
 | x::q,n,h0,h=>by
  have hp:=Rd7 c half q
  have h1:=R6c x.2
  rw [H0b]
  unfold J0c at h ⊢
  cases hi:R6b c half x.1 with
  | false=>
   rw [hi,cond_false] at h
   have h2:(decide (x.1.G3=c)&&(decide (x.1.Half=0)||decide (x.1.Half=half)))=false:=hi
   simp only [h2,cond_false]
   rw [Q0b h0 (by omega),Int.zero_add]
  | true=>
   rw [hi,cond_true] at h
   have h2:(decide (x.1.G3=c)&&(decide (x.1.Half=0)||decide (x.1.Half=half)))=true:=hi
   have hb:(bnd (R0 x.2) fun r=>chk (n+r) fun v=>some (Sum.inl v:Int ⊕ Prop))=some (.inl (n+hgt x.2)):=by
    rw [Z7e]; show chk (n+hgt x.2) (fun v=>some (Sum.inl v:Int ⊕ Prop))=_; rw [Z9f ⟨by omega,by omega⟩]
   simp only [h2,cond_true]
   rw [hb]
   simp only
   rw [Q0b (c:=c) (half:=half) (q:=q) (by omega) (by omega),Int.add_assoc]
theorem Jb6 (m:Gc) (x:Slot) (b:Box) (half:Int) (r:Int) (h:G2a m x b half=some r):∃ p:Prop,Gad m x b half (fun r_=>r_=r)=some p∧p:=by
 unfold G2a at h
 have key:∀ n:Int,0≤n→(bif decide (n+J0c x.G3 half (Gv.Hc m.on)≤9223372036854775807) then some (n+J0c x.G3 half (Gv.Hc m.on)) else none)=some r →
   ∃ p:Prop,J1f (fun(x15:Slot×Box) (s15:Int) nx15=>bif decide (x15.1.G3=x.G3)&&(decide (x15.1.Half=0)||decide (x15.1.Half=half)) then bnd (R0 x15.2) fun r20=>chk (s15+r20) fun v21=>nx15 v21 else nx15 s15) (fun s15=>some (s15=r)) (Gv.Hc m.on) n=some p∧p:=fun n h0 h=>by
  cases hd:decide (n+J0c x.G3 half (Gv.Hc m.on)≤9223372036854775807) with
  | false=>rw [hd] at h; cases h
  | true=>
   rw [hd,cond_true] at h
   have hd:=M1 hd
   refine⟨_,rfl,fun q hq=>?_⟩
   have e:=Ybe (c:=x.G3) (half:=half) hq
   rw [Q0b h0 (by rw [e]; exact hd),e]
   exact⟨_,rfl,M7 h⟩
 unfold Gad jp
 cases hx:(decide (x.Half=0)||decide (x.Half=half)) with
 | false=>rw [hx,cond_false] at h; simp only [cond_false]; exact key 0 (Int.le_refl _) h
 | true=>rw [hx,cond_true] at h; simp only [cond_true]; rw [Z7e]; exact key (hgt b) (R6c b) h
def He8:=PLift.up (Q27 G2a Jb6)

theorem R41:∀ (l:List J3) (i:Nat),each (fun y _ (_:Unit) nx=>bnd (y.val) fun r=>bif (!r) then (some y.bad) else nx ()) (fun _=>some 0) l i ()=H43 (l.map fun x=>(x.val,x.bad))
 | [],_=>rfl
 | y::l,i=>by
  rw [each,List.map_cons,H43]
  cases y.val with
  | none=>rfl
  | some b=>
   cases b with
   | true=>exact R41 l (i+1)
   | false=>rfl
def Qdb:=PLift.up (fun(l:List J3) (r:Int) (h:H43 (l.map fun x=>(x.val,x.bad))=some r)=>Qf3 l r ((R41 l 0).trans h))
end Go.Proofs.YtgcpimpnpcdmmaaGreat
