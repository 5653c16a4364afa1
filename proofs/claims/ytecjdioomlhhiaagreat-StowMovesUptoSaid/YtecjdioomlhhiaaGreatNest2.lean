/-
 Is a slice nil: known alone of one that has elements. Appending to a part from the front of a slice of the call's own,within what it holds: the cells behind are written over. A slice of slices of the call's own,whose last slice still grows. Drawn orders whose last operation,behind all the others,is given apart. The typed steps of slices of slices whose last slice grows.
-/
import Derived.Test.YtecjdioomlhhiaaGreatLit0
set_option linter.unusedSimpArgs false
namespace Go.Proofs.YtecjdioomlhhiaaGreat
open Go.RowKit

theorem R8f {P:Program} {T E k:Nat} (hT:sliceB P T E k=true) (a:Option Addr) (n c:Nat) (w:World):(Op.equal T (.slice a n c) (.slice none 0 0)).run P w=.ok a.isNone w:=by
 have h:=(sliceB.out hT).1
 unfold Op.equal
 generalize hd:Op.maxDepth=d
 obtain⟨d,rfl⟩:∃ m,d=m+1:=⟨Op.maxDepth - 1,by rw [← hd]; rfl⟩
 clear hd
 cases a with
 | none=>rw [Op.equalIn]; simp [underlying,h]
 | some a=>rw [Op.equalIn]; simp [underlying,h]

def Rd1 {α β:Type} [DecidableEq β] (xs:List α) (k:Bool→Option β):Option β:=
 match xs with
 | []=>if k true=k false then k false else none
 | _=>k false
theorem J48 {α β γ:Type} [DecidableEq β] {xs:List α} {k:Bool→Option β} {r:β} {f:α→γ} (h:Rd1 xs k=some r) (b:Bool) (hb:b=true→xs.map f=[]):k b=some r:=by
 cases xs with
 | nil=>
  have h:(if k true=k false then k false else none)=some r:=h
  by_cases e:k true=k false
  ·rw [if_pos e] at h
   cases b with
   | true=>rw [e]; exact h
   | false=>exact h
  ·rw [if_neg e] at h; cases h
 | cons x l=>
  cases b with
  | true=>have:=hb rfl; cases this
  | false=>exact h
section
variable {P:Program} {o:Oper} {l:Fr} {L:Loc}
theorem Jb8 {x:Operand} {T T' E k k':Nat} {xs:List AV} (hT:sliceB P T E k'=true) (ho:o.op=.binOp .eql T x (.const (.slice none 0 0)) T') (hx:Qd (ev l x)=some (k,xs)):H1 P o l L (fun u L'=>∃ b:Bool,(b=true→xs=[])∧u=BL b∧L'=L):=by
 intro a w β K Q hsat hf hK
 have hd:=(hf.ev x).Qd hx
 have key:∀ ao n c,a.eval x=.slice ao n c→(execOp a.eval o).run P w=.ok (.value (.bool ao.isNone)) w:=fun ao n c e=>by
  have e2:a.eval (.const (.slice none 0 0))=.slice none 0 0:=rfl
  simp [execOp,ho,eqGuard,binOp,e,e2,R8f hT]
 generalize hv:a.eval x=v at hd
 cases hd with
 | nil h=>
  rename_i cap ao
  unfold Oper.wp
  rw [key _ _ _ hv]
  exact hK _ _ _ _ _ ⟨ao.isNone,fun _=>rfl,rfl,rfl⟩ hsat (Step.refl _ _ _) .sc
 | list vals hcap hm hk hS h=>
  unfold Oper.wp
  rw [key _ _ _ hv]
  exact hK _ _ _ _ _ ⟨false,fun e=>(by cases e),rfl,rfl⟩ hsat (Step.refl _ _ _) .sc
theorem R78 (i E k:Nat) {x:Operand} {ver:Nat} {xs:List AV} (ho:o.op=.assign x) (hx:ev l x=.sc (.slice none 0 0)) (hi:lk L i=some (.vec E k ver xs)):H1 P o l L (Is (.vec i (ver+1) k 0) ((i,.vec E k (ver+1) [])::L)):=by
 intro a w β K Q hsat hf hK
 have hv:=hf.ev x
 rw [hx] at hv
 have hr:(execOp a.eval o).run P w=.ok (.value (.slice none 0 0)) w:=by simp [execOp,ho,hv.inv_sc]
 unfold Oper.wp
 rw [hr]
 obtain⟨st,sat⟩:=Z6 (w':=w) (t:=E) (k:=k) (ver1:=ver+1) (xs':=[]) (ob':=none) hsat (.inr ⟨ver,xs,hi,by omega,fun e=>by omega⟩) rfl rfl ⟨rfl,Nat.le_refl _⟩ (Nat.le_refl _) (fun _ _ _=>rfl) (.inl rfl)
 exact hK _ _ _ w _ ⟨rfl,rfl⟩ (sat ⟨by simp,.inl ⟨rfl,rfl⟩⟩) st (.vec ⟨E,ver+1,[],by rw [Gr,if_pos rfl],Nat.le_refl _,fun _=>⟨rfl,.inl ⟨rfl,rfl,by simp [upP]⟩⟩⟩ rfl)
theorem R79 (i E k:Nat) {T ver:Nat} {xs:List AV} (ho:o.op=.buildSlice T 0 #[]) (hi:lk L i=some (.vec E k ver xs)) (hT:sliceB P T E k=true):H1 P o l L (Is (.vec i (ver+1) k 0) ((i,.vec E k (ver+1) [])::L)):=by
 intro a w β K Q hsat hf hK
 unfold Oper.wp
 rw [Jeb (E:=E) (k:=k) ho hT]
 have hsz:w.heap.size < (w.alloc (.cells #[] E)).heap.size:=by simp
 obtain⟨st,sat⟩:=Z6 (w':=w.alloc (.cells #[] E)) (t:=E) (k:=k) (ver1:=ver+1) (xs':=[]) (ob':=some w.heap.size) hsat (.inr ⟨ver,xs,hi,by omega,fun e=>by omega⟩) rfl rfl ⟨rfl,Nat.le_refl _⟩ (Nat.le_of_lt hsz) (fun b hb _=>Q6 w _ hb) (.inr (.inr ⟨_,rfl,Nat.le_refl _,hsz⟩))
 have hn:=heap_alloc_new w (.cells #[] E)
 exact hK _ _ _ _ _ ⟨rfl,rfl⟩ (sat ⟨by simp,.inr ⟨_,rfl,#[],hn,by simp,fun j u v hu=>by simp [flat] at hu⟩⟩) st (.vec ⟨E,ver+1,[],by rw [Gr,if_pos rfl],Nat.le_refl _,fun _=>⟨rfl,.inr ⟨w.heap.size,0,rfl,by simp [upP],Nat.le_refl _,Nat.zero_le _,by simp only [World.shape?,hn,Option.bind_some]; simp⟩⟩⟩ rfl)
end
end Go.Proofs.YtecjdioomlhhiaaGreat
namespace Go.Proofs.YtecjdioomlhhiaaGreat
open Go.RowKit

section
variable {P:Program} {o:Oper} {l:Fr} {L:Loc}
theorem J43 {T E k:Nat} (hT:sliceB P T E k=true) {ty:Nat} (w:World) (a s:Option Addr) (m cap q cap2:Nat) (cs:List Value) (hroom:m+q≤cap) (hs:s=none→q=0) (hcs:cs.length=q*k) (hsrc:∀ (ad:Addr) (j:Nat) u,s=some ad→cs[j]? = some u→w.cell? (ad.add j)=some u) :
  (Builtin.append_ #[T,T] ty #[.slice a m cap,.slice s q cap2]).run P w=(match a with | some ad=>((storeCells (ad.add (m*k)) cs).run P w).andThen fun _ w=>.ok (.slice a (m+q) cap) w | none=>.ok (.slice a (m+q) cap) w):=by
 obtain⟨h1,h2⟩:=sliceB.out hT
 have h3:=Qr h2 w
 cases s with
 | none=>
  have hq:=hs rfl
  subst hq
  have:cs=[]:=List.eq_nil_of_length_eq_zero (by rw [hcs]; simp)
  subst this
  have hr2:m≤cap:=by omega
  cases a <;> simp [Builtin.append_,run_underlying h1,Builtin.lenOf,Builtin.firstCells,h3,storeCells,Result.andThen,hr2]
 | some ad=>
  have hl:=run_loadCells_list (P:=P) w ad cs (fun j v h=>hsrc ad j v rfl h)
  rw [hcs] at hl
  cases a with
  | none=>simp [Builtin.append_,run_underlying h1,Builtin.lenOf,Builtin.firstCells,h3,hl,hroom]
  | some a2=>simp [Builtin.append_,run_underlying h1,Builtin.lenOf,Builtin.firstCells,h3,hl,hroom]
theorem R52 {d x:Operand} {T E k i ver m:Nat} {xs ys:List AV} (ho:o.op=.call { callee:=.builtin .append,args:=#[d,x],argTypes:=#[T,T] }) (hT:sliceB P T E k=true) (hd:ev l d=.vsl i ver k 0 m) (hi:lk L i=some (.vec E k ver xs)) (hs:He8 L k (ev l x) ys) (hc:∀ y∈ys,y.flatOk=true) (hfit:m+ys.length≤xs.length) (hpos:Nat.blt 0 k=true) :
  H1 P o l L (Is (.vsl i ver k 0 (m+ys.length)) ((i,.vec E k ver (xs.take m++ys++xs.drop (m+ys.length)))::L)):=by
 intro a w β K Q hsat hf hK
 have hdv0:=hf.ev d
 rw [hd] at hdv0
 have hvec:=hdv0.inv_vsl0 hi
 obtain⟨hyk,asx,cap2,cs,hsv,hs0,hcl,hcell,hcD⟩:=hs.reads hsat (hf.ev x)
 have hxl:(xs.take m++ys++xs.drop (m+ys.length)).length=xs.length:=by
  simp only [List.length_append,List.length_take,List.length_drop]; omega
 have hobj:=hsat.obj i _ hi
 rcases hvec with ⟨e1,e2,e3⟩ | ⟨b,cap,e1,e2,e3,e4,e5⟩
 ·-- nil: nothing there, nothing to append
  have hxs:xs=[]:=by
   rcases hobj.2 with ⟨_,h⟩ | ⟨b,h,_⟩
   ·exact h
   ·rw [show β.at_ i=β i from rfl] at e3; rw [e3] at h; cases h
  subst hxs
  subst e2
  have hys:ys=[]:=by simpa using hfit
  subst hys
  have hr:=J43 (P:=P) hT (ty:=o.type) w none asx 0 0 0 cap2 cs (by omega) (fun _=>rfl) (by simpa using hcl) hcell
  have hex:(execOp a.eval o).run P w=.ok (.value (.slice none 0 0)) w:=by
   simp [execOp,ho,resolve,invoke,builtin,e1,hsv,hr]
  unfold Oper.wp
  rw [hex]
  have hq:H49 L ((i,Jg.vec E k ver [])::L):=fun id=>by
   rw [Gr]
   by_cases e:i=id
   ·subst e; rw [if_pos rfl,hi]
   ·rw [if_neg e]
  exact hK _ _ _ w β ⟨rfl,rfl⟩ (hsat.locEq hq) ((Step.refl w β L).locEq hq) (.vsl ⟨E,ver,[],by rw [Gr,if_pos rfl]; rfl,Nat.le_refl _,fun _=>⟨by simp,⟨none,0,rfl,by simp,Nat.zero_le _,.inl rfl⟩,fun _=>.inl ⟨rfl,rfl,e3⟩⟩⟩ rfl)
 ·have hk0:0 < k:=by simpa [Nat.blt_eq] using hpos
  have hb:β.at_ i=some b:=e2
  have hcap:xs.length≤cap:=by
   rcases hobj.2 with ⟨_,hx⟩ | ⟨b',h,vs,h2,h3,_⟩
   ·subst hx; simp
   ·rw [show β i=some b from e2] at h
    cases h
    have hs:vs.size=cap*k:=by
     have:=e5
     simp [World.shape?,h2] at this
     exact this
    rw [hs] at h3
    exact Nat.le_of_mul_le_mul_right h3 hk0
  have hr:=J43 (P:=P) hT (ty:=o.type) w (some ⟨b,0,none⟩) asx m cap ys.length cap2 cs (by omega) (fun e=>by rw [hs0 e]; rfl) hcl hcell
  have hex:(execOp a.eval o).run P w=((Builtin.append_ #[T,T] o.type #[.slice (some ⟨b,0,none⟩) m cap,.slice asx ys.length cap2]).run P w).andThen fun v w=>.ok (.value v) w:=by
   simp [execOp,ho,resolve,invoke,builtin,e1,hsv]
   try rfl
  have hV:V w β L (.vsl i ver k 0 (m+ys.length)) (.slice (some ⟨b,0,none⟩) (m+ys.length) cap):=
   .vsl ⟨E,ver,xs,hi,Nat.le_refl _,fun _=>⟨by omega,⟨_,cap,rfl,by omega,e4,.inr ⟨b,e2,by simp⟩⟩,fun _=>.inr ⟨b,cap,rfl,e2,by omega,e4,e5⟩⟩⟩ rfl
  obtain⟨q1,vs,q2,q3,q4⟩:=Gf5 hsat hi hb
  have hmul:m*k+ys.length*k≤xs.length*k:=by rw [← Nat.add_mul]; exact Nat.mul_le_mul_right _ hfit
  have hDz:∀ (j:Nat) u x,(flat ys)[j]? = some u→cs[j]? = some x→D w (Jy w β L) u x:=fun j u x hu hx=>hcD j u x hu hx
  have h1c:∀ v∈cs,v.oneCell'=true:=fun v hv=>by
   obtain⟨j,hj⟩:=List.mem_iff_getElem?.1 hv
   have hjl:=(List.getElem?_eq_some_iff.1 hj).1
   rw [hcl] at hjl
   have hu:(flat ys)[j]? = some ((flat ys)[j]'(by rw [Jd hyk]; exact hjl)):=List.getElem?_eq_getElem _
   exact(V.data (hDz j _ v hu hj)).cell (H88 hc (List.mem_of_getElem? hu))
  have hst:=run_storeCells_at P b (m*k) E cs 0 vs w q2 (by rw [hcl]; omega) h1c
  simp only [Nat.add_zero] at hst
  obtain⟨st,sat⟩:=J5c (off:=m) (zs:=ys) (cs:=cs) hsat hi hb q2 hyk (by rw [hcl]) hfit hDz
  unfold Oper.wp
  rw [hex,hr]
  have hadd:(⟨b,0,none⟩:Addr).add (m*k)=⟨b,m*k,none⟩:=by simp [Addr.add_lit]
  simp only [hadd,hst,Result.andThen]
  exact hK _ _ _ _ _ ⟨rfl,rfl⟩ sat st (hV.step st)
end
end Go.Proofs.YtecjdioomlhhiaaGreat
set_option linter.unusedSimpArgs false
namespace Go.Proofs.YtecjdioomlhhiaaGreat
open Go.RowKit
set_option linter.unusedVariables false

section moves
variable {w w':World} {β:H5} {L:Loc} {i t k ver1 hw1:Nat}
end moves

section ops
variable {P:Program} {N:Cfg} {Q:Post} {o:Oper} {ops:Array Oper} {rest:List Oper} {l:Fr} {L:Loc}

end ops

section freeze
variable {P:Program} {N:Cfg} {Q:Post} {l l':Fr} {L L':Loc}

inductive Y0d (i ver n:Nat) (pre:List AV) (last:AV) (ys:List AV) (ok:Nat→Bool):AV→AV→Prop
 | conv {u u':AV} (h:Conv ok u u'):Y0d i ver n pre last ys ok u u'
 | nst:Y0d i ver n pre last ys ok (.nst i ver n pre last) (.list 1 ys)
def J9c (i ver n:Nat) (pre:List AV) (last:AV) (ys:List AV) (ok:Nat→Bool) (l:Fr):Fr→Prop
 | []=>True
 | (t,u)::r=>Y0d i ver n pre last ys ok (look l t) u∧J9c i ver n pre last ys ok l r
theorem J9c.get {i ver n:Nat} {pre:List AV} {last:AV} {ys:List AV} {ok:Nat→Bool} {l:Fr}:∀ {l':Fr},J9c i ver n pre last ys ok l l'→∀ t,Y0d i ver n pre last ys ok (look l t) (look l' t)
 | [],_,t=>.conv .junk
 | (s,u)::r,h,t=>by
  simp only [look]
  cases hb:Nat.beq s t with
  | true=>have:=Nat.eq_of_beq_eq_true hb; subst this; exact h.1
  | false=>exact J9c.get h.2 t

end freeze

/-! ### Typed -/
section typed
variable {α:Type}
end typed
end Go.Proofs.YtecjdioomlhhiaaGreat
namespace Go.Proofs.YtecjdioomlhhiaaGreat
open Go.RowKit
set_option linter.unusedVariables false

section sound
variable {P:Program} {N:Cfg} {ops:List Oper} {ws los his:List Nat} {Ls:List Loc} {l0:Fr} {val:Nat→AV}

end sound
end Go.Proofs.YtecjdioomlhhiaaGreat
namespace Go.Proofs.YtecjdioomlhhiaaGreat
open Go.RowKit
set_option linter.unusedVariables false

section typed
variable {P:Program} {N:Cfg} {Q:Post} {o:Oper} {ops:Array Oper} {rest:List Oper} {l:Fr} {L:Loc} {α:Type}

end typed
end Go.Proofs.YtecjdioomlhhiaaGreat
