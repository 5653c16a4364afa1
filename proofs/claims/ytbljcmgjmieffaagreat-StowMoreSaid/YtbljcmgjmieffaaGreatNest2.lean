/-
 Is a slice nil: known alone of one that has elements. Appending to a part from the front of a slice of the call's own,within what it holds: the cells behind are written over. A slice of slices of the call's own,whose last slice still grows. Drawn orders whose last operation,behind all the others,is given apart. The typed steps of slices of slices whose last slice grows.
-/
import Derived.Test.YtbljcmgjmieffaaGreatLit0
set_option linter.unusedVariables false
set_option linter.unusedSimpArgs false
set_option linter.unnecessarySimpa false
namespace Go.Proofs.YtbljcmgjmieffaaGreat
open Go.RowKit

theorem run_eqNil {P:Program} {T E k:Nat} (hT:sliceB P T E k=true) (a:Option Addr) (n c:Nat) (w:World):(Op.equal T (.slice a n c) (.slice none 0 0)).run P w=.ok a.isNone w:=by
 have h:=(sliceB.out hT).1
 unfold Op.equal
 generalize hd:Op.maxDepth=d
 obtain⟨d,rfl⟩:∃ m,d=m+1:=⟨Op.maxDepth - 1,by rw [← hd]; rfl⟩
 clear hd
 cases a with
 | none=>rw [Op.equalIn]; simp [underlying,h]
 | some a=>rw [Op.equalIn]; simp [underlying,h]

/-- What comes of it, whether an empty slice is nil or not. -/
def nilB {α β:Type} [DecidableEq β] (xs:List α) (k:Bool→Option β):Option β:=
 match xs with
 | []=>if k true=k false then k false else none
 | _=>k false
theorem H55 {α β γ:Type} [DecidableEq β] {xs:List α} {k:Bool→Option β} {r:β} {f:α→γ} (h:nilB xs k=some r) (b:Bool) (hb:b=true→xs.map f=[]):k b=some r:=by
 cases xs with
 | nil=>
  have h:(if k true=k false then k false else none)=some r:=h
  by_cases e:k true=k false
  ·rw [if_pos e] at h
   cases b with
   | true=>rw [e]; exact h
   | false=>exact h
  ·rw [if_neg e] at h; cases h
 | cons x l=>
  cases b with
  | true=>have:=hb rfl; cases this
  | false=>exact h
section
variable {P:Program} {o:Oper} {l:Fr} {L:Loc}
theorem Hb9 {x:Operand} {T T' E k k':Nat} {xs:List AV} (hT:sliceB P T E k'=true) (ho:o.op=.binOp .eql T x (.const (.slice none 0 0)) T') (hx:J1 (ev l x)=some (k,xs)):Gn P o l L (fun u L'=>∃ b:Bool,(b=true→xs=[])∧u=BL b∧L'=L):=by
 intro a w β K Q hsat hf hK
 have hd:=(hf.ev x).J1 hx
 have key:∀ ao n c,a.eval x=.slice ao n c→(execOp a.eval o).run P w=.ok (.value (.bool ao.isNone)) w:=fun ao n c e=>by
  have e2:a.eval (.const (.slice none 0 0))=.slice none 0 0:=rfl
  simp [execOp,ho,eqGuard,binOp,e,e2,run_eqNil hT]
 generalize hv:a.eval x=v at hd
 cases hd with
 | nil h=>
  rename_i cap ao
  unfold Oper.wp
  rw [key _ _ _ hv]
  exact hK _ _ _ _ _ ⟨ao.isNone,fun _=>rfl,rfl,rfl⟩ hsat (Step.refl _ _ _) .sc
 | list vals hcap hm hk hS h=>
  unfold Oper.wp
  rw [key _ _ _ hv]
  exact hK _ _ _ _ _ ⟨false,fun e=>(by cases e),rfl,rfl⟩ hsat (Step.refl _ _ _) .sc
/-- A slice that the call may write is set to nil anew. -/
theorem A_vnil2 (i E k:Nat) {x:Operand} {ver:Nat} {xs:List AV} (ho:o.op=.assign x) (hx:ev l x=.sc (.slice none 0 0)) (hi:lk L i=some (.vec E k ver xs)):Gn P o l L (Is (.vec i (ver+1) k 0) ((i,.vec E k (ver+1) [])::L)):=by
 intro a w β K Q hsat hf hK
 have hv:=hf.ev x
 rw [hx] at hv
 have hr:(execOp a.eval o).run P w=.ok (.value (.slice none 0 0)) w:=by simp [execOp,ho,hv.inv_sc]
 unfold Oper.wp
 rw [hr]
 obtain⟨st,sat⟩:=Q9 (w':=w) (t:=E) (k:=k) (ver1:=ver+1) (xs':=[]) (ob':=none) hsat (.inr ⟨ver,xs,hi,by omega,fun e=>by omega⟩) rfl rfl ⟨rfl,Nat.le_refl _⟩ (Nat.le_refl _) (fun _ _ _=>rfl) (.inl rfl)
 exact hK _ _ _ w _ ⟨rfl,rfl⟩ (sat ⟨by simp,.inl ⟨rfl,rfl⟩⟩) st (.vec ⟨E,ver+1,[],by rw [Ga,if_pos rfl],Nat.le_refl _,fun _=>⟨rfl,.inl ⟨rfl,rfl,by simp [J0]⟩⟩⟩ rfl)
theorem A_vlit2 (i E k:Nat) {T ver:Nat} {xs:List AV} (ho:o.op=.buildSlice T 0 #[]) (hi:lk L i=some (.vec E k ver xs)) (hT:sliceB P T E k=true):Gn P o l L (Is (.vec i (ver+1) k 0) ((i,.vec E k (ver+1) [])::L)):=by
 intro a w β K Q hsat hf hK
 unfold Oper.wp
 rw [He6 (E:=E) (k:=k) ho hT]
 have hsz:w.heap.size < (w.alloc (.cells #[] E)).heap.size:=by simp
 obtain⟨st,sat⟩:=Q9 (w':=w.alloc (.cells #[] E)) (t:=E) (k:=k) (ver1:=ver+1) (xs':=[]) (ob':=some w.heap.size) hsat (.inr ⟨ver,xs,hi,by omega,fun e=>by omega⟩) rfl rfl ⟨rfl,Nat.le_refl _⟩ (Nat.le_of_lt hsz) (fun b hb _=>Hy w _ hb) (.inr (.inr ⟨_,rfl,Nat.le_refl _,hsz⟩))
 have hn:=heap_alloc_new w (.cells #[] E)
 exact hK _ _ _ _ _ ⟨rfl,rfl⟩ (sat ⟨by simp,.inr ⟨_,rfl,#[],hn,by simp,fun j u v hu=>by simp [flat] at hu⟩⟩) st (.vec ⟨E,ver+1,[],by rw [Ga,if_pos rfl],Nat.le_refl _,fun _=>⟨rfl,.inr ⟨w.heap.size,0,rfl,by simp [J0],Nat.le_refl _,Nat.zero_le _,by simp only [World.shape?,hn,Option.bind_some]; simp⟩⟩⟩ rfl)
end
end Go.Proofs.YtbljcmgjmieffaaGreat
set_option linter.unusedVariables false
set_option linter.unusedSimpArgs false
set_option linter.unnecessarySimpa false
namespace Go.Proofs.YtbljcmgjmieffaaGreat
open Go.RowKit

section
variable {P:Program} {o:Oper} {l:Fr} {L:Loc}
end
end Go.Proofs.YtbljcmgjmieffaaGreat
set_option linter.unusedSimpArgs false
set_option linter.unnecessarySimpa false
namespace Go.Proofs.YtbljcmgjmieffaaGreat
open Go.RowKit
set_option linter.unusedVariables false

section moves
variable {w w':World} {β:Gq} {L:Loc} {i t k ver1 hw1:Nat}
end moves

section ops
variable {P:Program} {N:Yg} {Q:Post} {o:Oper} {ops:Array Oper} {rest:List Oper} {l:Fr} {L:Loc}

end ops

section freeze
variable {P:Program} {N:Yg} {Q:Post} {l l':Fr} {L L':Loc}

inductive FrzN (i ver n:Nat) (pre:List AV) (last:AV) (ys:List AV) (ok:Nat→Bool):AV→AV→Prop
 | conv {u u':AV} (h:Conv ok u u'):FrzN i ver n pre last ys ok u u'
 | nst:FrzN i ver n pre last ys ok (.nst i ver n pre last) (.list 1 ys)
def Ha2 (i ver n:Nat) (pre:List AV) (last:AV) (ys:List AV) (ok:Nat→Bool) (l:Fr):Fr→Prop
 | []=>True
 | (t,u)::r=>FrzN i ver n pre last ys ok (look l t) u∧Ha2 i ver n pre last ys ok l r
theorem Ha2.get {i ver n:Nat} {pre:List AV} {last:AV} {ys:List AV} {ok:Nat→Bool} {l:Fr}:∀ {l':Fr},Ha2 i ver n pre last ys ok l l'→∀ t,FrzN i ver n pre last ys ok (look l t) (look l' t)
 | [],_,t=>.conv .junk
 | (s,u)::r,h,t=>by
  simp only [look]
  cases hb:Nat.beq s t with
  | true=>have:=Nat.eq_of_beq_eq_true hb; subst this; exact h.1
  | false=>exact Ha2.get h.2 t

end freeze

/-! ### Typed -/
section typed
variable {α:Type}
end typed
end Go.Proofs.YtbljcmgjmieffaaGreat
set_option linter.unusedSimpArgs false
set_option linter.unnecessarySimpa false
namespace Go.Proofs.YtbljcmgjmieffaaGreat
open Go.RowKit
set_option linter.unusedVariables false

section sound
variable {P:Program} {N:Yg} {ops:List Oper} {ws los his:List Nat} {Ls:List Loc} {l0:Fr} {val:Nat→AV}

end sound
end Go.Proofs.YtbljcmgjmieffaaGreat
set_option linter.unusedSimpArgs false
set_option linter.unnecessarySimpa false
namespace Go.Proofs.YtbljcmgjmieffaaGreat
open Go.RowKit
set_option linter.unusedVariables false

section typed
variable {P:Program} {N:Yg} {Q:Post} {o:Oper} {ops:Array Oper} {rest:List Oper} {l:Fr} {L:Loc} {α:Type}

end typed
end Go.Proofs.YtbljcmgjmieffaaGreat
