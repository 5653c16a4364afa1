/-
 Is a slice nil: known alone of one that has elements. Appending to a part from the front of a slice of the call's own,within what it holds: the cells behind are written over. A slice of slices of the call's own,whose last slice still grows. Drawn orders whose last operation,behind all the others,is given apart. The typed steps of slices of slices whose last slice grows. Slices with known cells behind them: made,cut,read beyond their length; values said in other words. Maps from which entries are deleted: the place in the list is the entry's birth,deleted entries stay as gaps.
-/
import Derived.Test.YtidpfkmbfgihlaaGreatLit0
import Derived.Test.YtidpfkmbfgihlaaGreatDraw2
set_option linter.unusedSimpArgs false
namespace Go.Proofs.YtidpfkmbfgihlaaGreat
open Go.RowKit

theorem Y49 {P:Program} {T E k:Nat} (hT:sliceB P T E k=true) (a:Option Addr) (n c:Nat) (w:World):(Op.equal T (.slice a n c) (.slice none 0 0)).run P w=.ok a.isNone w:=by
 have h:=(sliceB.out hT).1
 unfold Op.equal
 generalize hd:Op.maxDepth=d
 obtain⟨d,rfl⟩:∃ m,d=m+1:=⟨Op.maxDepth - 1,by rw [← hd]; rfl⟩
 clear hd
 cases a with
 | none=>rw [Op.equalIn]; simp [underlying,h]
 | some a=>rw [Op.equalIn]; simp [underlying,h]

def R76 {α β:Type} [DecidableEq β] (xs:List α) (k:Bool→Option β):Option β:=
 match xs with
 | []=>if k true=k false then k false else none
 | _=>k false
theorem H25 {α β γ:Type} [DecidableEq β] {xs:List α} {k:Bool→Option β} {r:β} {f:α→γ} (h:R76 xs k=some r) (b:Bool) (hb:b=true→xs.map f=[]):k b=some r:=by
 cases xs with
 | nil=>
  have h:(if k true=k false then k false else none)=some r:=h
  by_cases e:k true=k false
  ·rw [if_pos e] at h
   cases b with
   | true=>rw [e]; exact h
   | false=>exact h
  ·rw [if_neg e] at h; cases h
 | cons x l=>
  cases b with
  | true=>have:=hb rfl; cases this
  | false=>exact h
section
variable {P:Program} {o:Oper} {l:Fr} {L:Loc}
theorem Ha1 {x:Operand} {T T' E k k':Nat} {xs:List AV} (hT:sliceB P T E k'=true) (ho:o.op=.binOp .eql T x (.const (.slice none 0 0)) T') (hx:Qf (ev l x)=some (k,xs)):H0 P o l L (fun u L'=>∃ b:Bool,(b=true→xs=[])∧u=BL b∧L'=L):=by
 intro a w β K Q hsat hf hK
 have hd:=(hf.ev x).Qf hx
 have key:∀ ao n c,a.eval x=.slice ao n c→(execOp a.eval o).run P w=.ok (.value (.bool ao.isNone)) w:=fun ao n c e=>by
  have e2:a.eval (.const (.slice none 0 0))=.slice none 0 0:=rfl
  simp [execOp,ho,eqGuard,binOp,e,e2,Y49 hT]
 generalize hv:a.eval x=v at hd
 cases hd with
 | nil h=>
  rename_i cap ao
  unfold Oper.wp
  rw [key _ _ _ hv]
  exact hK _ _ _ _ _ ⟨ao.isNone,fun _=>rfl,rfl,rfl⟩ hsat (Step.refl _ _ _) .sc
 | list vals hcap hm hk hS h=>
  unfold Oper.wp
  rw [key _ _ _ hv]
  exact hK _ _ _ _ _ ⟨false,fun e=>(by cases e),rfl,rfl⟩ hsat (Step.refl _ _ _) .sc
theorem Q3d (i E k:Nat) {x:Operand} {ver:Nat} {xs:List AV} (ho:o.op=.assign x) (hx:ev l x=.sc (.slice none 0 0)) (hi:lk L i=some (.vec E k ver xs)):H0 P o l L (Is (.vec i (ver+1) k 0) ((i,.vec E k (ver+1) [])::L)):=by
 intro a w β K Q hsat hf hK
 have hv:=hf.ev x
 rw [hx] at hv
 have hr:(execOp a.eval o).run P w=.ok (.value (.slice none 0 0)) w:=by simp [execOp,ho,hv.inv_sc]
 unfold Oper.wp
 rw [hr]
 obtain⟨st,sat⟩:=Ru (w':=w) (t:=E) (k:=k) (ver1:=ver+1) (xs':=[]) (ob':=none) hsat (.inr ⟨ver,xs,hi,by omega,fun e=>by omega⟩) rfl rfl ⟨rfl,Nat.le_refl _⟩ (Nat.le_refl _) (fun _ _ _=>rfl) (.inl rfl)
 exact hK _ _ _ w _ ⟨rfl,rfl⟩ (sat ⟨by simp,.inl ⟨rfl,rfl⟩⟩) st (.vec ⟨E,ver+1,[],by rw [Gh,if_pos rfl],Nat.le_refl _,fun _=>⟨rfl,.inl ⟨rfl,rfl,by simp [upP]⟩⟩⟩ rfl)
theorem Q3e (i E k:Nat) {T ver:Nat} {xs:List AV} (ho:o.op=.buildSlice T 0 #[]) (hi:lk L i=some (.vec E k ver xs)) (hT:sliceB P T E k=true):H0 P o l L (Is (.vec i (ver+1) k 0) ((i,.vec E k (ver+1) [])::L)):=by
 intro a w β K Q hsat hf hK
 unfold Oper.wp
 rw [Q77 (E:=E) (k:=k) ho hT]
 have hsz:w.heap.size < (w.alloc (.cells #[] E)).heap.size:=by simp
 obtain⟨st,sat⟩:=Ru (w':=w.alloc (.cells #[] E)) (t:=E) (k:=k) (ver1:=ver+1) (xs':=[]) (ob':=some w.heap.size) hsat (.inr ⟨ver,xs,hi,by omega,fun e=>by omega⟩) rfl rfl ⟨rfl,Nat.le_refl _⟩ (Nat.le_of_lt hsz) (fun b hb _=>Q6 w _ hb) (.inr (.inr ⟨_,rfl,Nat.le_refl _,hsz⟩))
 have hn:=heap_alloc_new w (.cells #[] E)
 exact hK _ _ _ _ _ ⟨rfl,rfl⟩ (sat ⟨by simp,.inr ⟨_,rfl,#[],hn,by simp,fun j u v hu=>by simp [flat] at hu⟩⟩) st (.vec ⟨E,ver+1,[],by rw [Gh,if_pos rfl],Nat.le_refl _,fun _=>⟨rfl,.inr ⟨w.heap.size,0,rfl,by simp [upP],Nat.le_refl _,Nat.zero_le _,by simp only [World.shape?,hn,Option.bind_some]; simp⟩⟩⟩ rfl)
end
end Go.Proofs.YtidpfkmbfgihlaaGreat
namespace Go.Proofs.YtidpfkmbfgihlaaGreat
open Go.RowKit

section
variable {P:Program} {o:Oper} {l:Fr} {L:Loc}
end
end Go.Proofs.YtidpfkmbfgihlaaGreat
set_option linter.unusedSimpArgs false
namespace Go.Proofs.YtidpfkmbfgihlaaGreat
open Go.RowKit
set_option linter.unusedVariables false

section moves
variable {w w':World} {β:H4} {L:Loc} {i t k ver1 hw1:Nat}
end moves

section ops
variable {P:Program} {N:Cfg} {Q:Post} {o:Oper} {ops:Array Oper} {rest:List Oper} {l:Fr} {L:Loc}

end ops

section freeze
variable {P:Program} {N:Cfg} {Q:Post} {l l':Fr} {L L':Loc}

inductive Ye2 (i ver n:Nat) (pre:List AV) (last:AV) (ys:List AV) (ok:Nat→Bool):AV→AV→Prop
 | conv {u u':AV} (h:Conv ok u u'):Ye2 i ver n pre last ys ok u u'
 | nst:Ye2 i ver n pre last ys ok (.nst i ver n pre last) (.list 1 ys)
def Q22 (i ver n:Nat) (pre:List AV) (last:AV) (ys:List AV) (ok:Nat→Bool) (l:Fr):Fr→Prop
 | []=>True
 | (t,u)::r=>Ye2 i ver n pre last ys ok (look l t) u∧Q22 i ver n pre last ys ok l r
theorem Q22.get {i ver n:Nat} {pre:List AV} {last:AV} {ys:List AV} {ok:Nat→Bool} {l:Fr}:∀ {l':Fr},Q22 i ver n pre last ys ok l l'→∀ t,Ye2 i ver n pre last ys ok (look l t) (look l' t)
 | [],_,t=>.conv .junk
 | (s,u)::r,h,t=>by
  simp only [look]
  cases hb:Nat.beq s t with
  | true=>have:=Nat.eq_of_beq_eq_true hb; subst this; exact h.1
  | false=>exact Q22.get h.2 t

end freeze

/-! ### Typed -/
section typed
variable {α:Type}
end typed
end Go.Proofs.YtidpfkmbfgihlaaGreat
namespace Go.Proofs.YtidpfkmbfgihlaaGreat
open Go.RowKit
set_option linter.unusedVariables false

section sound
variable {P:Program} {N:Cfg} {ops:List Oper} {ws los his:List Nat} {Ls:List Loc} {l0:Fr} {val:Nat→AV}

end sound
end Go.Proofs.YtidpfkmbfgihlaaGreat
namespace Go.Proofs.YtidpfkmbfgihlaaGreat
open Go.RowKit
set_option linter.unusedVariables false

section typed
variable {P:Program} {N:Cfg} {Q:Post} {o:Oper} {ops:Array Oper} {rest:List Oper} {l:Fr} {L:Loc} {α:Type}

end typed
end Go.Proofs.YtidpfkmbfgihlaaGreat
namespace Go.Proofs.YtidpfkmbfgihlaaGreat
open Go.RowKit
set_option linter.unusedVariables false

inductive Cv:AV→AV→Prop
 | same {u:AV}:Cv u u
 | agg {cs ds:List AV} (hl:ds.length=cs.length) (h:∀ (j:Nat) u u',cs[j]? = some u→ds[j]? = some u'→Cv u u'):Cv (.agg cs) (.agg ds)
 | list {k:Nat} {xs ys:List AV} (hl:ys.length=xs.length) (hk:∀ (j:Nat) x y,xs[j]? = some x→ys[j]? = some y→y.cells.length=x.cells.length) (h:∀ (j:Nat) u u',(flat xs)[j]? = some u→(flat ys)[j]? = some u'→Cv u u'):Cv (.list k xs) (.list k ys)
 | lst {k:Nat} {xs ys zs:List AV} (h:Cv (.list k xs) (.list k ys)):Cv (.lst k xs zs) (.list k ys)
 | tail {k:Nat} {xs ys:List AV} (h:Cv (.list k xs) (.list k ys)):Cv (.list k xs) (.lst k ys [])
def CvL:List AV→List AV→Prop
 | [],[]=>True
 | u::r,u'::r'=>Cv u u'∧CvL r r'
 | _,_=>False
theorem CvL.len:∀ {cs ds:List AV},CvL cs ds→ds.length=cs.length
 | [],[],_=>rfl
 | _::_,_::_,h=>by rw [List.length_cons,List.length_cons,CvL.len h.2]
 | [],_::_,h=>h.elim
 | _::_,[],h=>h.elim
theorem CvL.get:∀ {cs ds:List AV},CvL cs ds→∀ (j:Nat) u u',cs[j]? = some u→ds[j]? = some u'→Cv u u'
 | [],[],_,j,u,u',h,_=>by simp at h
 | _::_,_::_,h,0,u,u',h1,h2=>by simp at h1 h2; subst h1 h2; exact h.1
 | _::_,_::_,h,j+1,u,u',h1,h2=>CvL.get h.2 j u u' (by simpa using h1) (by simpa using h2)
 | [],_::_,h,_,_,_,_,_=>h.elim
 | _::_,[],h,_,_,_,_,_=>h.elim
theorem CvL.append:∀ {cs ds cs' ds':List AV},CvL cs ds→CvL cs' ds'→CvL (cs++cs') (ds++ds')
 | [],[],_,_,_,h=>h
 | _::_,_::_,_,_,h,h'=>⟨h.1,CvL.append h.2 h'⟩
 | [],_::_,_,_,h,_=>h.elim
 | _::_,[],_,_,h,_=>h.elim
theorem CvL.refl:∀ cs:List AV,CvL cs cs
 | []=>trivial
 | _::r=>⟨.same,CvL.refl r⟩
section typed
variable {α β:Type} {f:α→AV} {g:β→AV} {k:Nat}
abbrev Ln (α:Type):=List α×List α
abbrev LT {α:Type} (k:Nat) (f:α→AV) (e:Ln α):AV:=.lst k (e.1.map f) (e.2.map f)
end typed

section ops
variable {P:Program} {N:Cfg} {o:Oper} {l:Fr} {L L':Loc} {u u':AV} {α:Type}
theorem D.cut {w:World} {S:Nat→Nat→Prop} {k n:Nat} {xs:List AV} {a:Option Addr} {len cap:Nat} (h:D w S (.list k xs) (.slice a len cap)) (hn:n≤xs.length) :
  D w S (.lst k (xs.take n) (xs.drop n)) (.slice (if cap=0 then a else a.map (·.add (0*k))) n cap):=by
 cases h with
 | nil h=>
  have:n=0:=by simpa using hn
  subst this
  simp only [List.take_nil,List.drop_nil]
  exact .lnil h
 | @list _ b off _ _ vals hcap hm hk hS h=>
  have e:(if cap=0 then some (⟨b,off,none⟩:Addr) else (some (⟨b,off,none⟩:Addr)).map (·.add (0*k)))=some ⟨b,off,none⟩:=by
   split <;> simp [Addr.add_lit]
  rw [e]
  have hl:(xs.take n).length=n:=by rw [List.length_take]; omega
  have:=D.lst (w:=w) (S:=S) (k:=k) (b:=b) (off:=off) (cap:=cap) (xs:=xs.take n) (ys:=xs.drop n) vals (by rw [← List.length_append,List.take_append_drop]; exact hcap) hm (by rw [List.take_append_drop]; exact hk) (by rw [List.take_append_drop]; exact hS) (by rw [List.take_append_drop]; exact h)
  rwa [hl] at this
theorem D.whole {w:World} {S:Nat→Nat→Prop} {k n:Nat} {xs ys:List AV} {a:Option Addr} {len cap:Nat} (h:D w S (.lst k xs ys) (.slice a len cap)) (hn:n≤xs.length+ys.length) :
  D w S (.list k ((xs++ys).take n)) (.slice (if cap=0 then a else a.map (·.add (0*k))) n cap)∧xs.length+ys.length≤cap:=by
 cases h with
 | lnil h=>
  have:n=0:=by simpa using hn
  subst this
  exact⟨.nil h,Nat.zero_le _⟩
 | @lst _ b off _ _ _ vals hcap hm hk hS h=>
  refine⟨?_,hcap⟩
  have e:(if cap=0 then some (⟨b,off,none⟩:Addr) else (some (⟨b,off,none⟩:Addr)).map (·.add (0*k)))=some ⟨b,off,none⟩:=by
   split <;> simp [Addr.add_lit]
  rw [e]
  have hl:((xs++ys).take n).length=n:=by rw [List.length_take,List.length_append]; omega
  have hfl:flat ((xs++ys).take n)=(flat (xs++ys)).take (n*k):=G77 hk n
  have:=D.list (w:=w) (S:=S) (k:=k) (b:=b) (off:=off) (cap:=cap) (xs:=(xs++ys).take n) vals (by omega) hm (fun x hx=>hk x (List.mem_of_mem_take hx)) (fun j hj=>hS j (by rw [hfl,List.length_take] at hj; omega)) (fun j u hu=>h j u (by
   rw [hfl,List.getElem?_take] at hu
   split at hu
   ·exact hu
   ·cases hu))
  rwa [hl] at this
end ops
end Go.Proofs.YtidpfkmbfgihlaaGreat
namespace Go.Proofs.YtidpfkmbfgihlaaGreat
open Go.RowKit

/-! ### The entries that are there yet -/
theorem H6f:∀ {es:List (Value×AV)} {vals:List Value} {i:Nat} {e:MapEntry},e∈Qm i es vals ↔ ∃ j p v,es[j]? = some p∧vals[j]? = some v∧isT p.2=false∧e=⟨p.1,v,i+j⟩
 | [],vals,i,e=>by simp [Qm]
 | p::es,[],i,e=>by simp [Qm]
 | p::es,v::vs,i,e=>by
  have ih:=H6f (es:=es) (vals:=vs) (i:=i+1) (e:=e)
  have shift:(∃ j p' v',es[j]? = some p'∧vs[j]? = some v'∧isT p'.2=false∧e=⟨p'.1,v',i+1+j⟩) ↔ ∃ j p' v',(p::es)[j+1]? = some p'∧(v::vs)[j+1]? = some v'∧isT p'.2=false∧e=⟨p'.1,v',i+(j+1)⟩:=by
   constructor
   ·rintro⟨j,p',v',h1,h2,h3,h4⟩; exact⟨j,p',v',by simpa using h1,by simpa using h2,h3,by rw [h4,Nat.add_assoc,Nat.add_comm 1 j]⟩
   ·rintro⟨j,p',v',h1,h2,h3,h4⟩; exact⟨j,p',v',by simpa using h1,by simpa using h2,h3,by rw [h4,Nat.add_assoc,Nat.add_comm 1 j]⟩
  cases hp:isT p.2 with
  | true=>
   simp only [Qm,hp,if_true]
   rw [ih,shift]
   constructor
   ·rintro⟨j,p',v',h⟩; exact⟨j+1,p',v',h⟩
   ·rintro⟨j,p',v',h1,h2,h3,h4⟩
    cases j with
    | zero=>simp at h1; subst h1; rw [hp] at h3; cases h3
    | succ j=>exact⟨j,p',v',h1,h2,h3,h4⟩
  | false=>
   simp only [Qm,hp,Bool.false_eq_true,if_false,List.mem_cons]
   rw [ih,shift]
   constructor
   ·rintro(h | ⟨j,p',v',h⟩)
    ·exact⟨0,p,v,rfl,rfl,hp,by simpa using h⟩
    ·exact⟨j+1,p',v',h⟩
   ·rintro⟨j,p',v',h1,h2,h3,h4⟩
    cases j with
    | zero=>simp at h1 h2; subst h1 h2; exact .inl (by simpa using h4)
    | succ j=>exact .inr ⟨j,p',v',h1,h2,h3,h4⟩
theorem J3e {es:List (Value×AV)} {vals:List Value} {i:Nat} {e:MapEntry} (h:e∈Qm i es vals):i≤e.born∧e.born < i+es.length:=by
 obtain⟨j,p,v,h1,_,_,rfl⟩:=H6f.1 h
 have:=(List.getElem?_eq_some_iff.1 h1).1
 exact⟨by show i≤i+j; omega,by show i+j < _; omega⟩
theorem G8d:∀ {es:List (Value×AV)} {vals:List Value} {i:Nat},(Qm i es vals).Pairwise (fun a b=>a.born < b.born)
 | [],vals,i=>by simp [Qm]
 | p::es,[],i=>by simp [Qm]
 | p::es,v::vs,i=>by
  have ih:=G8d (es:=es) (vals:=vs) (i:=i+1)
  cases hp:isT p.2 with
  | true=>simp only [Qm,hp,if_true]; exact ih
  | false=>
   simp only [Qm,hp,Bool.false_eq_true,if_false]
   exact List.pairwise_cons.2 ⟨fun e he=>by have:=(J3e he).1; show i < e.born; omega,ih⟩
theorem Jd6:∀ {es:List (Value×AV)} {vals:List Value} {i:Nat} (p:Value×AV) (v:Value),vals.length=es.length→isT p.2=false→Qm i (es++[p]) (vals++[v])=Qm i es vals++[⟨p.1,v,i+es.length⟩]
 | [],[],i,p,v,_,hp=>by simp [Qm,hp]
 | [],_::_,i,p,v,h,_=>by simp at h
 | _::_,[],i,p,v,h,_=>by simp at h
 | q::es,x::vs,i,p,v,h,hp=>by
  have ih:=Jd6 (es:=es) (vals:=vs) (i:=i+1) p v (by simpa using h) hp
  have e1:i+1+es.length=i+(q::es).length:=by simp; omega
  cases hq:isT q.2 with
  | true=>simp only [List.cons_append,Qm,hq,if_true]; rw [ih,e1]
  | false=>simp only [List.cons_append,Qm,hq,Bool.false_eq_true,if_false]; rw [ih,e1]
theorem R7b:∀ {es:List (Value×AV)} {vals:List Value} {i j:Nat} (k:Value),Qm i (es.set j (k,.tup [])) vals=(Qm i es vals).filter (fun e=>decide (e.born≠i+j))
 | [],vals,i,j,k=>by simp [Qm]
 | p::es,[],i,j,k=>by cases j <;> simp [Qm]
 | p::es,v::vs,i,0,k=>by
  have key:(Qm (i+1) es vs).filter (fun e=>decide (e.born≠i+0))=Qm (i+1) es vs:=List.filter_eq_self.2 fun e he=>by
   have:=(J3e he).1
   exact decide_eq_true (by omega)
  have ht:isT (AV.tup [])=true:=rfl
  cases hp:isT p.2 with
  | true=>simp only [List.set_cons_zero,Qm,hp,ht,if_true]; exact key.symm
  | false=>
   simp only [List.set_cons_zero,Qm,hp,ht,Bool.false_eq_true,if_false,if_true]
   rw [List.filter_cons_of_neg (by simp),key]
 | p::es,v::vs,i,j+1,k=>by
  have ih:=R7b (es:=es) (vals:=vs) (i:=i+1) (j:=j) k
  have e1:i+1+j=i+(j+1):=by omega
  rw [e1] at ih
  cases hp:isT p.2 with
  | true=>simp only [List.set_cons_succ,Qm,hp,if_true]; exact ih
  | false=>
   simp only [List.set_cons_succ,Qm,hp,Bool.false_eq_true,if_false]
   rw [List.filter_cons_of_pos (p:=fun e:MapEntry=>decide (e.born≠i+(j+1))) (decide_eq_true (show i≠i+(j+1) by omega)),ih]
theorem Y2a {l:List MapEntry} (hs:l.Pairwise (fun a b=>a.born < b.born)) {j q:Nat} {e e':MapEntry} (h:l[j]? = some e) (h':l[q]? = some e') (hb:e.born=e'.born):j=q:=by
 have hj:=(List.getElem?_eq_some_iff.1 h)
 have hq:=(List.getElem?_eq_some_iff.1 h')
 obtain⟨hj1,rfl⟩:=hj
 obtain⟨hq1,rfl⟩:=hq
 have hp:=List.pairwise_iff_getElem.1 hs
 rcases Nat.lt_trichotomy j q with h | h | h
 ·have:=hp j q hj1 hq1 h; omega
 ·exact h
 ·have:=hp q j hq1 hj1 h; omega
theorem Q12 {l:List MapEntry} (hs:l.Pairwise (fun a b=>a.born < b.born)) {j:Nat} {e:MapEntry} (h:l[j]? = some e) (f:MapEntry→MapEntry):l.modify j f=l.map (fun x=>if x.born=e.born then f x else x):=by
 apply List.ext_getElem?
 intro q
 rw [List.getElem?_modify,List.getElem?_map]
 cases hq:l[q]? with
 | none=>rfl
 | some y=>
  by_cases hjq:j=q
  ·subst hjq
   rw [h] at hq; cases hq
   simp
  ·have:y.born≠e.born:=fun hb=>hjq (Y2a hs h hq hb.symm)
   simp [hjq,this]
theorem Q94:∀ {l:List MapEntry},l.Pairwise (fun a b=>a.born < b.born)→∀ {j:Nat} {e:MapEntry},l[j]? = some e→l.eraseIdx j=l.filter (fun x=>decide (x.born≠e.born))
 | [],_,j,e,h=>by simp at h
 | x::r,hs,0,e,h=>by
  simp at h; subst h
  obtain⟨h1,_⟩:=List.pairwise_cons.1 hs
  rw [List.eraseIdx_zero,List.tail_cons,List.filter_cons_of_neg (by simp)]
  exact(List.filter_eq_self.2 fun y hy=>decide_eq_true (show y.born≠x.born by have:=h1 y hy; omega)).symm
 | x::r,hs,j+1,e,h=>by
  have h':r[j]? = some e:=by simpa using h
  obtain⟨h1,h2⟩:=List.pairwise_cons.1 hs
  have:=h1 e (List.mem_of_getElem? h')
  rw [List.eraseIdx_cons_succ,List.filter_cons_of_pos (p:=fun x:MapEntry=>decide (x.born≠e.born)) (decide_eq_true (show x.born≠e.born by omega)),Q94 h2 h']

/-! ### Typed -/
section plain
variable {κ ν:Type} [DecidableEq κ]
def R14 (l:List (Option (κ×ν))) (a:κ) (v:ν):List (Option (κ×ν)):=if G32 (l.filterMap id) a then l.map (Option.map fun p=>if p.1=a then (a,v) else p) else l++[some (a,v)]
def Rd9 (l:List (Option (κ×ν))) (a:κ):List (Option (κ×ν)):=l.map fun o=>o.bind fun p=>if p.1=a then none else some p
def H23 (l:List (Option (κ×ν))) (a:κ):Nat:=l.findIdx fun o=>match o with | some p=>decide (p.1=a) | none=>false
theorem Qdf (l:List (Option (κ×ν))) (a:κ) (v:ν):(R14 l a v).filterMap id=Gfc (l.filterMap id) a v:=by
 unfold R14 Gfc
 by_cases h:G32 (l.filterMap id) a=true
 ·rw [if_pos h,if_pos h]
  clear h
  induction l with
  | nil=>rfl
  | cons o r ih=>cases o <;> simp [ih]
 ·rw [if_neg h,if_neg h]; simp
theorem Qe4 (l:List (Option (κ×ν))) (a:κ):(Rd9 l a).filterMap id=(l.filterMap id).filter (fun p=>decide (p.1≠a)):=by
 unfold Rd9
 induction l with
 | nil=>rfl
 | cons o r ih=>
  cases o with
  | none=>simp at ih ⊢; exact ih
  | some p=>
   by_cases h:p.1=a
   ·simp [h] at ih ⊢; exact ih
   ·simp [h] at ih ⊢; exact ih
end plain
structure Gt (κ ν:Type) where
 l:List (Option (κ×ν))
 nd:((l.filterMap id).map (·.1)).Nodup
namespace Gt
variable {κ ν:Type} [DecidableEq κ]
def He (m:Gt κ ν):List (κ×ν):=m.l.filterMap id
def empty:Gt κ ν:=⟨[],List.nodup_nil⟩
def put (m:Gt κ ν) (a:κ) (v:ν):Gt κ ν:=⟨R14 m.l a v,by rw [Qdf]; exact He1 m.nd a v⟩
def del (m:Gt κ ν) (a:κ):Gt κ ν:=⟨Rd9 m.l a,by rw [Qe4]; exact m.nd.sublist (List.filter_sublist.map _)⟩
def get (m:Gt κ ν) (a:κ) (z:ν):ν:=(G2a m.He a).getD z
def has (m:Gt κ ν) (a:κ):Bool:=G32 m.He a
def size (m:Gt κ ν):Nat:=m.He.length
instance:Inhabited (Gt κ ν):=⟨empty⟩
end Gt
def tOf {κ ν:Type} (kv:κ→Value) (av:ν→AV) (l:List (Option (κ×ν))):List (Value×AV):=l.map fun o=>match o with | some p=>(kv p.1,av p.2) | none=>(.tuple #[],.tup [])
theorem H4b {κ ν:Type} [DecidableEq κ]:∀ {l:List (Option (κ×ν))},((l.filterMap id).map (·.1)).Nodup→∀ {q:Nat} {a:κ} {v:ν},l[q]? = some (some (a,v))→H23 l a=q∧G2a (l.filterMap id) a=some v∧G32 (l.filterMap id) a=true
 | [],_,q,a,v,h=>by simp at h
 | none::r,hn,q,a,v,h=>by
  cases q with
  | zero=>simp at h
  | succ q=>
   obtain⟨h1,h2,h3⟩:=H4b (l:=r) (by simpa using hn) (by simpa using h)
   refine⟨?_,by simpa using h2,by simpa using h3⟩
   unfold H23 at h1 ⊢
   rw [List.findIdx_cons]; simp [h1]
 | some (b,u)::r,hn,q,a,v,h=>by
  simp only [List.filterMap_cons_some (f:=id) rfl,id,List.map_cons,List.nodup_cons] at hn
  cases q with
  | zero=>
   simp at h; obtain⟨rfl,rfl⟩:=h
   exact⟨by simp [H23,List.findIdx_cons],by simp [G2a],by simp [G32]⟩
  | succ q=>
   have h':r[q]? = some (some (a,v)):=by simpa using h
   have hne:b≠a:=fun e=>hn.1 (by subst e; exact List.mem_map.2 ⟨(b,v),List.mem_filterMap.2 ⟨_,List.mem_of_getElem? h',rfl⟩,rfl⟩)
   obtain⟨h1,h2,h3⟩:=H4b (l:=r) hn.2 h'
   refine⟨?_,?_,?_⟩
   ·unfold H23 at h1 ⊢; rw [List.findIdx_cons]; simp [hne,h1]
   ·simp only [G2a] at h2 ⊢; simp [hne]; simpa using h2
   ·simp only [G32] at h3 ⊢; simp [hne]; simpa using h3
end Go.Proofs.YtidpfkmbfgihlaaGreat
