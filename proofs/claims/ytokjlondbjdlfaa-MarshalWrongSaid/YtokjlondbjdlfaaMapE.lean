/-
 Is a slice nil: Appending to a part from the front of a slice of the call's A slice of slices of the call's own,whose last slice still g Drawn orders whose last operation,behind all the others,is g The typed steps of slices of slices whose last slice grows. Slices with known cells behind them: Maps from which entries are deleted: Maps from which entries are deleted:
-/
import Derived.Test.YtokjlondbjdlfaaLit0
import Derived.Test.YtokjlondbjdlfaaMapM
set_option linter.unusedSimpArgs false
namespace Go.Proofs.Ytokjlondbjdlfaa
open Go.RowKit

theorem Q7e {P:Program} {T E k:Nat} (hT:sliceB P T E k=true) (a:Option Addr) (n c:Nat) (w:World):(Op.equal T (.slice a n c) (.slice none 0 0)).run P w=.ok a.isNone w:=by
 have h:=(sliceB.out hT).1
 unfold Op.equal
 generalize hd:Op.maxDepth=d
 obtain⟨d,rfl⟩:∃ m,d=m+1:=⟨Op.maxDepth - 1,by rw [← hd]; rfl⟩
 clear hd
 cases a with
 | none=>rw [Op.equalIn]; simp [underlying,h]
 | some a=>rw [Op.equalIn]; simp [underlying,h]

def Qfe {α β:Type} [DecidableEq β] (xs:List α) (k:Bool→Option β):Option β:=
 match xs with
 | []=>if k true=k false then k false else none
 | _=>k false
theorem Qb7 {α β γ:Type} [DecidableEq β] {xs:List α} {k:Bool→Option β} {r:β} {f:α→γ} (h:Qfe xs k=some r) (b:Bool) (hb:b=true→xs.map f=[]):k b=some r:=by
 cases xs with
 | nil=>
  have h:(if k true=k false then k false else none)=some r:=h
  by_cases e:k true=k false
  ·rw [if_pos e] at h
   cases b with
   | true=>rw [e]; exact h
   | false=>exact h
  ·rw [if_neg e] at h; cases h
 | cons x l=>
  cases b with
  | true=>have:=hb rfl; cases this
  | false=>exact h
section
variable {P:Program} {o:Oper} {l:Fr} {L:Loc}
theorem R25 {x:Operand} {T T' E k k':Nat} {xs:List AV} (hT:sliceB P T E k'=true) (ho:o.op=.binOp .eql T x (.const (.slice none 0 0)) T') (hx:Je (ev l x)=some (k,xs)):Gk P o l L (fun u L'=>∃ b:Bool,(b=true→xs=[])∧u=BL b∧L'=L):=by
 intro a w β K Q h0 hf hK
 have hd:=(hf.ev x).Je hx
 have key:∀ ao n c,a.eval x=.slice ao n c→(execOp a.eval o).run P w=.ok (.value (.bool ao.isNone)) w:=fun ao n c e=>by
  have e2:a.eval (.const (.slice none 0 0))=.slice none 0 0:=rfl
  simp [execOp,ho,eqGuard,binOp,e,e2,Q7e hT]
 generalize hv:a.eval x=v at hd
 cases hd with
 | nil h=>
  rename_i cap ao
  unfold Oper.wp
  rw [key _ _ _ hv]
  exact hK _ _ _ _ _ ⟨ao.isNone,fun _=>rfl,rfl,rfl⟩ h0 (Step.refl _ _ _) .sc
 | list vals h1 hm hk hS h=>
  unfold Oper.wp
  rw [key _ _ _ hv]
  exact hK _ _ _ _ _ ⟨false,fun e=>(by cases e),rfl,rfl⟩ h0 (Step.refl _ _ _) .sc
end

section
variable {P:Program} {o:Oper} {l:Fr} {L:Loc}
end
set_option linter.unusedVariables false

section moves
variable {w w':World} {β:Gw} {L:Loc} {i t k ver1 hw1:Nat}
end moves

section ops
variable {P:Program} {N:Cfg} {Q:Post} {o:Oper} {ops:Array Oper} {rest:List Oper} {l:Fr} {L:Loc}

end ops

section freeze
variable {P:Program} {N:Cfg} {Q:Post} {l l':Fr} {L L':Loc}

end freeze

/-! ### Typed -/
section typed
variable {α:Type}
end typed
set_option linter.unusedVariables false

section sound
variable {P:Program} {N:Cfg} {ops:List Oper} {ws los his:List Nat} {Ls:List Loc} {l0:Fr} {val:Nat→AV}

end sound
set_option linter.unusedVariables false

section typed
variable {P:Program} {N:Cfg} {Q:Post} {o:Oper} {ops:Array Oper} {rest:List Oper} {l:Fr} {L:Loc} {α:Type}

end typed
set_option linter.unusedVariables false

inductive Cv:AV→AV→Prop
 | same {u:AV}:Cv u u
 | agg {cs ds:List AV} (hl:ds.length=cs.length) (h:∀ (j:Nat) u u',cs[j]? = some u→ds[j]? = some u'→Cv u u'):Cv (.agg cs) (.agg ds)
 | list {k:Nat} {xs ys:List AV} (hl:ys.length=xs.length) (hk:∀ (j:Nat) x y,xs[j]? = some x→ys[j]? = some y→y.cells.length=x.cells.length) (h:∀ (j:Nat) u u',(flat xs)[j]? = some u→(flat ys)[j]? = some u'→Cv u u'):Cv (.list k xs) (.list k ys)
 | lst {k:Nat} {xs ys zs:List AV} (h:Cv (.list k xs) (.list k ys)):Cv (.lst k xs zs) (.list k ys)
 | tail {k:Nat} {xs ys:List AV} (h:Cv (.list k xs) (.list k ys)):Cv (.list k xs) (.lst k ys [])
def CvL:List AV→List AV→Prop
 | [],[]=>True
 | u::r,u'::r'=>Cv u u'∧CvL r r'
 | _,_=>False
theorem CvL.len:∀ {cs ds:List AV},CvL cs ds→ds.length=cs.length
 | [],[],_=>rfl
 | _::_,_::_,h=>by rw [Kc,Kc,CvL.len h.2]
 | [],_::_,h=>h.elim
 | _::_,[],h=>h.elim
theorem CvL.refl:∀ cs:List AV,CvL cs cs
 | []=>trivial
 | _::r=>⟨.same,CvL.refl r⟩
section typed
variable {α β:Type} {f:α→AV} {g:β→AV} {k:Nat}
abbrev Ln (α:Type):=List α×List α
abbrev LT {α:Type} (k:Nat) (f:α→AV) (e:Ln α):AV:=.lst k (e.1.map f) (e.2.map f)
end typed

section ops
variable {P:Program} {N:Cfg} {o:Oper} {l:Fr} {L L':Loc} {u u':AV} {α:Type}
theorem D.cut {w:World} {S:Nat→Nat→Prop} {k n:Nat} {xs:List AV} {a:Option Addr} {len cap:Nat} (h:D w S (.list k xs) (.slice a len cap)) (hn:n≤xs.length) :
  D w S (.lst k (xs.take n) (xs.drop n)) (.slice (if cap=0 then a else a.map (·.add (0*k))) n cap):=by
 cases h with
 | nil h=>
  have:n=0:=by simpa using hn
  subst this
  simp only [List.take_nil,List.drop_nil]
  exact .lnil h
 | @list _ b off _ _ vals h0 hm hk hS h=>
  have e:(if cap=0 then some (⟨b,off,none⟩:Addr) else (some (⟨b,off,none⟩:Addr)).map (·.add (0*k)))=some ⟨b,off,none⟩:=by
   split <;> simp [Addr.add_lit]
  rw [e]
  have hl:(xs.take n).length=n:=by rw [List.length_take]; omega
  have:=D.lst (w:=w) (S:=S) (k:=k) (b:=b) (off:=off) (cap:=cap) (xs:=xs.take n) (ys:=xs.drop n) vals (by rw [← Kg,List.take_append_drop]; exact h0) hm (by rw [List.take_append_drop]; exact hk) (by rw [List.take_append_drop]; exact hS) (by rw [List.take_append_drop]; exact h)
  rwa [hl] at this
theorem D.whole {w:World} {S:Nat→Nat→Prop} {k n:Nat} {xs ys:List AV} {a:Option Addr} {len cap:Nat} (h:D w S (.lst k xs ys) (.slice a len cap)) (hn:n≤xs.length+ys.length) :
  D w S (.list k ((xs++ys).take n)) (.slice (if cap=0 then a else a.map (·.add (0*k))) n cap)∧xs.length+ys.length≤cap:=by
 cases h with
 | lnil h=>
  have:n=0:=by simpa using hn
  subst this
  exact⟨.nil h,Nat.zero_le _⟩
 | @lst _ b off _ _ _ vals h1 hm hk hS h=>
  refine⟨?_,h1⟩
  have e:(if cap=0 then some (⟨b,off,none⟩:Addr) else (some (⟨b,off,none⟩:Addr)).map (·.add (0*k)))=some ⟨b,off,none⟩:=by
   split <;> simp [Addr.add_lit]
  rw [e]
  have hl:((xs++ys).take n).length=n:=by rw [List.length_take,Kg]; omega
  have h0:flat ((xs++ys).take n)=(flat (xs++ys)).take (n*k):=G22 hk n
  have:=D.list (w:=w) (S:=S) (k:=k) (b:=b) (off:=off) (cap:=cap) (xs:=(xs++ys).take n) vals (by omega) hm (fun x hx=>hk x (List.mem_of_mem_take hx)) (fun j hj=>hS j (by rw [h0,List.length_take] at hj; omega)) (fun j u hu=>h j u (by
   rw [h0,Ke] at hu
   split at hu
   ·exact hu
   ·cases hu))
  rwa [hl] at this
end ops

/-! ### The entries that are there yet -/
theorem Gb2:∀ {es:List (Value×AV)} {vals:List Value} {i:Nat} {e:MapEntry},e∈Jv i es vals ↔ ∃ j p v,es[j]? = some p∧vals[j]? = some v∧isT p.2=false∧e=⟨p.1,v,i+j⟩
 | [],vals,i,e=>by simp [Jv]
 | p::es,[],i,e=>by simp [Jv]
 | p::es,v::vs,i,e=>by
  have ih:=Gb2 (es:=es) (vals:=vs) (i:=i+1) (e:=e)
  have shift:(∃ j p' v',es[j]? = some p'∧vs[j]? = some v'∧isT p'.2=false∧e=⟨p'.1,v',i+1+j⟩) ↔ ∃ j p' v',(p::es)[j+1]? = some p'∧(v::vs)[j+1]? = some v'∧isT p'.2=false∧e=⟨p'.1,v',i+(j+1)⟩:=by
   constructor
   ·rintro⟨j,p',v',h1,h2,h3,h4⟩; exact⟨j,p',v',by simpa using h1,by simpa using h2,h3,by rw [h4,Nat.add_assoc,Nat.add_comm 1 j]⟩
   ·rintro⟨j,p',v',h1,h2,h3,h4⟩; exact⟨j,p',v',by simpa using h1,by simpa using h2,h3,by rw [h4,Nat.add_assoc,Nat.add_comm 1 j]⟩
  cases hp:isT p.2 with
  | true=>
   simp only [Jv,hp,if_true]
   rw [ih,shift]
   constructor
   ·rintro⟨j,p',v',h⟩; exact⟨j+1,p',v',h⟩
   ·rintro⟨j,p',v',h1,h2,h3,h4⟩
    cases j with
    | zero=>simp at h1; subst h1; rw [hp] at h3; cases h3
    | succ j=>exact⟨j,p',v',h1,h2,h3,h4⟩
  | false=>
   simp only [Jv,hp,Bool.false_eq_true,if_false,Kp]
   rw [ih,shift]
   constructor
   ·rintro(h | ⟨j,p',v',h⟩)
    ·exact⟨0,p,v,rfl,rfl,hp,by simpa using h⟩
    ·exact⟨j+1,p',v',h⟩
   ·rintro⟨j,p',v',h1,h2,h3,h4⟩
    cases j with
    | zero=>simp at h1 h2; subst h1 h2; exact .inl (by simpa using h4)
    | succ j=>exact .inr ⟨j,p',v',h1,h2,h3,h4⟩
theorem H4b {es:List (Value×AV)} {vals:List Value} {i:Nat} {e:MapEntry} (h:e∈Jv i es vals):i≤e.born∧e.born < i+es.length:=by
 obtain⟨j,p,v,h1,_,_,rfl⟩:=Gb2.1 h
 have:=(Ev h1).1
 exact⟨by show i≤i+j; omega,by show i+j < _; omega⟩
theorem G2e:∀ {es:List (Value×AV)} {vals:List Value} {i:Nat},(Jv i es vals).Pairwise (fun a b=>a.born < b.born)
 | [],vals,i=>by simp [Jv]
 | p::es,[],i=>by simp [Jv]
 | p::es,v::vs,i=>by
  have ih:=G2e (es:=es) (vals:=vs) (i:=i+1)
  cases hp:isT p.2 with
  | true=>simp only [Jv,hp,if_true]; exact ih
  | false=>
   simp only [Jv,hp,Bool.false_eq_true,if_false]
   exact List.pairwise_cons.2 ⟨fun e he=>by have:=(H4b he).1; show i < e.born; omega,ih⟩
theorem Hc1:∀ {es:List (Value×AV)} {vals:List Value} {i:Nat} (p:Value×AV) (v:Value),vals.length=es.length→isT p.2=false→Jv i (es++[p]) (vals++[v])=Jv i es vals++[⟨p.1,v,i+es.length⟩]
 | [],[],i,p,v,_,hp=>by simp [Jv,hp]
 | [],_::_,i,p,v,h,_=>by simp at h
 | _::_,[],i,p,v,h,_=>by simp at h
 | q::es,x::vs,i,p,v,h,hp=>by
  have ih:=Hc1 (es:=es) (vals:=vs) (i:=i+1) p v (by simpa using h) hp
  have e1:i+1+es.length=i+(q::es).length:=by simp; omega
  cases hq:isT q.2 with
  | true=>simp only [List.cons_append,Jv,hq,if_true]; rw [ih,e1]
  | false=>simp only [List.cons_append,Jv,hq,Bool.false_eq_true,if_false]; rw [ih,e1]
theorem Q60 {l:List MapEntry} (hs:l.Pairwise (fun a b=>a.born < b.born)) {j q:Nat} {e e':MapEntry} (h:l[j]? = some e) (h':l[q]? = some e') (hb:e.born=e'.born):j=q:=by
 have hj:=(Ev h)
 have hq:=(Ev h')
 obtain⟨h0,rfl⟩:=hj
 obtain⟨h1,rfl⟩:=hq
 have hp:=List.pairwise_iff_getElem.1 hs
 rcases Nat.lt_trichotomy j q with h | h | h
 ·have:=hp j q h0 h1 h; omega
 ·exact h
 ·have:=hp q j h1 h0 h; omega
theorem He0 {l:List MapEntry} (hs:l.Pairwise (fun a b=>a.born < b.born)) {j:Nat} {e:MapEntry} (h:l[j]? = some e) (f:MapEntry→MapEntry):l.modify j f=l.map (fun x=>if x.born=e.born then f x else x):=by
 apply List.ext_getElem?
 intro q
 rw [List.getElem?_modify,Kd]
 cases hq:l[q]? with
 | none=>rfl
 | some y=>
  by_cases h0:j=q
  ·subst h0
   rw [h] at hq; cases hq
   simp
  ·have:y.born≠e.born:=fun hb=>h0 (Q60 hs h hq hb.symm)
   simp [h0,this]
/-! ### Typed -/
section plain
variable {κ ν:Type} [DecidableEq κ]
def J7e (l:List (Option (κ×ν))) (a:κ) (v:ν):List (Option (κ×ν)):=if G00 (l.filterMap id) a then l.map (Option.map fun p=>if p.1=a then (a,v) else p) else l++[some (a,v)]
def G85 (l:List (Option (κ×ν))) (a:κ):Nat:=l.findIdx fun o=>match o with | some p=>decide (p.1=a) | none=>false
theorem J52 (l:List (Option (κ×ν))) (a:κ) (v:ν):(J7e l a v).filterMap id=G9d (l.filterMap id) a v:=by
 unfold J7e G9d
 by_cases h:G00 (l.filterMap id) a=true
 ·rw [if_pos h,if_pos h]
  clear h
  induction l with
  | nil=>rfl
  | cons o r ih=>cases o <;> simp [ih]
 ·rw [if_neg h,if_neg h]; simp
end plain
structure Hk (κ ν:Type) where
 l:List (Option (κ×ν))
 nd:((l.filterMap id).map (·.1)).Nodup
namespace Hk
variable {κ ν:Type} [DecidableEq κ]
def Hg (m:Hk κ ν):List (κ×ν):=m.l.filterMap id
def empty:Hk κ ν:=⟨[],List.nodup_nil⟩
def put (m:Hk κ ν) (a:κ) (v:ν):Hk κ ν:=⟨J7e m.l a v,by rw [J52]; exact H01 m.nd a v⟩
def get (m:Hk κ ν) (a:κ) (z:ν):ν:=(G23 m.Hg a).getD z
def has (m:Hk κ ν) (a:κ):Bool:=G00 m.Hg a
def size (m:Hk κ ν):Nat:=m.Hg.length
instance:Inhabited (Hk κ ν):=⟨empty⟩
end Hk
def tOf {κ ν:Type} (kv:κ→Value) (av:ν→AV) (l:List (Option (κ×ν))):List (Value×AV):=l.map fun o=>match o with | some p=>(kv p.1,av p.2) | none=>(.tuple #[],.tup [])
theorem G9a {κ ν:Type} [DecidableEq κ]:∀ {l:List (Option (κ×ν))},((l.filterMap id).map (·.1)).Nodup→∀ {q:Nat} {a:κ} {v:ν},l[q]? = some (some (a,v))→G85 l a=q∧G23 (l.filterMap id) a=some v∧G00 (l.filterMap id) a=true
 | [],_,q,a,v,h=>by simp at h
 | none::r,hn,q,a,v,h=>by
  cases q with
  | zero=>simp at h
  | succ q=>
   obtain⟨h1,h2,h3⟩:=G9a (l:=r) (by simpa using hn) (by simpa using h)
   refine⟨?_,by simpa using h2,by simpa using h3⟩
   unfold G85 at h1 ⊢
   rw [List.findIdx_cons]; simp [h1]
 | some (b,u)::r,hn,q,a,v,h=>by
  simp only [List.filterMap_cons_some (f:=id) rfl,id,List.map_cons,List.nodup_cons] at hn
  cases q with
  | zero=>
   simp at h; obtain⟨rfl,rfl⟩:=h
   exact⟨by simp [G85,List.findIdx_cons],by simp [G23],by simp [G00]⟩
  | succ q=>
   have h':r[q]? = some (some (a,v)):=by simpa using h
   have h0:b≠a:=fun e=>hn.1 (by subst e; exact Kn.2 ⟨(b,v),List.mem_filterMap.2 ⟨_,Ey h',rfl⟩,rfl⟩)
   obtain⟨h1,h2,h3⟩:=G9a (l:=r) hn.2 h'
   refine⟨?_,?_,?_⟩
   ·unfold G85 at h1 ⊢; rw [List.findIdx_cons]; simp [h0,h1]
   ·simp only [G23] at h2 ⊢; simp [h0]; simpa using h2
   ·simp only [G00] at h3 ⊢; simp [h0]; simpa using h3

theorem Hc0:∀ {es:List (Value×AV)} {vals:List Value} {i j:Nat} {p0:Value×AV} (k:Value) (u:AV) (x:Value),es[j]? = some p0→isT p0.2=false→isT u=false →
  Jv i (es.set j (k,u)) (vals.set j x)=(Jv i es vals).map (fun e=>if e.born=i+j then { e with key:=k,val:=x } else e)
 | [],vals,i,j,p0,k,u,x,h,_,_=>by simp at h
 | p::es,[],i,j,p0,k,u,x,h,_,_=>by cases j <;> simp [Jv]
 | p::es,v::vs,i,0,p0,k,u,x,h,h0,hu=>by
  simp at h; subst h
  have key:(Jv (i+1) es vs).map (fun e=>if e.born=i+0 then { e with key:=k,val:=x } else e)=Jv (i+1) es vs:=by
   conv=>rhs; rw [← List.map_id (Jv (i+1) es vs)]
   refine List.map_congr_left fun e he=>?_
   have:=(H4b he).1
   rw [if_neg (by omega)]; rfl
  simp only [List.set_cons_zero,Jv,h0,hu,Bool.false_eq_true,if_false,List.map_cons,Nat.add_zero,if_true]
  rw [Nat.add_zero] at key
  rw [key]
 | p::es,v::vs,i,j+1,p0,k,u,x,h,h0,hu=>by
  have ih:=Hc0 (es:=es) (vals:=vs) (i:=i+1) (j:=j) k u x (by simpa using h) h0 hu
  have e1:i+1+j=i+(j+1):=by omega
  rw [e1] at ih
  cases hp:isT p.2 with
  | true=>simp only [List.set_cons_succ,Jv,hp,if_true]; exact ih
  | false=>
   simp only [List.set_cons_succ,Jv,hp,Bool.false_eq_true,if_false,List.map_cons]
   rw [ih,if_neg (show ¬ i=i+(j+1) by omega)]

section typed
variable {P:Program} {κ ν:Type} [DecidableEq κ] {kv:κ→Value} {av:ν→AV} {L:Loc}
omit [DecidableEq κ] in
theorem R45 {l:List (Option (κ×ν))} {j:Nat} {k:Value} {u:AV} (h:(tOf kv av l)[j]? = some (k,u)) (hu:isT u=false):∃ p:κ×ν,l[j]? = some (some p)∧k=kv p.1∧u=av p.2:=by
 rw [tOf,Kd] at h
 cases hl:l[j]? with
 | none=>rw [hl] at h; cases h
 | some o=>
  rw [hl] at h
  cases o with
  | none=>simp at h; obtain⟨_,rfl⟩:=h; cases hu
  | some p=>simp at h; exact⟨p,rfl,h.1.symm,h.2.symm⟩
omit [DecidableEq κ] in
theorem Gf9 {l:List (Option (κ×ν))} {j:Nat} {p:κ×ν} (h:l[j]? = some (some p)):(tOf kv av l)[j]? = some (kv p.1,av p.2):=by rw [tOf,Kd,h]; rfl
omit [DecidableEq κ] in
theorem G81 (l:List (Option (κ×ν))):(tOf kv av l).length=l.length:=by simp [tOf]
theorem J9f {l:List (Option (κ×ν))} (hn:((l.filterMap id).map (·.1)).Nodup) {q:Nat} {a:κ} {v0:ν} (v:ν) (h:l[q]? = some (some (a,v0))):J7e l a v=l.set q (some (a,v)):=by
 obtain⟨h1,_,h3⟩:=G9a hn h
 unfold J7e
 rw [if_pos h3]
 apply List.ext_getElem?
 intro j
 rw [Kd,List.getElem?_set]
 by_cases e:q=j
 ·subst e
  have h0:=(Ev h).1
  rw [if_pos rfl,if_pos h0,h]; simp
 ·rw [if_neg e]
  cases hj:l[j]? with
  | none=>rfl
  | some o=>
   cases o with
   | none=>rfl
   | some p=>
    obtain⟨b,u⟩:=p
    by_cases e2:b=a
    ·subst e2
     have:=(G9a hn hj).1
     omega
    ·simp [e2]
omit [DecidableEq κ] in
theorem J1b {w:World} {S:Nat→Nat→Prop} {l:List (Option (κ×ν))} {vals:List Value} (hD:∀ (i:Nat) k u v,(tOf kv av l)[i]? = some (k,u)→vals[i]? = some v→isT u=false→D w S u v) {e:MapEntry} (hm:e∈Jv 0 (tOf kv av l) vals) :
  ∃ p:κ×ν,l[e.born]? = some (some p)∧e.key=kv p.1∧vals[e.born]? = some e.val∧D w S (av p.2) e.val:=by
 obtain⟨j,p,v,h1,h2,h3,rfl⟩:=Gb2.1 hm
 obtain⟨k,u⟩:=p
 obtain⟨p,g1,rfl,rfl⟩:=R45 h1 h3
 simp only [Nat.zero_add]
 exact⟨p,g1,rfl,h2,hD j _ _ v h1 h2 h3⟩
omit [DecidableEq κ] in
theorem H4f {w:World} {S:Nat→Nat→Prop} {K:Nat} {l:List (Option (κ×ν))} (hk:G56 P K kv) (h5:∀ x,isT (av x)=false) {vals:List Value} {Hg:Array MapEntry} (h0:vals.length=(tOf kv av l).length) (he:Hg=(Jv 0 (tOf kv av l) vals).toArray)
  (hD:∀ (i:Nat) k u v,(tOf kv av l)[i]? = some (k,u)→vals[i]? = some v→isT u=false→D w S u v) (a:κ) :
  ((Instr.findKey K (kv a) Hg.toList).run P w=.ok none w∧(∀ p∈l.filterMap id,p.1≠a))∨∃ j q e v,(Instr.findKey K (kv a) Hg.toList).run P w=.ok (some (j,e.val)) w∧Hg[j]? = some e∧(Jv 0 (tOf kv av l) vals)[j]? = some e∧e.born=q∧e.key=kv a∧l[q]? = some (some (a,v))∧vals[q]? = some e.val∧D w S (av v) e.val:=by
 have hl:Hg.toList=Jv 0 (tOf kv av l) vals:=by rw [he]
 rcases hk.find w a (Jv 0 (tOf kv av l) vals) (fun e hm=>by obtain⟨p,_,h,_⟩:=J1b hD hm; exact⟨p.1,h⟩) with ⟨h1,h2⟩ | ⟨j,e,h1,h2,h3⟩
 ·refine .inl ⟨by rw [hl]; exact h1,fun p hp e=>?_⟩
  obtain⟨o,ho,rfl⟩:∃ o,o∈l∧o=some p:=by
   obtain⟨o,ho,e⟩:=List.mem_filterMap.1 hp
   exact⟨o,ho,e⟩
  obtain⟨q,hq,e2⟩:=List.mem_iff_getElem.1 ho
  have hg:l[q]? = some (some p):=by rw [Ew hq,e2]
  have h6:q < vals.length:=by rw [h0,G81]; exact hq
  have h4:(⟨kv p.1,vals[q],0+q⟩:MapEntry)∈Jv 0 (tOf kv av l) vals:=Gb2.2 ⟨q,(kv p.1,av p.2),vals[q],Gf9 hg,by simp [h6],h5 p.2,rfl⟩
  exact h2 _ h4 (by rw [← e])
 ·have hm:=Ey h2
  obtain⟨p,g1,g2,g3,g4⟩:=J1b hD hm
  have ha:p.1=a:=hk.inj _ _ (g2.symm.trans h3)
  obtain⟨pa,pv⟩:=p
  simp only at ha; subst ha
  exact .inr ⟨j,e.born,e,pv,by rw [hl]; exact h1,by rw [he]; simpa using h2,h2,rfl,h3,g1,g3,g4⟩
def TP (T:Nat) (kv:κ→Value) (av:ν→AV) (m:Hk κ ν):J0:=.map (1000000+T) (tOf kv av m.l)
theorem Qc9 (T:Nat):Nat.blt (1000000+T) 1000000=false:=by
 rw [Bool.eq_false_iff]; intro h
 rw [Nat.blt_eq] at h; omega
omit [DecidableEq κ] in
theorem H9b {w:World} {β:Gw} {i b T:Nat} {m:Hk κ ν} (h4:Sat w β L) (hi:lk L i=some (TP T kv av m)) (hb:β i=some b) :
  ∃ (vals:List Value) (Hg:Array MapEntry),vals.length=(tOf kv av m.l).length∧Hg=(Jv 0 (tOf kv av m.l) vals).toArray∧w.heap[b]? = some (.map Hg m.l.length) ∧
   ∀ (i:Nat) k u v,(tOf kv av m.l)[i]? = some (k,u)→vals[i]? = some v→isT u=false→D w (J2 w β L) u v:=by
 obtain⟨b',h0,h⟩:=h4.obj i _ hi
 rw [hb] at h0; cases h0
 rcases h with ⟨h,_⟩ | ⟨_,vals,h1,h2,h3⟩
 ·rw [Qc9] at h; cases h
 ·exact⟨vals,_,h1,rfl,by rw [← G81 (kv:=kv) (av:=av)]; exact h2,h3⟩
def DM (kv:κ→Value) (av:ν→AV) (m:Hk κ ν):AV:=.dmap (tOf kv av m.l)
inductive J90 (L:Loc) (kv:κ→Value) (av:ν→AV) (m:Hk κ ν):AV→Prop
 | own {i T:Nat} (h:lk L i=some (TP T kv av m)):J90 L kv av m (.mp i)
 | data:J90 L kv av m (DM kv av m)
omit [DecidableEq κ] in
theorem D.tmap {w:World} {S:Nat→Nat→Prop} {m:Hk κ ν} {v:Value} (h:D w S (DM kv av m) v):∃ (b:Nat) (vals:List Value) (Hg:Array MapEntry),v=.map (some b)∧vals.length=(tOf kv av m.l).length∧Hg=(Jv 0 (tOf kv av m.l) vals).toArray∧w.heap[b]? = some (.map Hg m.l.length) ∧
   ∀ (i:Nat) k u v,(tOf kv av m.l)[i]? = some (k,u)→vals[i]? = some v→isT u=false→D w S u v:=by
 unfold DM at h
 cases h with
 | dmap vals h1 h2 h3 h4=>exact⟨_,vals,_,rfl,h1,rfl,by rw [← G81 (kv:=kv) (av:=av)]; exact h2,h4⟩
omit [DecidableEq κ] in
theorem V.tsrc {w:World} {β:Gw} {m:Hk κ ν} {u:AV} {v:Value} (h0:Sat w β L) (hm:J90 L kv av m u) (hv:V w β L u v):∃ (b:Nat) (vals:List Value) (Hg:Array MapEntry),v=.map (some b)∧vals.length=(tOf kv av m.l).length∧Hg=(Jv 0 (tOf kv av m.l) vals).toArray∧w.heap[b]? = some (.map Hg m.l.length) ∧
   ∀ (i:Nat) k u v,(tOf kv av m.l)[i]? = some (k,u)→vals[i]? = some v→isT u=false→D w (J2 w β L) u v:=by
 cases hm with
 | own hi=>
  obtain⟨b,hb,h2⟩:=hv.inv_mp
  obtain⟨vals,Hg,g1,g2,h1,g3⟩:=H9b h0 hi hb
  exact⟨b,vals,Hg,h2,g1,g2,h1,g3⟩
 | data=>
  cases hv with
  | data h=>exact h.tmap
omit [DecidableEq κ] in
theorem G2d {w:World} {β:Gw} {i b T:Nat} {m m':Hk κ ν} {vals':List Value} (h0:Sat w β L) (hi:lk L i=some (TP T kv av m)) (hb:β i=some b)
  (h4:vals'.length=(tOf kv av m'.l).length) (hD:∀ (i:Nat) k u v,(tOf kv av m'.l)[i]? = some (k,u)→vals'[i]? = some v→isT u=false→D w (J2 w β L) u v) {ents':Array MapEntry} {c:Nat} (he:ents'=(Jv 0 (tOf kv av m'.l) vals').toArray) (hc:c=m'.l.length) :
  let w':World:={ w with heap:=w.heap.setIfInBounds b (.map ents' c) }
  Sat w' β ((i,TP T kv av m')::L)∧Step w β L w' β ((i,TP T kv av m')::L):=by
 intro w'
 have h5:b < w.heap.size:=h0.bnd i b (by rw [hi]; rfl) hb
 have st:Step w β L w' β ((i,TP T kv av m')::L):=Step.change h0 hi hb rfl rfl rfl ⟨rfl,K0⟩ (H8d w b _) (fun k hk=>H42 w b k _ hk)
 exact⟨Sat.change h0 hi hb st (H8d w b _) (fun k hk=>H42 w b k _ hk) ⟨b,rfl,.inr ⟨Qc9 T,vals',h4,by rw [G81,← hc,← he]; exact Jb2 w b _ h5,fun j k u v h1 h2 h3=>(hD j k u v h1 h2 h3).mono st.stab⟩⟩,st⟩
end typed

section ops
variable {P:Program} {o:Oper} {l:Fr} {L:Loc} {u:AV} {κ ν:Type} {kv:κ→Value} {av:ν→AV}
theorem Q46 {vals:List Value} {l:List (Option (κ×ν))} {w:World} {S:Nat→Nat→Prop} {q:Nat} {a:κ} {v:ν} {x:Value}
  (hD:∀ (i:Nat) k u v,(tOf kv av l)[i]? = some (k,u)→vals[i]? = some v→isT u=false→D w S u v) (hx:D w S (av v) x) :
  ∀ (i:Nat) k u y,(tOf kv av (l.set q (some (a,v))))[i]? = some (k,u)→(vals.set q x)[i]? = some y→isT u=false→D w S u y:=fun i k u y h1 h2 h3=>by
 have e:tOf kv av (l.set q (some (a,v)))=(tOf kv av l).set q (kv a,av v):=by rw [tOf,List.map_set]; rfl
 rw [e,List.getElem?_set] at h1
 rw [List.getElem?_set] at h2
 by_cases hq:q=i
 ·rw [if_pos hq] at h1 h2
  split at h1
  ·split at h2
   ·cases h1; cases h2; exact hx
   ·cases h2
  ·cases h1
 ·rw [if_neg hq] at h1 h2
  exact hD i k u y h1 h2 h3
theorem J9c {vals:List Value} {l:List (Option (κ×ν))} {w:World} {S:Nat→Nat→Prop} {a:κ} {v:ν} {x:Value} (h0:vals.length=(tOf kv av l).length)
  (hD:∀ (i:Nat) k u v,(tOf kv av l)[i]? = some (k,u)→vals[i]? = some v→isT u=false→D w S u v) (hx:D w S (av v) x) :
  ∀ (i:Nat) k u y,(tOf kv av (l++[some (a,v)]))[i]? = some (k,u)→(vals++[x])[i]? = some y→isT u=false→D w S u y:=fun i k u y h1 h2 h3=>by
 have e:tOf kv av (l++[some (a,v)])=tOf kv av l++[(kv a,av v)]:=by simp [tOf]
 rw [e] at h1
 rcases En i vals.length with hi | hi
 ·rw [Kb (by omega)] at h1
  rw [Kb hi] at h2
  exact hD i k u y h1 h2 h3
 ·rw [Ka (by omega)] at h1
  rw [Ka hi] at h2
  rw [← h0] at h1
  cases hq:i - vals.length with
  | zero=>rw [hq] at h1 h2; simp at h1 h2; obtain⟨_,rfl⟩:=h1; subst h2; exact hx
  | succ n=>rw [hq] at h1; simp at h1
theorem H84 (i:Nat) {T:Nat} (kv:κ→Value) (av:ν→AV) (ho:o.op=.makeMap T none) (hi:lk L i=none):Gk P o l L (Is (.mp i) ((i,TP T kv av Hk.empty)::L)):=by
 intro a w β K Q h0 hf hK
 have hr:(execOp a.eval o).run P w=.ok (.value (.map (some w.heap.size))) (w.alloc (.map #[] 0)):=by
  simp [execOp,ho,Instr.makeMap]
 unfold Oper.wp
 rw [hr]
 exact hK _ _ _ _ (upP β i (some w.heap.size)) ⟨rfl,rfl⟩ (h0.alloc hi _ (fun hs=>⟨_,rfl,.inr ⟨Qc9 T,[],rfl,heap_alloc_new w _,fun i k u v he=>by simp [Hk.empty,tOf] at he⟩⟩)) (Step.alloc hi h0.bnd _) (.mp (t:=1000000+T) (es:=[]) (by simp [G8,TP,Hk.empty,tOf]) (by simp [upP]))
variable [DecidableEq κ]
theorem J78 {x y:Operand} {T K E:Nat} {ok:Bool} {m:Hk κ ν} {a:κ} (z0:ν) (zv:Value) (h5:∀ x,isT (av x)=false) (ho:o.op=.lookup T x y ok) (hm:J90 L kv av m (ev l x))
  (hx:ev l y=Qh (kv a)) (hk:G56 P K kv) (hT:Y4 P T K E=true) (hz:(P.info? E).bind (·.zero)=some zv) (h6:av z0=Qh zv) :
  Gk P o l L (Is (bif ok then .tup [av (m.get a z0),BL (m.has a)] else av (m.get a z0)) L):=
 H2 fun A w β h4 hf=>by
  obtain⟨b,vals,Hg,h0,g1,g2,h1,g3⟩:=(hf.ev x).tsrc h4 hm
  have h2:A.eval y=kv a:=H4c hf hx
  rcases H4f (P:=P) (w:=w) hk h5 g1 g2 g3 a with ⟨f1,f2⟩ | ⟨j,q,e,v,f1,f2,f3,f4,f5,f6,f7,f8⟩
  ·refine⟨if ok then .tuple #[zv,.bool false] else zv,?_,?_⟩
   ·simp only [execOp,ho,Instr.lookup,underlying,h0,h2,Sem.run_bind,run_program,Result.andThen_ok,Y4.out hT,Sem.run_pure,Jy h1,hk.check,f1,H8e hz]
   ·unfold Hk.get Hk.has Hk.Hg
    rw [J61 f2,H03 f2]
    have h3:V w β L (av z0) zv:=by rw [h6]; exact .data (G82 zv)
    cases ok
    ·exact h3
    ·refine .tup rfl fun j u v hu hv=>?_
     match j with
     | 0=>simp at hu hv; subst hu; subst hv; exact h3
     | 1=>simp at hu hv; subst hu; subst hv; exact .sc
     | j+2=>simp at hu
  ·refine⟨if ok then .tuple #[e.val,.bool true] else e.val,?_,?_⟩
   ·simp only [execOp,ho,Instr.lookup,underlying,h0,h2,Sem.run_bind,run_program,Result.andThen_ok,Y4.out hT,Sem.run_pure,Jy h1,hk.check,f1]
   ·unfold Hk.get Hk.has Hk.Hg
    obtain⟨_,k2,k3⟩:=G9a m.nd f6
    rw [k2,k3]
    cases ok
    ·exact .data f8
    ·refine .tup rfl fun j u v' hu hv=>?_
     match j with
     | 0=>simp at hu hv; subst hu; subst hv; exact .data f8
     | 1=>simp at hu hv; subst hu; subst hv; exact .sc
     | j+2=>simp at hu
theorem J3e {x y:Operand} {T K E:Nat} {m:Hk κ ν} {a:κ} (z0:ν) (zv:Value) (h0:∀ x,isT (av x)=false) (ho:o.op=.lookup T x y false) (hm:J90 L kv av m (ev l x))
  (hx:ev l y=Qh (kv a)) (hk:G56 P K kv) (hT:Y4 P T K E=true) (hz:(P.info? E).bind (·.zero)=some zv) (h1:av z0=Qh zv) :
  Gk P o l L (Is (av (m.get a z0)) L):=J78 (ok:=false) z0 zv h0 ho hm hx hk hT hz h1
theorem H85 {x y:Operand} {T K E:Nat} {m:Hk κ ν} {a:κ} (z0:ν) (zv:Value) (h0:∀ x,isT (av x)=false) (ho:o.op=.lookup T x y true) (hm:J90 L kv av m (ev l x))
  (hx:ev l y=Qh (kv a)) (hk:G56 P K kv) (hT:Y4 P T K E=true) (hz:(P.info? E).bind (·.zero)=some zv) (h1:av z0=Qh zv) :
  Gk P o l L (Is (.tup [av (m.get a z0),BL (m.has a)]) L):=J78 (ok:=true) z0 zv h0 ho hm hx hk hT hz h1
theorem J2b (l:List MapEntry) (j:Nat) (f:MapEntry→MapEntry):l.toArray.modify j f=(l.modify j f).toArray:=by
 apply Array.ext'
 simp
theorem H10 {x y z:Operand} {T K E i:Nat} {m:Hk κ ν} {a:κ} {v:ν} (h3:∀ x,isT (av x)=false) (ho:o.op=.mapUpdate T x y z) (hm:ev l x=.mp i) (hi:lk L i=some (TP T kv av m))
  (hx:ev l y=Qh (kv a)) (hy:(ev l z).plain=av v) (h8:(av v).isData=true) (hk:G56 P K kv) (hT:Y4 P T K E=true) :
  Gk P o l L (Is .junk ((i,TP T kv av (m.put a v))::L)):=by
 intro A w β KK Q h2 hf hK
 have hv:=hf.ev x
 rw [hm] at hv
 obtain⟨b,hb,h4⟩:=hv.inv_mp
 obtain⟨vals,Hg,g1,g2,h1,g3⟩:=H9b h2 hi hb
 have h5:A.eval y=kv a:=H4c hf hx
 have h6:=(hf.ev z).plain
 rw [hy] at h6
 have h7:=h6.toD h8
 rcases H4f (P:=P) (w:=w) hk h3 g1 g2 g3 a with ⟨f1,f2⟩ | ⟨j,q,e,v0,f1,f2,f3,f4,f5,f6,f7,f8⟩
 ·have hr:(execOp A.eval o).run P w=.ok .skip { w with heap:=w.heap.setIfInBounds b (.map (Hg.push { key:=kv a,val:=A.eval z,born:=m.l.length }) (m.l.length+1)) }:=by
   simp only [execOp,ho,Instr.mapUpdate,underlying,h4,h5,Sem.run_bind,run_program,Result.andThen_ok,Y4.out hT,Sem.run_pure,Jy h1,hk.check,f1,Yy h1]
  unfold Oper.wp
  rw [hr]
  have hp:(m.put a v).l=m.l++[some (a,v)]:=by show J7e m.l a v=_; unfold J7e; rw [H03 f2]; rfl
  have h0:tOf kv av (m.l++[some (a,v)])=tOf kv av m.l++[(kv a,av v)]:=by simp [tOf]
  obtain⟨s1,s2⟩:=G2d h2 hi hb (m':=m.put a v) (vals':=vals++[A.eval z]) (by rw [hp,h0]; simp [g1]) (by rw [hp]; exact J9c g1 g3 h7) (ents':=Hg.push { key:=kv a,val:=A.eval z,born:=m.l.length }) (c:=m.l.length+1) (by
   rw [hp,h0,Hc1 _ _ g1 (h3 v),g2,G81]; simp) (by rw [hp]; simp)
  exact hK _ _ _ _ β ⟨rfl,rfl⟩ s1 s2 .junk
 ·have h9:=hk.stays w a
  have hr:(execOp A.eval o).run P w=.ok .skip { w with heap:=w.heap.setIfInBounds b (.map (Hg.modify j fun e=>{ e with key:=kv a,val:=A.eval z }) m.l.length) }:=by
   have a0:((Hg[j]?).map (·.key)).getD (kv a)=kv a:=by rw [f2]; exact f5
   simp only [execOp,ho,Instr.mapUpdate,underlying,h4,h5,Sem.run_bind,run_program,Result.andThen_ok,Y4.out hT,Sem.run_pure,Jy h1,hk.check,f1,a0,h9,Yy h1]
  unfold Oper.wp
  rw [hr]
  have hp:(m.put a v).l=m.l.set q (some (a,v)):=J9f m.nd v f6
  have h0:tOf kv av (m.l.set q (some (a,v)))=(tOf kv av m.l).set q (kv a,av v):=by rw [tOf,List.map_set]; rfl
  obtain⟨s1,s2⟩:=G2d h2 hi hb (m':=m.put a v) (vals':=vals.set q (A.eval z)) (by rw [hp,h0]; simp [g1]) (by rw [hp]; exact Q46 g3 h7) (ents':=Hg.modify j fun e=>{ e with key:=kv a,val:=A.eval z }) (c:=m.l.length) (by
   rw [hp,h0,Hc0 _ _ _ (Gf9 f6) (h3 v0) (h3 v),g2,J2b,He0 G2e f3,Nat.zero_add,f4]) (by rw [hp]; simp)
  exact hK _ _ _ _ β ⟨rfl,rfl⟩ s1 s2 .junk
end ops
end Go.Proofs.Ytokjlondbjdlfaa
