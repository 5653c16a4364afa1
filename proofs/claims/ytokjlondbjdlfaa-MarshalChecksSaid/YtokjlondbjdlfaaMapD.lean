/-
 Is a slice nil: Appending to a part from the front of a slice of the call's A slice of slices of the call's own,whose last slice still g Drawn orders whose last operation,behind all the others,is g The typed steps of slices of slices whose last slice grows. Slices with known cells behind them: Maps from which entries are deleted:
-/
import Derived.Test.YtokjlondbjdlfaaLit0
import Derived.Test.YtokjlondbjdlfaaMapM
set_option linter.unusedSimpArgs false
namespace Go.Proofs.Ytokjlondbjdlfaa
open Go.RowKit

theorem Q16 {P:Program} {T E k:Nat} (hT:sliceB P T E k=true) (a:Option Addr) (n c:Nat) (w:World):(Op.equal T (.slice a n c) (.slice none 0 0)).run P w=.ok a.isNone w:=by
 have h:=(sliceB.out hT).1
 unfold Op.equal
 generalize hd:Op.maxDepth=d
 obtain⟨d,rfl⟩:∃ m,d=m+1:=⟨Op.maxDepth - 1,by rw [← hd]; rfl⟩
 clear hd
 cases a with
 | none=>rw [Op.equalIn]; simp [underlying,h]
 | some a=>rw [Op.equalIn]; simp [underlying,h]

def Q8b {α β:Type} [DecidableEq β] (xs:List α) (k:Bool→Option β):Option β:=
 match xs with
 | []=>if k true=k false then k false else none
 | _=>k false
theorem Q48 {α β γ:Type} [DecidableEq β] {xs:List α} {k:Bool→Option β} {r:β} {f:α→γ} (h:Q8b xs k=some r) (b:Bool) (hb:b=true→xs.map f=[]):k b=some r:=by
 cases xs with
 | nil=>
  have h:(if k true=k false then k false else none)=some r:=h
  by_cases e:k true=k false
  ·rw [if_pos e] at h
   cases b with
   | true=>rw [e]; exact h
   | false=>exact h
  ·rw [if_neg e] at h; cases h
 | cons x l=>
  cases b with
  | true=>have:=hb rfl; cases this
  | false=>exact h
section
variable {P:Program} {o:Oper} {l:Fr} {L:Loc}
theorem Qae {x:Operand} {T T' E k k':Nat} {xs:List AV} (hT:sliceB P T E k'=true) (ho:o.op=.binOp .eql T x (.const (.slice none 0 0)) T') (hx:J9 (ev l x)=some (k,xs)):Gj P o l L (fun u L'=>∃ b:Bool,(b=true→xs=[])∧u=BL b∧L'=L):=by
 intro a w β K Q h0 hf hK
 have hd:=(hf.ev x).J9 hx
 have key:∀ ao n c,a.eval x=.slice ao n c→(execOp a.eval o).run P w=.ok (.value (.bool ao.isNone)) w:=fun ao n c e=>by
  have e2:a.eval (.const (.slice none 0 0))=.slice none 0 0:=rfl
  simp [execOp,ho,eqGuard,binOp,e,e2,Q16 hT]
 generalize hv:a.eval x=v at hd
 cases hd with
 | nil h=>
  rename_i cap ao
  unfold Oper.wp
  rw [key _ _ _ hv]
  exact hK _ _ _ _ _ ⟨ao.isNone,fun _=>rfl,rfl,rfl⟩ h0 (Step.refl _ _ _) .sc
 | list vals h1 hm hk hS h=>
  unfold Oper.wp
  rw [key _ _ _ hv]
  exact hK _ _ _ _ _ ⟨false,fun e=>(by cases e),rfl,rfl⟩ h0 (Step.refl _ _ _) .sc
end

section
variable {P:Program} {o:Oper} {l:Fr} {L:Loc}
end
set_option linter.unusedVariables false

section moves
variable {w w':World} {β:Gt} {L:Loc} {i t k ver1 hw1:Nat}
end moves

section ops
variable {P:Program} {N:Cfg} {Q:Post} {o:Oper} {ops:Array Oper} {rest:List Oper} {l:Fr} {L:Loc}

end ops

section freeze
variable {P:Program} {N:Cfg} {Q:Post} {l l':Fr} {L L':Loc}

end freeze

/-! ### Typed -/
section typed
variable {α:Type}
end typed
set_option linter.unusedVariables false

section sound
variable {P:Program} {N:Cfg} {ops:List Oper} {ws los his:List Nat} {Ls:List Loc} {l0:Fr} {val:Nat→AV}

end sound
set_option linter.unusedVariables false

section typed
variable {P:Program} {N:Cfg} {Q:Post} {o:Oper} {ops:Array Oper} {rest:List Oper} {l:Fr} {L:Loc} {α:Type}

end typed
set_option linter.unusedVariables false

inductive Cv:AV→AV→Prop
 | same {u:AV}:Cv u u
 | agg {cs ds:List AV} (hl:ds.length=cs.length) (h:∀ (j:Nat) u u',cs[j]? = some u→ds[j]? = some u'→Cv u u'):Cv (.agg cs) (.agg ds)
 | list {k:Nat} {xs ys:List AV} (hl:ys.length=xs.length) (hk:∀ (j:Nat) x y,xs[j]? = some x→ys[j]? = some y→y.cells.length=x.cells.length) (h:∀ (j:Nat) u u',(flat xs)[j]? = some u→(flat ys)[j]? = some u'→Cv u u'):Cv (.list k xs) (.list k ys)
 | lst {k:Nat} {xs ys zs:List AV} (h:Cv (.list k xs) (.list k ys)):Cv (.lst k xs zs) (.list k ys)
 | tail {k:Nat} {xs ys:List AV} (h:Cv (.list k xs) (.list k ys)):Cv (.list k xs) (.lst k ys [])
theorem D.list_lst {w:World} {S:Nat→Nat→Prop} {k:Nat} {xs:List AV} {v:Value} (h:D w S (.list k xs) v):D w S (.lst k xs []) v:=by
 cases h with
 | nil h=>exact .lnil h
 | list vals h0 hm hk hS h=>exact .lst vals (by simpa using h0) hm (by simpa using hk) (by simpa using hS) (by simpa using h)
theorem D.cv {w:World} {S:Nat→Nat→Prop} {u u':AV} (hc:Cv u u'):∀ {v:Value},D w S u v→D w S u' v:=by
 induction hc with
 | same=>exact fun h=>h
 | agg hl _ ih=>
  intro v h
  cases h with
  | agg h3 h=>
   refine .agg (by rw [h3,hl]) (fun j u' x h0 hx=>?_)
   have hj:=(Ex h0).1
   exact ih j _ u' (Ey (by omega)) h0 (h j _ x (Ey (by omega)) hx)
 | @list k xs ys hl hk _ ih=>
  intro v h
  cases h with
  | nil h=>
   have:ys=[]:=Em (by simpa using hl)
   subst this; exact .nil h
  | list vals h4 hm h1 hS h=>
   have h2:∀ y∈ys,y.cells.length=k:=fun y hy=>by
    obtain⟨j,hj⟩:=List.mem_iff_getElem?.1 hy
    have h5:=(Ex hj).1
    have hx:xs[j]? = some (xs[j]'(by omega)):=Ey (by omega)
    rw [hk j _ y hx hj]
    exact h1 _ (K0 hx)
   have h6:(flat ys).length=(flat xs).length:=by rw [Hg h2,Hg h1,hl]
   rw [← hl]
   refine .list vals (by omega) hm h2 (fun j hj=>hS j (by omega)) (fun j u' h0=>?_)
   have hj:=(Ex h0).1
   exact ih j _ u' (Ey (by omega)) h0 (h j _ (Ey (by omega)))
 | lst _ ih=>exact fun h=>ih h.lst_list
 | tail _ ih=>exact fun h=>(ih h).list_lst
theorem V.cv {w:World} {β:Gt} {L:Loc} {u u':AV} (hc:Cv u u'):∀ {v:Value},V w β L u v→V w β L u' v:=by
 induction hc with
 | same=>exact fun h=>h
 | agg hl _ ih=>
  intro v h
  obtain⟨vs,rfl,h1,h⟩:=h.inv_agg
  refine .agg (by rw [h1,hl]) (fun j u' x h0 hx=>?_)
  have hj:=(Ex h0).1
  exact ih j _ u' (Ey (by omega)) h0 (h j _ x (Ey (by omega)) hx)
 | list hl hk h=>exact fun hv=>.data (D.cv (.list hl hk h) hv.inv_list)
 | lst h=>exact fun hv=>by cases hv with | data hv=>exact .data (D.cv (.lst h) hv)
 | tail h=>exact fun hv=>.data (D.cv (.tail h) hv.inv_list)

def CvL:List AV→List AV→Prop
 | [],[]=>True
 | u::r,u'::r'=>Cv u u'∧CvL r r'
 | _,_=>False
theorem CvL.len:∀ {cs ds:List AV},CvL cs ds→ds.length=cs.length
 | [],[],_=>rfl
 | _::_,_::_,h=>by rw [Ke,Ke,CvL.len h.2]
 | [],_::_,h=>h.elim
 | _::_,[],h=>h.elim
theorem CvL.get:∀ {cs ds:List AV},CvL cs ds→∀ (j:Nat) u u',cs[j]? = some u→ds[j]? = some u'→Cv u u'
 | [],[],_,j,u,u',h,_=>by simp at h
 | _::_,_::_,h,0,u,u',h1,h2=>by simp at h1 h2; subst h1 h2; exact h.1
 | _::_,_::_,h,j+1,u,u',h1,h2=>CvL.get h.2 j u u' (by simpa using h1) (by simpa using h2)
 | [],_::_,h,_,_,_,_,_=>h.elim
 | _::_,[],h,_,_,_,_,_=>h.elim
theorem CvL.append:∀ {cs ds cs' ds':List AV},CvL cs ds→CvL cs' ds'→CvL (cs++cs') (ds++ds')
 | [],[],_,_,_,h=>h
 | _::_,_::_,_,_,h,h'=>⟨h.1,CvL.append h.2 h'⟩
 | [],_::_,_,_,h,_=>h.elim
 | _::_,[],_,_,h,_=>h.elim
theorem Cv.aggL {cs ds:List AV} (h:CvL cs ds):Cv (.agg cs) (.agg ds):=.agg h.len h.get
section typed
variable {α β:Type} {f:α→AV} {g:β→AV} {k:Nat}
abbrev Ln (α:Type):=List α×List α
abbrev LT {α:Type} (k:Nat) (f:α→AV) (e:Ln α):AV:=.lst k (e.1.map f) (e.2.map f)
theorem Cv.listM (p:α→β) (h:∀ x,CvL (f x).cells (g (p x)).cells) (xs:List α):Cv (LS k f xs) (LS k g (xs.map p)):=by
 refine .list (by simp) (fun j x y hx hy=>?_) ?_
 ·rw [Kf] at hx hy
  rw [Kf] at hy
  cases hz:xs[j]? with
  | none=>rw [hz] at hx; cases hx
  | some z=>rw [hz] at hx hy; cases hx; cases hy; exact(h z).len
 ·have:CvL (flat (xs.map f)) (flat ((xs.map p).map g)):=by
   induction xs with
   | nil=>trivial
   | cons x xs ih=>exact(h x).append ih
  exact this.get
theorem Cv.lstM (p:α→β) (h:∀ x,CvL (f x).cells (g (p x)).cells) (e:Ln α):Cv (LT k f e) (LS k g (e.1.map p)):=.lst (.listM p h e.1)
theorem Cv.lst0 (e:Ln α):Cv (LT k f e) (LS k f e.1):=.lst .same
theorem Cv.of0 (xs:List α):Cv (LS k f xs) (LT k f (xs,[])):=.tail .same
end typed

section ops
variable {P:Program} {N:Cfg} {o:Oper} {l:Fr} {L L':Loc} {u u':AV} {α:Type}
theorem Gj.cv (hc:Cv u u') (h:Gj P o l L (Is u L')):Gj P o l L (Is u' L'):=fun a w β K Q hs hf hK=>h a w β K Q hs hf (fun v L'' x w' β' hr h0 h1 hv=>by
 obtain⟨rfl,rfl⟩:=hr
 exact hK _ _ _ _ _ ⟨rfl,rfl⟩ h0 h1 (hv.cv hc))
theorem J2e (i:Nat) {x y:Operand} {T E k by_ c:Nat} {kd kd':IntKind} {nx ny:Int} (ho:o.op=.makeSlice T x y) (hx:ev l x=.sc (.int kd nx)) (hy:ev l y=.sc (.int kd' ny)) (hi:lk L i=none)
  (hT:sliceB P T E k=true) (hE:Qb P E k by_=true) (h0:nx=0) (hm:ny=(c:Int)) (hb:decide (by_*c≤281474976710656∧c≤maxLen)=true):Gj P o l L (Is (.own i 0 k []) ((i,.spare E k 0 0)::L)):=by
 subst h0 hm
 intro a w β K Q h4 hf hK
 have h1:=Es hb
 obtain⟨inf,zv,e1,e2,e3,e4,e5,e6⟩:=Qb.out hE
 have h2:=hf.ev x
 rw [hx] at h2
 have h3:=hf.ev y
 rw [hy] at h3
 have h5:(c:Int)≤9223372036854775807:=by
  have h:=h1.2
  simp [maxLen] at h
  omega
 have h7:(inf.bytes:Int)*(c:Int)≤281474976710656:=by
  have h:((inf.bytes*c:Nat):Int)≤281474976710656:=by rw [e3]; have:=h1.1; omega
  rwa [Int.natCast_mul] at h
 have hr:=run_make (P:=P) w T E inf zv (sliceB.out hT).1 e1 e4 kd kd' 0 c (Int.le_refl _) (by omega) h7 h5
 simp only [Int.toNat_zero,Int.toNat_natCast] at hr
 have h6:(execOp a.eval o).run P w=.ok (.value (.slice (some ⟨w.heap.size,0,none⟩) 0 c)) (w.alloc (.cells (madeCells zv.cells (c*inf.size)) E)):=by
  simp [execOp,ho,h2.inv_sc,h3.inv_sc,hr]
 unfold Oper.wp
 rw [h6]
 obtain⟨st,sat,hv⟩:=Jec E k (madeCells zv.cells (c*inf.size)) c h1.2 (World.ownsRow_made w _ c (Nat.zero_le _) h1.2 (by rw [size_madeCells,e2])) h4 hi
 exact hK _ _ _ _ _ ⟨rfl,rfl⟩ sat st hv

theorem H5f {T E k:Nat} (hT:sliceB P T E k=true) (a:Option Addr) (len cap n:Nat) (kd:IntKind) (w:World) (hn:n≤cap) :
  (Instr.sliceAt T (.slice a len cap) none (some (.int kd n)) none).run P w=.ok (.slice (if cap=0 then a else a.map (·.add (0*k))) n cap) w:=by
 obtain⟨h1,h2⟩:=sliceB.out hT
 have h3:=J6 h2 w
 have hb:(Instr.sliceBound (.int kd (n:Int)) cap .sliceAcap).run P w=.ok n w:=by
  have:(0:Int)≤n∧(n:Int)≤cap:=⟨by omega,by omega⟩
  simp [Instr.sliceBound,asIntOf,this]
 have hs:(Instr.sliceBounds true len cap none (some (.int kd n)) none).run P w=.ok (0,n,cap) w:=by
  simp [Instr.sliceBounds,hb]
 simp [Instr.sliceAt,Instr.slice,run_underlying h1,hs,h3]
theorem D.cut {w:World} {S:Nat→Nat→Prop} {k n:Nat} {xs:List AV} {a:Option Addr} {len cap:Nat} (h:D w S (.list k xs) (.slice a len cap)) (hn:n≤xs.length) :
  D w S (.lst k (xs.take n) (xs.drop n)) (.slice (if cap=0 then a else a.map (·.add (0*k))) n cap):=by
 cases h with
 | nil h=>
  have:n=0:=by simpa using hn
  subst this
  simp only [List.take_nil,List.drop_nil]
  exact .lnil h
 | @list _ b off _ _ vals h0 hm hk hS h=>
  have e:(if cap=0 then some (⟨b,off,none⟩:Addr) else (some (⟨b,off,none⟩:Addr)).map (·.add (0*k)))=some ⟨b,off,none⟩:=by
   split <;> simp [Addr.add_lit]
  rw [e]
  have hl:(xs.take n).length=n:=by rw [List.length_take]; omega
  have:=D.lst (w:=w) (S:=S) (k:=k) (b:=b) (off:=off) (cap:=cap) (xs:=xs.take n) (ys:=xs.drop n) vals (by rw [← Ki,List.take_append_drop]; exact h0) hm (by rw [List.take_append_drop]; exact hk) (by rw [List.take_append_drop]; exact hS) (by rw [List.take_append_drop]; exact h)
  rwa [hl] at this
theorem D.whole {w:World} {S:Nat→Nat→Prop} {k n:Nat} {xs ys:List AV} {a:Option Addr} {len cap:Nat} (h:D w S (.lst k xs ys) (.slice a len cap)) (hn:n≤xs.length+ys.length) :
  D w S (.list k ((xs++ys).take n)) (.slice (if cap=0 then a else a.map (·.add (0*k))) n cap)∧xs.length+ys.length≤cap:=by
 cases h with
 | lnil h=>
  have:n=0:=by simpa using hn
  subst this
  exact⟨.nil h,Nat.zero_le _⟩
 | @lst _ b off _ _ _ vals h1 hm hk hS h=>
  refine⟨?_,h1⟩
  have e:(if cap=0 then some (⟨b,off,none⟩:Addr) else (some (⟨b,off,none⟩:Addr)).map (·.add (0*k)))=some ⟨b,off,none⟩:=by
   split <;> simp [Addr.add_lit]
  rw [e]
  have hl:((xs++ys).take n).length=n:=by rw [List.length_take,Ki]; omega
  have h0:flat ((xs++ys).take n)=(flat (xs++ys)).take (n*k):=G0a hk n
  have:=D.list (w:=w) (S:=S) (k:=k) (b:=b) (off:=off) (cap:=cap) (xs:=(xs++ys).take n) vals (by omega) hm (fun x hx=>hk x (List.mem_of_mem_take hx)) (fun j hj=>hS j (by rw [h0,List.length_take] at hj; omega)) (fun j u hu=>h j u (by
   rw [h0,Kg] at hu
   split at hu
   ·exact hu
   ·cases hu))
  rwa [hl] at this
theorem Qc5 {x p:Operand} {T E k n:Nat} {kd:IntKind} {ni:Int} {f:α→AV} {xs:List α} (ho:o.op=.slice T x none (some p) none) (hx:J9 (ev l x)=some (k,xs.map f)) (hp:ev l p=.sc (.int kd ni)) (hT:sliceB P T E k=true) (hn:ni=(n:Int)∧n≤xs.length):Gj P o l L (Is (LT k f (xs.take n,xs.drop n)) L):=
 H2 fun a w β h3 hf=>by
  obtain⟨rfl,hn⟩:=hn
  have h1:=(hf.ev x).J9 hx
  obtain⟨ao,cap,he,h2,h4⟩:=h1.len
  rw [he] at h1
  have h0:=hf.ev p
  rw [hp] at h0
  rw [Kn] at h2
  refine⟨_,?_,.data (by
   have:=h1.cut (n:=n) (by rw [Kn]; exact hn)
   rw [← List.map_take,← List.map_drop] at this
   exact this)⟩
  simp only [execOp,ho,he,h0.inv_sc,Sem.run_bind,Option.map_none,Option.map_some]
  rw [H5f hT ao _ cap n kd w (by omega)]
  rfl
theorem Q05 {x p:Operand} {T E k n:Nat} {kd:IntKind} {ni:Int} {f:α→AV} {e:Ln α} (ho:o.op=.slice T x none (some p) none) (hx:ev l x=LT k f e) (hp:ev l p=.sc (.int kd ni)) (hT:sliceB P T E k=true) (hn:ni=(n:Int)∧n≤(e.1++e.2).length):Gj P o l L (Is (LS k f ((e.1++e.2).take n)) L):=
 H2 fun a w β h4 hf=>by
  obtain⟨rfl,hn⟩:=hn
  rw [Ki] at hn
  have h0:=hf.ev x
  rw [hx] at h0
  have h3:=hf.ev p
  rw [hp] at h3
  cases h0 with
  | data h0=>
   obtain⟨ao,cap,he,_,_⟩:=h0.lst_list.len
   rw [he] at h0
   obtain⟨h1,h2⟩:=h0.whole (n:=n) (by simpa using hn)
   rw [Kn,Kn] at h2
   refine⟨_,?_,.data (by
    rw [← List.map_append,← List.map_take] at h1
    exact h1)⟩
   simp only [execOp,ho,he,h3.inv_sc,Sem.run_bind,Option.map_none,Option.map_some]
   rw [H5f hT ao _ cap n kd w (by omega)]
   rfl
end ops

/-! ### The entries that are there yet -/
theorem G9d:∀ {es:List (Value×AV)} {vals:List Value} {i:Nat} {e:MapEntry},e∈Jo i es vals ↔ ∃ j p v,es[j]? = some p∧vals[j]? = some v∧isT p.2=false∧e=⟨p.1,v,i+j⟩
 | [],vals,i,e=>by simp [Jo]
 | p::es,[],i,e=>by simp [Jo]
 | p::es,v::vs,i,e=>by
  have ih:=G9d (es:=es) (vals:=vs) (i:=i+1) (e:=e)
  have shift:(∃ j p' v',es[j]? = some p'∧vs[j]? = some v'∧isT p'.2=false∧e=⟨p'.1,v',i+1+j⟩) ↔ ∃ j p' v',(p::es)[j+1]? = some p'∧(v::vs)[j+1]? = some v'∧isT p'.2=false∧e=⟨p'.1,v',i+(j+1)⟩:=by
   constructor
   ·rintro⟨j,p',v',h1,h2,h3,h4⟩; exact⟨j,p',v',by simpa using h1,by simpa using h2,h3,by rw [h4,Nat.add_assoc,Nat.add_comm 1 j]⟩
   ·rintro⟨j,p',v',h1,h2,h3,h4⟩; exact⟨j,p',v',by simpa using h1,by simpa using h2,h3,by rw [h4,Nat.add_assoc,Nat.add_comm 1 j]⟩
  cases hp:isT p.2 with
  | true=>
   simp only [Jo,hp,if_true]
   rw [ih,shift]
   constructor
   ·rintro⟨j,p',v',h⟩; exact⟨j+1,p',v',h⟩
   ·rintro⟨j,p',v',h1,h2,h3,h4⟩
    cases j with
    | zero=>simp at h1; subst h1; rw [hp] at h3; cases h3
    | succ j=>exact⟨j,p',v',h1,h2,h3,h4⟩
  | false=>
   simp only [Jo,hp,Bool.false_eq_true,if_false,Kr]
   rw [ih,shift]
   constructor
   ·rintro(h | ⟨j,p',v',h⟩)
    ·exact⟨0,p,v,rfl,rfl,hp,by simpa using h⟩
    ·exact⟨j+1,p',v',h⟩
   ·rintro⟨j,p',v',h1,h2,h3,h4⟩
    cases j with
    | zero=>simp at h1 h2; subst h1 h2; exact .inl (by simpa using h4)
    | succ j=>exact .inr ⟨j,p',v',h1,h2,h3,h4⟩
theorem H1d {es:List (Value×AV)} {vals:List Value} {i:Nat} {e:MapEntry} (h:e∈Jo i es vals):i≤e.born∧e.born < i+es.length:=by
 obtain⟨j,p,v,h1,_,_,rfl⟩:=G9d.1 h
 have:=(Ex h1).1
 exact⟨by show i≤i+j; omega,by show i+j < _; omega⟩
theorem G1a:∀ {es:List (Value×AV)} {vals:List Value} {i:Nat},(Jo i es vals).Pairwise (fun a b=>a.born < b.born)
 | [],vals,i=>by simp [Jo]
 | p::es,[],i=>by simp [Jo]
 | p::es,v::vs,i=>by
  have ih:=G1a (es:=es) (vals:=vs) (i:=i+1)
  cases hp:isT p.2 with
  | true=>simp only [Jo,hp,if_true]; exact ih
  | false=>
   simp only [Jo,hp,Bool.false_eq_true,if_false]
   exact List.pairwise_cons.2 ⟨fun e he=>by have:=(H1d he).1; show i < e.born; omega,ih⟩
theorem H8b:∀ {es:List (Value×AV)} {vals:List Value} {i:Nat} (p:Value×AV) (v:Value),vals.length=es.length→isT p.2=false→Jo i (es++[p]) (vals++[v])=Jo i es vals++[⟨p.1,v,i+es.length⟩]
 | [],[],i,p,v,_,hp=>by simp [Jo,hp]
 | [],_::_,i,p,v,h,_=>by simp at h
 | _::_,[],i,p,v,h,_=>by simp at h
 | q::es,x::vs,i,p,v,h,hp=>by
  have ih:=H8b (es:=es) (vals:=vs) (i:=i+1) p v (by simpa using h) hp
  have e1:i+1+es.length=i+(q::es).length:=by simp; omega
  cases hq:isT q.2 with
  | true=>simp only [List.cons_append,Jo,hq,if_true]; rw [ih,e1]
  | false=>simp only [List.cons_append,Jo,hq,Bool.false_eq_true,if_false]; rw [ih,e1]
theorem Jfc {l:List MapEntry} (hs:l.Pairwise (fun a b=>a.born < b.born)) {j q:Nat} {e e':MapEntry} (h:l[j]? = some e) (h':l[q]? = some e') (hb:e.born=e'.born):j=q:=by
 have hj:=(Ex h)
 have hq:=(Ex h')
 obtain⟨h0,rfl⟩:=hj
 obtain⟨h1,rfl⟩:=hq
 have hp:=List.pairwise_iff_getElem.1 hs
 rcases Nat.lt_trichotomy j q with h | h | h
 ·have:=hp j q h0 h1 h; omega
 ·exact h
 ·have:=hp q j h1 h0 h; omega
theorem Ha4 {l:List MapEntry} (hs:l.Pairwise (fun a b=>a.born < b.born)) {j:Nat} {e:MapEntry} (h:l[j]? = some e) (f:MapEntry→MapEntry):l.modify j f=l.map (fun x=>if x.born=e.born then f x else x):=by
 apply List.ext_getElem?
 intro q
 rw [List.getElem?_modify,Kf]
 cases hq:l[q]? with
 | none=>rfl
 | some y=>
  by_cases h0:j=q
  ·subst h0
   rw [h] at hq; cases hq
   simp
  ·have:y.born≠e.born:=fun hb=>h0 (Jfc hs h hq hb.symm)
   simp [h0,this]
/-! ### Typed -/
section plain
variable {κ ν:Type} [DecidableEq κ]
def J35 (l:List (Option (κ×ν))) (a:κ) (v:ν):List (Option (κ×ν)):=if Zd (l.filterMap id) a then l.map (Option.map fun p=>if p.1=a then (a,v) else p) else l++[some (a,v)]
def G72 (l:List (Option (κ×ν))) (a:κ):Nat:=l.findIdx fun o=>match o with | some p=>decide (p.1=a) | none=>false
theorem J16 (l:List (Option (κ×ν))) (a:κ) (v:ν):(J35 l a v).filterMap id=G8d (l.filterMap id) a v:=by
 unfold J35 G8d
 by_cases h:Zd (l.filterMap id) a=true
 ·rw [if_pos h,if_pos h]
  clear h
  induction l with
  | nil=>rfl
  | cons o r ih=>cases o <;> simp [ih]
 ·rw [if_neg h,if_neg h]; simp
end plain
structure Hj (κ ν:Type) where
 l:List (Option (κ×ν))
 nd:((l.filterMap id).map (·.1)).Nodup
namespace Hj
variable {κ ν:Type} [DecidableEq κ]
def Hf (m:Hj κ ν):List (κ×ν):=m.l.filterMap id
def empty:Hj κ ν:=⟨[],List.nodup_nil⟩
def put (m:Hj κ ν) (a:κ) (v:ν):Hj κ ν:=⟨J35 m.l a v,by rw [J16]; exact Ge2 m.nd a v⟩
def get (m:Hj κ ν) (a:κ) (z:ν):ν:=(G0b m.Hf a).getD z
def has (m:Hj κ ν) (a:κ):Bool:=Zd m.Hf a
def size (m:Hj κ ν):Nat:=m.Hf.length
instance:Inhabited (Hj κ ν):=⟨empty⟩
end Hj
def tOf {κ ν:Type} (kv:κ→Value) (av:ν→AV) (l:List (Option (κ×ν))):List (Value×AV):=l.map fun o=>match o with | some p=>(kv p.1,av p.2) | none=>(.tuple #[],.tup [])
theorem G8b {κ ν:Type} [DecidableEq κ]:∀ {l:List (Option (κ×ν))},((l.filterMap id).map (·.1)).Nodup→∀ {q:Nat} {a:κ} {v:ν},l[q]? = some (some (a,v))→G72 l a=q∧G0b (l.filterMap id) a=some v∧Zd (l.filterMap id) a=true
 | [],_,q,a,v,h=>by simp at h
 | none::r,hn,q,a,v,h=>by
  cases q with
  | zero=>simp at h
  | succ q=>
   obtain⟨h1,h2,h3⟩:=G8b (l:=r) (by simpa using hn) (by simpa using h)
   refine⟨?_,by simpa using h2,by simpa using h3⟩
   unfold G72 at h1 ⊢
   rw [List.findIdx_cons]; simp [h1]
 | some (b,u)::r,hn,q,a,v,h=>by
  simp only [List.filterMap_cons_some (f:=id) rfl,id,List.map_cons,List.nodup_cons] at hn
  cases q with
  | zero=>
   simp at h; obtain⟨rfl,rfl⟩:=h
   exact⟨by simp [G72,List.findIdx_cons],by simp [G0b],by simp [Zd]⟩
  | succ q=>
   have h':r[q]? = some (some (a,v)):=by simpa using h
   have h0:b≠a:=fun e=>hn.1 (by subst e; exact Kp.2 ⟨(b,v),List.mem_filterMap.2 ⟨_,K0 h',rfl⟩,rfl⟩)
   obtain⟨h1,h2,h3⟩:=G8b (l:=r) hn.2 h'
   refine⟨?_,?_,?_⟩
   ·unfold G72 at h1 ⊢; rw [List.findIdx_cons]; simp [h0,h1]
   ·simp only [G0b] at h2 ⊢; simp [h0]; simpa using h2
   ·simp only [Zd] at h3 ⊢; simp [h0]; simpa using h3
end Go.Proofs.Ytokjlondbjdlfaa
