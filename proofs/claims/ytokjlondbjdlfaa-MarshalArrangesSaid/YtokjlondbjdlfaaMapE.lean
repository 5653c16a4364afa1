/-
 Slices with known cells behind them: Maps from which entries are deleted: Maps from which entries are deleted:
-/
import Derived.Test.YtokjlondbjdlfaaNest2
import Derived.Test.YtokjlondbjdlfaaMapM
namespace Go.Proofs.Ytokjlondbjdlfaa
open Go.RowKit
set_option linter.unusedVariables false

inductive Cv:AV→AV→Prop
 | same {u:AV}:Cv u u
 | agg {cs ds:List AV} (hl:ds.length=cs.length) (h:∀ (j:Nat) u u',cs[j]? = some u→ds[j]? = some u'→Cv u u'):Cv (.agg cs) (.agg ds)
 | list {k:Nat} {xs ys:List AV} (hl:ys.length=xs.length) (hk:∀ (j:Nat) x y,xs[j]? = some x→ys[j]? = some y→y.cells.length=x.cells.length) (h:∀ (j:Nat) u u',(flat xs)[j]? = some u→(flat ys)[j]? = some u'→Cv u u'):Cv (.list k xs) (.list k ys)
 | lst {k:Nat} {xs ys zs:List AV} (h:Cv (.list k xs) (.list k ys)):Cv (.lst k xs zs) (.list k ys)
 | tail {k:Nat} {xs ys:List AV} (h:Cv (.list k xs) (.list k ys)):Cv (.list k xs) (.lst k ys [])
theorem D.list_lst {w:World} {S:Nat→Nat→Prop} {k:Nat} {xs:List AV} {v:Value} (h:D w S (.list k xs) v):D w S (.lst k xs []) v:=by
 cases h with
 | nil h=>exact .lnil h
 | list vals h0 hm hk hS h=>exact .lst vals (by simpa using h0) hm (by simpa using hk) (by simpa using hS) (by simpa using h)
theorem D.cv {w:World} {S:Nat→Nat→Prop} {u u':AV} (hc:Cv u u'):∀ {v:Value},D w S u v→D w S u' v:=by
 induction hc with
 | same=>exact fun h=>h
 | agg hl _ ih=>
  intro v h
  cases h with
  | agg h3 h=>
   refine .agg (by rw [h3,hl]) (fun j u' x h0 hx=>?_)
   have hj:=(Ew h0).1
   exact ih j _ u' (Ex (by omega)) h0 (h j _ x (Ex (by omega)) hx)
 | @list k xs ys hl hk _ ih=>
  intro v h
  cases h with
  | nil h=>
   have:ys=[]:=Ek (by simpa using hl)
   subst this; exact .nil h
  | list vals h4 hm h1 hS h=>
   have h2:∀ y∈ys,y.cells.length=k:=fun y hy=>by
    obtain⟨j,hj⟩:=List.mem_iff_getElem?.1 hy
    have h5:=(Ew hj).1
    have hx:xs[j]? = some (xs[j]'(by omega)):=Ex (by omega)
    rw [hk j _ y hx hj]
    exact h1 _ (Ez hx)
   have h6:(flat ys).length=(flat xs).length:=by rw [Hh h2,Hh h1,hl]
   rw [← hl]
   refine .list vals (by omega) hm h2 (fun j hj=>hS j (by omega)) (fun j u' h0=>?_)
   have hj:=(Ew h0).1
   exact ih j _ u' (Ex (by omega)) h0 (h j _ (Ex (by omega)))
 | lst _ ih=>exact fun h=>ih h.lst_list
 | tail _ ih=>exact fun h=>(ih h).list_lst
theorem V.cv {w:World} {β:Gw} {L:Loc} {u u':AV} (hc:Cv u u'):∀ {v:Value},V w β L u v→V w β L u' v:=by
 induction hc with
 | same=>exact fun h=>h
 | agg hl _ ih=>
  intro v h
  obtain⟨vs,rfl,h1,h⟩:=h.inv_agg
  refine .agg (by rw [h1,hl]) (fun j u' x h0 hx=>?_)
  have hj:=(Ew h0).1
  exact ih j _ u' (Ex (by omega)) h0 (h j _ x (Ex (by omega)) hx)
 | list hl hk h=>exact fun hv=>.data (D.cv (.list hl hk h) hv.inv_list)
 | lst h=>exact fun hv=>by cases hv with | data hv=>exact .data (D.cv (.lst h) hv)
 | tail h=>exact fun hv=>.data (D.cv (.tail h) hv.inv_list)

def CvL:List AV→List AV→Prop
 | [],[]=>True
 | u::r,u'::r'=>Cv u u'∧CvL r r'
 | _,_=>False
theorem CvL.len:∀ {cs ds:List AV},CvL cs ds→ds.length=cs.length
 | [],[],_=>rfl
 | _::_,_::_,h=>by rw [Kd,Kd,CvL.len h.2]
 | [],_::_,h=>h.elim
 | _::_,[],h=>h.elim
theorem CvL.get:∀ {cs ds:List AV},CvL cs ds→∀ (j:Nat) u u',cs[j]? = some u→ds[j]? = some u'→Cv u u'
 | [],[],_,j,u,u',h,_=>by simp at h
 | _::_,_::_,h,0,u,u',h1,h2=>by simp at h1 h2; subst h1 h2; exact h.1
 | _::_,_::_,h,j+1,u,u',h1,h2=>CvL.get h.2 j u u' (by simpa using h1) (by simpa using h2)
 | [],_::_,h,_,_,_,_,_=>h.elim
 | _::_,[],h,_,_,_,_,_=>h.elim
theorem CvL.append:∀ {cs ds cs' ds':List AV},CvL cs ds→CvL cs' ds'→CvL (cs++cs') (ds++ds')
 | [],[],_,_,_,h=>h
 | _::_,_::_,_,_,h,h'=>⟨h.1,CvL.append h.2 h'⟩
 | [],_::_,_,_,h,_=>h.elim
 | _::_,[],_,_,h,_=>h.elim
theorem Cv.aggL {cs ds:List AV} (h:CvL cs ds):Cv (.agg cs) (.agg ds):=.agg h.len h.get
section typed
variable {α β:Type} {f:α→AV} {g:β→AV} {k:Nat}
abbrev Ln (α:Type):=List α×List α
abbrev LT {α:Type} (k:Nat) (f:α→AV) (e:Ln α):AV:=.lst k (e.1.map f) (e.2.map f)
theorem Cv.listM (p:α→β) (h:∀ x,CvL (f x).cells (g (p x)).cells) (xs:List α):Cv (LS k f xs) (LS k g (xs.map p)):=by
 refine .list (by simp) (fun j x y hx hy=>?_) ?_
 ·rw [Ke] at hx hy
  rw [Ke] at hy
  cases hz:xs[j]? with
  | none=>rw [hz] at hx; cases hx
  | some z=>rw [hz] at hx hy; cases hx; cases hy; exact(h z).len
 ·have:CvL (flat (xs.map f)) (flat ((xs.map p).map g)):=by
   induction xs with
   | nil=>trivial
   | cons x xs ih=>exact(h x).append ih
  exact this.get
theorem Cv.lstM (p:α→β) (h:∀ x,CvL (f x).cells (g (p x)).cells) (e:Ln α):Cv (LT k f e) (LS k g (e.1.map p)):=.lst (.listM p h e.1)
theorem Cv.lst0 (e:Ln α):Cv (LT k f e) (LS k f e.1):=.lst .same
theorem Cv.of0 (xs:List α):Cv (LS k f xs) (LT k f (xs,[])):=.tail .same
end typed

section ops
variable {P:Program} {N:Cfg} {o:Oper} {l:Fr} {L L':Loc} {u u':AV} {α:Type}
theorem Gj.cv (hc:Cv u u') (h:Gj P o l L (Is u L')):Gj P o l L (Is u' L'):=fun a w β K Q hs hf hK=>h a w β K Q hs hf (fun v L'' x w' β' hr h0 h1 hv=>by
 obtain⟨rfl,rfl⟩:=hr
 exact hK _ _ _ _ _ ⟨rfl,rfl⟩ h0 h1 (hv.cv hc))
theorem J5e (i:Nat) {x y:Operand} {T E k by_ c:Nat} {kd kd':IntKind} {nx ny:Int} (ho:o.op=.makeSlice T x y) (hx:ev l x=.sc (.int kd nx)) (hy:ev l y=.sc (.int kd' ny)) (hi:lk L i=none)
  (hT:sliceB P T E k=true) (hE:Qm P E k by_=true) (h0:nx=0) (hm:ny=(c:Int)) (hb:decide (by_*c≤281474976710656∧c≤maxLen)=true):Gj P o l L (Is (.own i 0 k []) ((i,.spare E k 0 0)::L)):=by
 subst h0 hm
 intro a w β K Q h4 hf hK
 have h1:=Er hb
 obtain⟨inf,zv,e1,e2,e3,e4,e5,e6⟩:=Qm.out hE
 have h2:=hf.ev x
 rw [hx] at h2
 have h3:=hf.ev y
 rw [hy] at h3
 have h5:(c:Int)≤9223372036854775807:=by
  have h:=h1.2
  simp [maxLen] at h
  omega
 have h7:(inf.bytes:Int)*(c:Int)≤281474976710656:=by
  have h:((inf.bytes*c:Nat):Int)≤281474976710656:=by rw [e3]; have:=h1.1; omega
  rwa [Int.natCast_mul] at h
 have hr:=run_make (P:=P) w T E inf zv (sliceB.out hT).1 e1 e4 kd kd' 0 c (Int.le_refl _) (by omega) h7 h5
 simp only [Int.toNat_zero,Int.toNat_natCast] at hr
 have h6:(execOp a.eval o).run P w=.ok (.value (.slice (some ⟨w.heap.size,0,none⟩) 0 c)) (w.alloc (.cells (madeCells zv.cells (c*inf.size)) E)):=by
  simp [execOp,ho,h2.inv_sc,h3.inv_sc,hr]
 unfold Oper.wp
 rw [h6]
 obtain⟨st,sat,hv⟩:=Q34 E k (madeCells zv.cells (c*inf.size)) c h1.2 (World.ownsRow_made w _ c (Nat.zero_le _) h1.2 (by rw [size_madeCells,e2])) h4 hi
 exact hK _ _ _ _ _ ⟨rfl,rfl⟩ sat st hv

theorem H77 {T E k:Nat} (hT:sliceB P T E k=true) (a:Option Addr) (len cap n:Nat) (kd:IntKind) (w:World) (hn:n≤cap) :
  (Instr.sliceAt T (.slice a len cap) none (some (.int kd n)) none).run P w=.ok (.slice (if cap=0 then a else a.map (·.add (0*k))) n cap) w:=by
 obtain⟨h1,h2⟩:=sliceB.out hT
 have h3:=J8 h2 w
 have hb:(Instr.sliceBound (.int kd (n:Int)) cap .sliceAcap).run P w=.ok n w:=by
  have:(0:Int)≤n∧(n:Int)≤cap:=⟨by omega,by omega⟩
  simp [Instr.sliceBound,asIntOf,this]
 have hs:(Instr.sliceBounds true len cap none (some (.int kd n)) none).run P w=.ok (0,n,cap) w:=by
  simp [Instr.sliceBounds,hb]
 simp [Instr.sliceAt,Instr.slice,run_underlying h1,hs,h3]
theorem D.cut {w:World} {S:Nat→Nat→Prop} {k n:Nat} {xs:List AV} {a:Option Addr} {len cap:Nat} (h:D w S (.list k xs) (.slice a len cap)) (hn:n≤xs.length) :
  D w S (.lst k (xs.take n) (xs.drop n)) (.slice (if cap=0 then a else a.map (·.add (0*k))) n cap):=by
 cases h with
 | nil h=>
  have:n=0:=by simpa using hn
  subst this
  simp only [List.take_nil,List.drop_nil]
  exact .lnil h
 | @list _ b off _ _ vals h0 hm hk hS h=>
  have e:(if cap=0 then some (⟨b,off,none⟩:Addr) else (some (⟨b,off,none⟩:Addr)).map (·.add (0*k)))=some ⟨b,off,none⟩:=by
   split <;> simp [Addr.add_lit]
  rw [e]
  have hl:(xs.take n).length=n:=by rw [List.length_take]; omega
  have:=D.lst (w:=w) (S:=S) (k:=k) (b:=b) (off:=off) (cap:=cap) (xs:=xs.take n) (ys:=xs.drop n) vals (by rw [← Kh,List.take_append_drop]; exact h0) hm (by rw [List.take_append_drop]; exact hk) (by rw [List.take_append_drop]; exact hS) (by rw [List.take_append_drop]; exact h)
  rwa [hl] at this
theorem D.whole {w:World} {S:Nat→Nat→Prop} {k n:Nat} {xs ys:List AV} {a:Option Addr} {len cap:Nat} (h:D w S (.lst k xs ys) (.slice a len cap)) (hn:n≤xs.length+ys.length) :
  D w S (.list k ((xs++ys).take n)) (.slice (if cap=0 then a else a.map (·.add (0*k))) n cap)∧xs.length+ys.length≤cap:=by
 cases h with
 | lnil h=>
  have:n=0:=by simpa using hn
  subst this
  exact⟨.nil h,Nat.zero_le _⟩
 | @lst _ b off _ _ _ vals h1 hm hk hS h=>
  refine⟨?_,h1⟩
  have e:(if cap=0 then some (⟨b,off,none⟩:Addr) else (some (⟨b,off,none⟩:Addr)).map (·.add (0*k)))=some ⟨b,off,none⟩:=by
   split <;> simp [Addr.add_lit]
  rw [e]
  have hl:((xs++ys).take n).length=n:=by rw [List.length_take,Kh]; omega
  have h0:flat ((xs++ys).take n)=(flat (xs++ys)).take (n*k):=G1c hk n
  have:=D.list (w:=w) (S:=S) (k:=k) (b:=b) (off:=off) (cap:=cap) (xs:=(xs++ys).take n) vals (by omega) hm (fun x hx=>hk x (List.mem_of_mem_take hx)) (fun j hj=>hS j (by rw [h0,List.length_take] at hj; omega)) (fun j u hu=>h j u (by
   rw [h0,Kf] at hu
   split at hu
   ·exact hu
   ·cases hu))
  rwa [hl] at this
theorem R1b {x p:Operand} {T E k n:Nat} {kd:IntKind} {ni:Int} {f:α→AV} {xs:List α} (ho:o.op=.slice T x none (some p) none) (hx:Jb (ev l x)=some (k,xs.map f)) (hp:ev l p=.sc (.int kd ni)) (hT:sliceB P T E k=true) (hn:ni=(n:Int)∧n≤xs.length):Gj P o l L (Is (LT k f (xs.take n,xs.drop n)) L):=
 H3 fun a w β h3 hf=>by
  obtain⟨rfl,hn⟩:=hn
  have h1:=(hf.ev x).Jb hx
  obtain⟨ao,cap,he,h2,h4⟩:=h1.len
  rw [he] at h1
  have h0:=hf.ev p
  rw [hp] at h0
  rw [Km] at h2
  refine⟨_,?_,.data (by
   have:=h1.cut (n:=n) (by rw [Km]; exact hn)
   rw [← List.map_take,← List.map_drop] at this
   exact this)⟩
  simp only [execOp,ho,he,h0.inv_sc,Sem.run_bind,Option.map_none,Option.map_some]
  rw [H77 hT ao _ cap n kd w (by omega)]
  rfl
theorem Q50 {x p:Operand} {T E k n:Nat} {kd:IntKind} {ni:Int} {f:α→AV} {e:Ln α} (ho:o.op=.slice T x none (some p) none) (hx:ev l x=LT k f e) (hp:ev l p=.sc (.int kd ni)) (hT:sliceB P T E k=true) (hn:ni=(n:Int)∧n≤(e.1++e.2).length):Gj P o l L (Is (LS k f ((e.1++e.2).take n)) L):=
 H3 fun a w β h4 hf=>by
  obtain⟨rfl,hn⟩:=hn
  rw [Kh] at hn
  have h0:=hf.ev x
  rw [hx] at h0
  have h3:=hf.ev p
  rw [hp] at h3
  cases h0 with
  | data h0=>
   obtain⟨ao,cap,he,_,_⟩:=h0.lst_list.len
   rw [he] at h0
   obtain⟨h1,h2⟩:=h0.whole (n:=n) (by simpa using hn)
   rw [Km,Km] at h2
   refine⟨_,?_,.data (by
    rw [← List.map_append,← List.map_take] at h1
    exact h1)⟩
   simp only [execOp,ho,he,h3.inv_sc,Sem.run_bind,Option.map_none,Option.map_some]
   rw [H77 hT ao _ cap n kd w (by omega)]
   rfl
end ops

/-! ### The entries that are there yet -/
theorem Ga9:∀ {es:List (Value×AV)} {vals:List Value} {i:Nat} {e:MapEntry},e∈Jt i es vals ↔ ∃ j p v,es[j]? = some p∧vals[j]? = some v∧isT p.2=false∧e=⟨p.1,v,i+j⟩
 | [],vals,i,e=>by simp [Jt]
 | p::es,[],i,e=>by simp [Jt]
 | p::es,v::vs,i,e=>by
  have ih:=Ga9 (es:=es) (vals:=vs) (i:=i+1) (e:=e)
  have shift:(∃ j p' v',es[j]? = some p'∧vs[j]? = some v'∧isT p'.2=false∧e=⟨p'.1,v',i+1+j⟩) ↔ ∃ j p' v',(p::es)[j+1]? = some p'∧(v::vs)[j+1]? = some v'∧isT p'.2=false∧e=⟨p'.1,v',i+(j+1)⟩:=by
   constructor
   ·rintro⟨j,p',v',h1,h2,h3,h4⟩; exact⟨j,p',v',by simpa using h1,by simpa using h2,h3,by rw [h4,Nat.add_assoc,Nat.add_comm 1 j]⟩
   ·rintro⟨j,p',v',h1,h2,h3,h4⟩; exact⟨j,p',v',by simpa using h1,by simpa using h2,h3,by rw [h4,Nat.add_assoc,Nat.add_comm 1 j]⟩
  cases hp:isT p.2 with
  | true=>
   simp only [Jt,hp,if_true]
   rw [ih,shift]
   constructor
   ·rintro⟨j,p',v',h⟩; exact⟨j+1,p',v',h⟩
   ·rintro⟨j,p',v',h1,h2,h3,h4⟩
    cases j with
    | zero=>simp at h1; subst h1; rw [hp] at h3; cases h3
    | succ j=>exact⟨j,p',v',h1,h2,h3,h4⟩
  | false=>
   simp only [Jt,hp,Bool.false_eq_true,if_false,Kq]
   rw [ih,shift]
   constructor
   ·rintro(h | ⟨j,p',v',h⟩)
    ·exact⟨0,p,v,rfl,rfl,hp,by simpa using h⟩
    ·exact⟨j+1,p',v',h⟩
   ·rintro⟨j,p',v',h1,h2,h3,h4⟩
    cases j with
    | zero=>simp at h1 h2; subst h1 h2; exact .inl (by simpa using h4)
    | succ j=>exact .inr ⟨j,p',v',h1,h2,h3,h4⟩
theorem H36 {es:List (Value×AV)} {vals:List Value} {i:Nat} {e:MapEntry} (h:e∈Jt i es vals):i≤e.born∧e.born < i+es.length:=by
 obtain⟨j,p,v,h1,_,_,rfl⟩:=Ga9.1 h
 have:=(Ew h1).1
 exact⟨by show i≤i+j; omega,by show i+j < _; omega⟩
theorem G29:∀ {es:List (Value×AV)} {vals:List Value} {i:Nat},(Jt i es vals).Pairwise (fun a b=>a.born < b.born)
 | [],vals,i=>by simp [Jt]
 | p::es,[],i=>by simp [Jt]
 | p::es,v::vs,i=>by
  have ih:=G29 (es:=es) (vals:=vs) (i:=i+1)
  cases hp:isT p.2 with
  | true=>simp only [Jt,hp,if_true]; exact ih
  | false=>
   simp only [Jt,hp,Bool.false_eq_true,if_false]
   exact List.pairwise_cons.2 ⟨fun e he=>by have:=(H36 he).1; show i < e.born; omega,ih⟩
theorem Haa:∀ {es:List (Value×AV)} {vals:List Value} {i:Nat} (p:Value×AV) (v:Value),vals.length=es.length→isT p.2=false→Jt i (es++[p]) (vals++[v])=Jt i es vals++[⟨p.1,v,i+es.length⟩]
 | [],[],i,p,v,_,hp=>by simp [Jt,hp]
 | [],_::_,i,p,v,h,_=>by simp at h
 | _::_,[],i,p,v,h,_=>by simp at h
 | q::es,x::vs,i,p,v,h,hp=>by
  have ih:=Haa (es:=es) (vals:=vs) (i:=i+1) p v (by simpa using h) hp
  have e1:i+1+es.length=i+(q::es).length:=by simp; omega
  cases hq:isT q.2 with
  | true=>simp only [List.cons_append,Jt,hq,if_true]; rw [ih,e1]
  | false=>simp only [List.cons_append,Jt,hq,Bool.false_eq_true,if_false]; rw [ih,e1]
theorem Q45 {l:List MapEntry} (hs:l.Pairwise (fun a b=>a.born < b.born)) {j q:Nat} {e e':MapEntry} (h:l[j]? = some e) (h':l[q]? = some e') (hb:e.born=e'.born):j=q:=by
 have hj:=(Ew h)
 have hq:=(Ew h')
 obtain⟨h0,rfl⟩:=hj
 obtain⟨h1,rfl⟩:=hq
 have hp:=List.pairwise_iff_getElem.1 hs
 rcases Nat.lt_trichotomy j q with h | h | h
 ·have:=hp j q h0 h1 h; omega
 ·exact h
 ·have:=hp q j h1 h0 h; omega
theorem Hc8 {l:List MapEntry} (hs:l.Pairwise (fun a b=>a.born < b.born)) {j:Nat} {e:MapEntry} (h:l[j]? = some e) (f:MapEntry→MapEntry):l.modify j f=l.map (fun x=>if x.born=e.born then f x else x):=by
 apply List.ext_getElem?
 intro q
 rw [List.getElem?_modify,Ke]
 cases hq:l[q]? with
 | none=>rfl
 | some y=>
  by_cases h0:j=q
  ·subst h0
   rw [h] at hq; cases hq
   simp
  ·have:y.born≠e.born:=fun hb=>h0 (Q45 hs h hq hb.symm)
   simp [h0,this]
/-! ### Typed -/
section plain
variable {κ ν:Type} [DecidableEq κ]
def J64 (l:List (Option (κ×ν))) (a:κ) (v:ν):List (Option (κ×ν)):=if Zt (l.filterMap id) a then l.map (Option.map fun p=>if p.1=a then (a,v) else p) else l++[some (a,v)]
def G7f (l:List (Option (κ×ν))) (a:κ):Nat:=l.findIdx fun o=>match o with | some p=>decide (p.1=a) | none=>false
theorem J3e (l:List (Option (κ×ν))) (a:κ) (v:ν):(J64 l a v).filterMap id=G95 (l.filterMap id) a v:=by
 unfold J64 G95
 by_cases h:Zt (l.filterMap id) a=true
 ·rw [if_pos h,if_pos h]
  clear h
  induction l with
  | nil=>rfl
  | cons o r ih=>cases o <;> simp [ih]
 ·rw [if_neg h,if_neg h]; simp
end plain
structure Hk (κ ν:Type) where
 l:List (Option (κ×ν))
 nd:((l.filterMap id).map (·.1)).Nodup
namespace Hk
variable {κ ν:Type} [DecidableEq κ]
def Hf (m:Hk κ ν):List (κ×ν):=m.l.filterMap id
def empty:Hk κ ν:=⟨[],List.nodup_nil⟩
def put (m:Hk κ ν) (a:κ) (v:ν):Hk κ ν:=⟨J64 m.l a v,by rw [J3e]; exact Gf6 m.nd a v⟩
def get (m:Hk κ ν) (a:κ) (z:ν):ν:=(G1d m.Hf a).getD z
def has (m:Hk κ ν) (a:κ):Bool:=Zt m.Hf a
def size (m:Hk κ ν):Nat:=m.Hf.length
instance:Inhabited (Hk κ ν):=⟨empty⟩
end Hk
def tOf {κ ν:Type} (kv:κ→Value) (av:ν→AV) (l:List (Option (κ×ν))):List (Value×AV):=l.map fun o=>match o with | some p=>(kv p.1,av p.2) | none=>(.tuple #[],.tup [])
theorem G93 {κ ν:Type} [DecidableEq κ]:∀ {l:List (Option (κ×ν))},((l.filterMap id).map (·.1)).Nodup→∀ {q:Nat} {a:κ} {v:ν},l[q]? = some (some (a,v))→G7f l a=q∧G1d (l.filterMap id) a=some v∧Zt (l.filterMap id) a=true
 | [],_,q,a,v,h=>by simp at h
 | none::r,hn,q,a,v,h=>by
  cases q with
  | zero=>simp at h
  | succ q=>
   obtain⟨h1,h2,h3⟩:=G93 (l:=r) (by simpa using hn) (by simpa using h)
   refine⟨?_,by simpa using h2,by simpa using h3⟩
   unfold G7f at h1 ⊢
   rw [List.findIdx_cons]; simp [h1]
 | some (b,u)::r,hn,q,a,v,h=>by
  simp only [List.filterMap_cons_some (f:=id) rfl,id,List.map_cons,List.nodup_cons] at hn
  cases q with
  | zero=>
   simp at h; obtain⟨rfl,rfl⟩:=h
   exact⟨by simp [G7f,List.findIdx_cons],by simp [G1d],by simp [Zt]⟩
  | succ q=>
   have h':r[q]? = some (some (a,v)):=by simpa using h
   have h0:b≠a:=fun e=>hn.1 (by subst e; exact Ko.2 ⟨(b,v),List.mem_filterMap.2 ⟨_,Ez h',rfl⟩,rfl⟩)
   obtain⟨h1,h2,h3⟩:=G93 (l:=r) hn.2 h'
   refine⟨?_,?_,?_⟩
   ·unfold G7f at h1 ⊢; rw [List.findIdx_cons]; simp [h0,h1]
   ·simp only [G1d] at h2 ⊢; simp [h0]; simpa using h2
   ·simp only [Zt] at h3 ⊢; simp [h0]; simpa using h3

theorem Ha9:∀ {es:List (Value×AV)} {vals:List Value} {i j:Nat} {p0:Value×AV} (k:Value) (u:AV) (x:Value),es[j]? = some p0→isT p0.2=false→isT u=false →
  Jt i (es.set j (k,u)) (vals.set j x)=(Jt i es vals).map (fun e=>if e.born=i+j then { e with key:=k,val:=x } else e)
 | [],vals,i,j,p0,k,u,x,h,_,_=>by simp at h
 | p::es,[],i,j,p0,k,u,x,h,_,_=>by cases j <;> simp [Jt]
 | p::es,v::vs,i,0,p0,k,u,x,h,h0,hu=>by
  simp at h; subst h
  have key:(Jt (i+1) es vs).map (fun e=>if e.born=i+0 then { e with key:=k,val:=x } else e)=Jt (i+1) es vs:=by
   conv=>rhs; rw [← List.map_id (Jt (i+1) es vs)]
   refine List.map_congr_left fun e he=>?_
   have:=(H36 he).1
   rw [if_neg (by omega)]; rfl
  simp only [List.set_cons_zero,Jt,h0,hu,Bool.false_eq_true,if_false,List.map_cons,Nat.add_zero,if_true]
  rw [Nat.add_zero] at key
  rw [key]
 | p::es,v::vs,i,j+1,p0,k,u,x,h,h0,hu=>by
  have ih:=Ha9 (es:=es) (vals:=vs) (i:=i+1) (j:=j) k u x (by simpa using h) h0 hu
  have e1:i+1+j=i+(j+1):=by omega
  rw [e1] at ih
  cases hp:isT p.2 with
  | true=>simp only [List.set_cons_succ,Jt,hp,if_true]; exact ih
  | false=>
   simp only [List.set_cons_succ,Jt,hp,Bool.false_eq_true,if_false,List.map_cons]
   rw [ih,if_neg (show ¬ i=i+(j+1) by omega)]

section typed
variable {P:Program} {κ ν:Type} [DecidableEq κ] {kv:κ→Value} {av:ν→AV} {L:Loc}
omit [DecidableEq κ] in
theorem R21 {l:List (Option (κ×ν))} {j:Nat} {k:Value} {u:AV} (h:(tOf kv av l)[j]? = some (k,u)) (hu:isT u=false):∃ p:κ×ν,l[j]? = some (some p)∧k=kv p.1∧u=av p.2:=by
 rw [tOf,Ke] at h
 cases hl:l[j]? with
 | none=>rw [hl] at h; cases h
 | some o=>
  rw [hl] at h
  cases o with
  | none=>simp at h; obtain⟨_,rfl⟩:=h; cases hu
  | some p=>simp at h; exact⟨p,rfl,h.1.symm,h.2.symm⟩
omit [DecidableEq κ] in
theorem Gef {l:List (Option (κ×ν))} {j:Nat} {p:κ×ν} (h:l[j]? = some (some p)):(tOf kv av l)[j]? = some (kv p.1,av p.2):=by rw [tOf,Ke,h]; rfl
omit [DecidableEq κ] in
theorem G7b (l:List (Option (κ×ν))):(tOf kv av l).length=l.length:=by simp [tOf]
theorem J83 {l:List (Option (κ×ν))} (hn:((l.filterMap id).map (·.1)).Nodup) {q:Nat} {a:κ} {v0:ν} (v:ν) (h:l[q]? = some (some (a,v0))):J64 l a v=l.set q (some (a,v)):=by
 obtain⟨h1,_,h3⟩:=G93 hn h
 unfold J64
 rw [if_pos h3]
 apply List.ext_getElem?
 intro j
 rw [Ke,List.getElem?_set]
 by_cases e:q=j
 ·subst e
  have h0:=(Ew h).1
  rw [if_pos rfl,if_pos h0,h]; simp
 ·rw [if_neg e]
  cases hj:l[j]? with
  | none=>rfl
  | some o=>
   cases o with
   | none=>rfl
   | some p=>
    obtain⟨b,u⟩:=p
    by_cases e2:b=a
    ·subst e2
     have:=(G93 hn hj).1
     omega
    ·simp [e2]
omit [DecidableEq κ] in
theorem J08 {w:World} {S:Nat→Nat→Prop} {l:List (Option (κ×ν))} {vals:List Value} (hD:∀ (i:Nat) k u v,(tOf kv av l)[i]? = some (k,u)→vals[i]? = some v→isT u=false→D w S u v) {e:MapEntry} (hm:e∈Jt 0 (tOf kv av l) vals) :
  ∃ p:κ×ν,l[e.born]? = some (some p)∧e.key=kv p.1∧vals[e.born]? = some e.val∧D w S (av p.2) e.val:=by
 obtain⟨j,p,v,h1,h2,h3,rfl⟩:=Ga9.1 hm
 obtain⟨k,u⟩:=p
 obtain⟨p,g1,rfl,rfl⟩:=R21 h1 h3
 simp only [Nat.zero_add]
 exact⟨p,g1,rfl,h2,hD j _ _ v h1 h2 h3⟩
omit [DecidableEq κ] in
theorem H3a {w:World} {S:Nat→Nat→Prop} {K:Nat} {l:List (Option (κ×ν))} (hk:G55 P K kv) (h5:∀ x,isT (av x)=false) {vals:List Value} {Hf:Array MapEntry} (h0:vals.length=(tOf kv av l).length) (he:Hf=(Jt 0 (tOf kv av l) vals).toArray)
  (hD:∀ (i:Nat) k u v,(tOf kv av l)[i]? = some (k,u)→vals[i]? = some v→isT u=false→D w S u v) (a:κ) :
  ((Instr.findKey K (kv a) Hf.toList).run P w=.ok none w∧(∀ p∈l.filterMap id,p.1≠a))∨∃ j q e v,(Instr.findKey K (kv a) Hf.toList).run P w=.ok (some (j,e.val)) w∧Hf[j]? = some e∧(Jt 0 (tOf kv av l) vals)[j]? = some e∧e.born=q∧e.key=kv a∧l[q]? = some (some (a,v))∧vals[q]? = some e.val∧D w S (av v) e.val:=by
 have hl:Hf.toList=Jt 0 (tOf kv av l) vals:=by rw [he]
 rcases hk.find w a (Jt 0 (tOf kv av l) vals) (fun e hm=>by obtain⟨p,_,h,_⟩:=J08 hD hm; exact⟨p.1,h⟩) with ⟨h1,h2⟩ | ⟨j,e,h1,h2,h3⟩
 ·refine .inl ⟨by rw [hl]; exact h1,fun p hp e=>?_⟩
  obtain⟨o,ho,rfl⟩:∃ o,o∈l∧o=some p:=by
   obtain⟨o,ho,e⟩:=List.mem_filterMap.1 hp
   exact⟨o,ho,e⟩
  obtain⟨q,hq,e2⟩:=List.mem_iff_getElem.1 ho
  have hg:l[q]? = some (some p):=by rw [Ex hq,e2]
  have h6:q < vals.length:=by rw [h0,G7b]; exact hq
  have h4:(⟨kv p.1,vals[q],0+q⟩:MapEntry)∈Jt 0 (tOf kv av l) vals:=Ga9.2 ⟨q,(kv p.1,av p.2),vals[q],Gef hg,by simp [h6],h5 p.2,rfl⟩
  exact h2 _ h4 (by rw [← e])
 ·have hm:=Ez h2
  obtain⟨p,g1,g2,g3,g4⟩:=J08 hD hm
  have ha:p.1=a:=hk.inj _ _ (g2.symm.trans h3)
  obtain⟨pa,pv⟩:=p
  simp only at ha; subst ha
  exact .inr ⟨j,e.born,e,pv,by rw [hl]; exact h1,by rw [he]; simpa using h2,h2,rfl,h3,g1,g3,g4⟩
def TP (T:Nat) (kv:κ→Value) (av:ν→AV) (m:Hk κ ν):Hx:=.map (1000000+T) (tOf kv av m.l)
theorem Qa9 (T:Nat):Nat.blt (1000000+T) 1000000=false:=by
 rw [Bool.eq_false_iff]; intro h
 rw [Nat.blt_eq] at h; omega
omit [DecidableEq κ] in
theorem H83 {w:World} {β:Gw} {i b T:Nat} {m:Hk κ ν} (h4:Sat w β L) (hi:lk L i=some (TP T kv av m)) (hb:β i=some b) :
  ∃ (vals:List Value) (Hf:Array MapEntry),vals.length=(tOf kv av m.l).length∧Hf=(Jt 0 (tOf kv av m.l) vals).toArray∧w.heap[b]? = some (.map Hf m.l.length) ∧
   ∀ (i:Nat) k u v,(tOf kv av m.l)[i]? = some (k,u)→vals[i]? = some v→isT u=false→D w (J1 w β L) u v:=by
 obtain⟨b',h0,h⟩:=h4.obj i _ hi
 rw [hb] at h0; cases h0
 rcases h with ⟨h,_⟩ | ⟨_,vals,h1,h2,h3⟩
 ·rw [Qa9] at h; cases h
 ·exact⟨vals,_,h1,rfl,by rw [← G7b (kv:=kv) (av:=av)]; exact h2,h3⟩
def DM (kv:κ→Value) (av:ν→AV) (m:Hk κ ν):AV:=.dmap (tOf kv av m.l)
inductive J77 (L:Loc) (kv:κ→Value) (av:ν→AV) (m:Hk κ ν):AV→Prop
 | own {i T:Nat} (h:lk L i=some (TP T kv av m)):J77 L kv av m (.mp i)
 | data:J77 L kv av m (DM kv av m)
omit [DecidableEq κ] in
theorem D.tmap {w:World} {S:Nat→Nat→Prop} {m:Hk κ ν} {v:Value} (h:D w S (DM kv av m) v):∃ (b:Nat) (vals:List Value) (Hf:Array MapEntry),v=.map (some b)∧vals.length=(tOf kv av m.l).length∧Hf=(Jt 0 (tOf kv av m.l) vals).toArray∧w.heap[b]? = some (.map Hf m.l.length) ∧
   ∀ (i:Nat) k u v,(tOf kv av m.l)[i]? = some (k,u)→vals[i]? = some v→isT u=false→D w S u v:=by
 unfold DM at h
 cases h with
 | dmap vals h1 h2 h3 h4=>exact⟨_,vals,_,rfl,h1,rfl,by rw [← G7b (kv:=kv) (av:=av)]; exact h2,h4⟩
omit [DecidableEq κ] in
theorem V.tsrc {w:World} {β:Gw} {m:Hk κ ν} {u:AV} {v:Value} (h0:Sat w β L) (hm:J77 L kv av m u) (hv:V w β L u v):∃ (b:Nat) (vals:List Value) (Hf:Array MapEntry),v=.map (some b)∧vals.length=(tOf kv av m.l).length∧Hf=(Jt 0 (tOf kv av m.l) vals).toArray∧w.heap[b]? = some (.map Hf m.l.length) ∧
   ∀ (i:Nat) k u v,(tOf kv av m.l)[i]? = some (k,u)→vals[i]? = some v→isT u=false→D w (J1 w β L) u v:=by
 cases hm with
 | own hi=>
  obtain⟨b,hb,h2⟩:=hv.inv_mp
  obtain⟨vals,Hf,g1,g2,h1,g3⟩:=H83 h0 hi hb
  exact⟨b,vals,Hf,h2,g1,g2,h1,g3⟩
 | data=>
  cases hv with
  | data h=>exact h.tmap
omit [DecidableEq κ] in
theorem G28 {w:World} {β:Gw} {i b T:Nat} {m m':Hk κ ν} {vals':List Value} (h0:Sat w β L) (hi:lk L i=some (TP T kv av m)) (hb:β i=some b)
  (h4:vals'.length=(tOf kv av m'.l).length) (hD:∀ (i:Nat) k u v,(tOf kv av m'.l)[i]? = some (k,u)→vals'[i]? = some v→isT u=false→D w (J1 w β L) u v) {ents':Array MapEntry} {c:Nat} (he:ents'=(Jt 0 (tOf kv av m'.l) vals').toArray) (hc:c=m'.l.length) :
  let w':World:={ w with heap:=w.heap.setIfInBounds b (.map ents' c) }
  Sat w' β ((i,TP T kv av m')::L)∧Step w β L w' β ((i,TP T kv av m')::L):=by
 intro w'
 have h5:b < w.heap.size:=h0.bnd i b (by rw [hi]; rfl) hb
 have st:Step w β L w' β ((i,TP T kv av m')::L):=Step.change h0 hi hb rfl rfl rfl ⟨rfl,Ka⟩ (H75 w b _) (fun k hk=>H2e w b k _ hk)
 exact⟨Sat.change h0 hi hb st (H75 w b _) (fun k hk=>H2e w b k _ hk) ⟨b,rfl,.inr ⟨Qa9 T,vals',h4,by rw [G7b,← hc,← he]; exact J99 w b _ h5,fun j k u v h1 h2 h3=>(hD j k u v h1 h2 h3).mono st.stab⟩⟩,st⟩
end typed

section ops
variable {P:Program} {o:Oper} {l:Fr} {L:Loc} {u:AV} {κ ν:Type} {kv:κ→Value} {av:ν→AV}
theorem Q2a {vals:List Value} {l:List (Option (κ×ν))} {w:World} {S:Nat→Nat→Prop} {q:Nat} {a:κ} {v:ν} {x:Value}
  (hD:∀ (i:Nat) k u v,(tOf kv av l)[i]? = some (k,u)→vals[i]? = some v→isT u=false→D w S u v) (hx:D w S (av v) x) :
  ∀ (i:Nat) k u y,(tOf kv av (l.set q (some (a,v))))[i]? = some (k,u)→(vals.set q x)[i]? = some y→isT u=false→D w S u y:=fun i k u y h1 h2 h3=>by
 have e:tOf kv av (l.set q (some (a,v)))=(tOf kv av l).set q (kv a,av v):=by rw [tOf,List.map_set]; rfl
 rw [e,List.getElem?_set] at h1
 rw [List.getElem?_set] at h2
 by_cases hq:q=i
 ·rw [if_pos hq] at h1 h2
  split at h1
  ·split at h2
   ·cases h1; cases h2; exact hx
   ·cases h2
  ·cases h1
 ·rw [if_neg hq] at h1 h2
  exact hD i k u y h1 h2 h3
theorem J80 {vals:List Value} {l:List (Option (κ×ν))} {w:World} {S:Nat→Nat→Prop} {a:κ} {v:ν} {x:Value} (h0:vals.length=(tOf kv av l).length)
  (hD:∀ (i:Nat) k u v,(tOf kv av l)[i]? = some (k,u)→vals[i]? = some v→isT u=false→D w S u v) (hx:D w S (av v) x) :
  ∀ (i:Nat) k u y,(tOf kv av (l++[some (a,v)]))[i]? = some (k,u)→(vals++[x])[i]? = some y→isT u=false→D w S u y:=fun i k u y h1 h2 h3=>by
 have e:tOf kv av (l++[some (a,v)])=tOf kv av l++[(kv a,av v)]:=by simp [tOf]
 rw [e] at h1
 rcases Eo i vals.length with hi | hi
 ·rw [Kc (by omega)] at h1
  rw [Kc hi] at h2
  exact hD i k u y h1 h2 h3
 ·rw [Kb (by omega)] at h1
  rw [Kb hi] at h2
  rw [← h0] at h1
  cases hq:i - vals.length with
  | zero=>rw [hq] at h1 h2; simp at h1 h2; obtain⟨_,rfl⟩:=h1; subst h2; exact hx
  | succ n=>rw [hq] at h1; simp at h1
theorem H6c (i:Nat) {T:Nat} (kv:κ→Value) (av:ν→AV) (ho:o.op=.makeMap T none) (hi:lk L i=none):Gj P o l L (Is (.mp i) ((i,TP T kv av Hk.empty)::L)):=by
 intro a w β K Q h0 hf hK
 have hr:(execOp a.eval o).run P w=.ok (.value (.map (some w.heap.size))) (w.alloc (.map #[] 0)):=by
  simp [execOp,ho,Instr.makeMap]
 unfold Oper.wp
 rw [hr]
 exact hK _ _ _ _ (upP β i (some w.heap.size)) ⟨rfl,rfl⟩ (h0.alloc hi _ (fun hs=>⟨_,rfl,.inr ⟨Qa9 T,[],rfl,heap_alloc_new w _,fun i k u v he=>by simp [Hk.empty,tOf] at he⟩⟩)) (Step.alloc hi h0.bnd _) (.mp (t:=1000000+T) (es:=[]) (by simp [G9,TP,Hk.empty,tOf]) (by simp [upP]))
variable [DecidableEq κ]
theorem J5f {x y:Operand} {T K E:Nat} {ok:Bool} {m:Hk κ ν} {a:κ} (z0:ν) (zv:Value) (h5:∀ x,isT (av x)=false) (ho:o.op=.lookup T x y ok) (hm:J77 L kv av m (ev l x))
  (hx:ev l y=Qc (kv a)) (hk:G55 P K kv) (hT:Y2 P T K E=true) (hz:(P.info? E).bind (·.zero)=some zv) (h6:av z0=Qc zv) :
  Gj P o l L (Is (bif ok then .tup [av (m.get a z0),BL (m.has a)] else av (m.get a z0)) L):=
 H3 fun A w β h4 hf=>by
  obtain⟨b,vals,Hf,h0,g1,g2,h1,g3⟩:=(hf.ev x).tsrc h4 hm
  have h2:A.eval y=kv a:=H37 hf hx
  rcases H3a (P:=P) (w:=w) hk h5 g1 g2 g3 a with ⟨f1,f2⟩ | ⟨j,q,e,v,f1,f2,f3,f4,f5,f6,f7,f8⟩
  ·refine⟨if ok then .tuple #[zv,.bool false] else zv,?_,?_⟩
   ·simp only [execOp,ho,Instr.lookup,underlying,h0,h2,Sem.run_bind,run_program,Result.andThen_ok,Y2.out hT,Sem.run_pure,Jw h1,hk.check,f1,H76 hz]
   ·unfold Hk.get Hk.has Hk.Hf
    rw [J4b f2,Gf8 f2]
    have h3:V w β L (av z0) zv:=by rw [h6]; exact .data (G7c zv)
    cases ok
    ·exact h3
    ·refine .tup rfl fun j u v hu hv=>?_
     match j with
     | 0=>simp at hu hv; subst hu; subst hv; exact h3
     | 1=>simp at hu hv; subst hu; subst hv; exact .sc
     | j+2=>simp at hu
  ·refine⟨if ok then .tuple #[e.val,.bool true] else e.val,?_,?_⟩
   ·simp only [execOp,ho,Instr.lookup,underlying,h0,h2,Sem.run_bind,run_program,Result.andThen_ok,Y2.out hT,Sem.run_pure,Jw h1,hk.check,f1]
   ·unfold Hk.get Hk.has Hk.Hf
    obtain⟨_,k2,k3⟩:=G93 m.nd f6
    rw [k2,k3]
    cases ok
    ·exact .data f8
    ·refine .tup rfl fun j u v' hu hv=>?_
     match j with
     | 0=>simp at hu hv; subst hu; subst hv; exact .data f8
     | 1=>simp at hu hv; subst hu; subst hv; exact .sc
     | j+2=>simp at hu
theorem J2c {x y:Operand} {T K E:Nat} {m:Hk κ ν} {a:κ} (z0:ν) (zv:Value) (h0:∀ x,isT (av x)=false) (ho:o.op=.lookup T x y false) (hm:J77 L kv av m (ev l x))
  (hx:ev l y=Qc (kv a)) (hk:G55 P K kv) (hT:Y2 P T K E=true) (hz:(P.info? E).bind (·.zero)=some zv) (h1:av z0=Qc zv) :
  Gj P o l L (Is (av (m.get a z0)) L):=J5f (ok:=false) z0 zv h0 ho hm hx hk hT hz h1
theorem H6d {x y:Operand} {T K E:Nat} {m:Hk κ ν} {a:κ} (z0:ν) (zv:Value) (h0:∀ x,isT (av x)=false) (ho:o.op=.lookup T x y true) (hm:J77 L kv av m (ev l x))
  (hx:ev l y=Qc (kv a)) (hk:G55 P K kv) (hT:Y2 P T K E=true) (hz:(P.info? E).bind (·.zero)=some zv) (h1:av z0=Qc zv) :
  Gj P o l L (Is (.tup [av (m.get a z0),BL (m.has a)]) L):=J5f (ok:=true) z0 zv h0 ho hm hx hk hT hz h1
theorem J19 (l:List MapEntry) (j:Nat) (f:MapEntry→MapEntry):l.toArray.modify j f=(l.modify j f).toArray:=by
 apply Array.ext'
 simp
theorem H03 {x y z:Operand} {T K E i:Nat} {m:Hk κ ν} {a:κ} {v:ν} (h3:∀ x,isT (av x)=false) (ho:o.op=.mapUpdate T x y z) (hm:ev l x=.mp i) (hi:lk L i=some (TP T kv av m))
  (hx:ev l y=Qc (kv a)) (hy:(ev l z).plain=av v) (h8:(av v).isData=true) (hk:G55 P K kv) (hT:Y2 P T K E=true) :
  Gj P o l L (Is .junk ((i,TP T kv av (m.put a v))::L)):=by
 intro A w β KK Q h2 hf hK
 have hv:=hf.ev x
 rw [hm] at hv
 obtain⟨b,hb,h4⟩:=hv.inv_mp
 obtain⟨vals,Hf,g1,g2,h1,g3⟩:=H83 h2 hi hb
 have h5:A.eval y=kv a:=H37 hf hx
 have h6:=(hf.ev z).plain
 rw [hy] at h6
 have h7:=h6.toD h8
 rcases H3a (P:=P) (w:=w) hk h3 g1 g2 g3 a with ⟨f1,f2⟩ | ⟨j,q,e,v0,f1,f2,f3,f4,f5,f6,f7,f8⟩
 ·have hr:(execOp A.eval o).run P w=.ok .skip { w with heap:=w.heap.setIfInBounds b (.map (Hf.push { key:=kv a,val:=A.eval z,born:=m.l.length }) (m.l.length+1)) }:=by
   simp only [execOp,ho,Instr.mapUpdate,underlying,h4,h5,Sem.run_bind,run_program,Result.andThen_ok,Y2.out hT,Sem.run_pure,Jw h1,hk.check,f1,Yu h1]
  unfold Oper.wp
  rw [hr]
  have hp:(m.put a v).l=m.l++[some (a,v)]:=by show J64 m.l a v=_; unfold J64; rw [Gf8 f2]; rfl
  have h0:tOf kv av (m.l++[some (a,v)])=tOf kv av m.l++[(kv a,av v)]:=by simp [tOf]
  obtain⟨s1,s2⟩:=G28 h2 hi hb (m':=m.put a v) (vals':=vals++[A.eval z]) (by rw [hp,h0]; simp [g1]) (by rw [hp]; exact J80 g1 g3 h7) (ents':=Hf.push { key:=kv a,val:=A.eval z,born:=m.l.length }) (c:=m.l.length+1) (by
   rw [hp,h0,Haa _ _ g1 (h3 v),g2,G7b]; simp) (by rw [hp]; simp)
  exact hK _ _ _ _ β ⟨rfl,rfl⟩ s1 s2 .junk
 ·have h9:=hk.stays w a
  have hr:(execOp A.eval o).run P w=.ok .skip { w with heap:=w.heap.setIfInBounds b (.map (Hf.modify j fun e=>{ e with key:=kv a,val:=A.eval z }) m.l.length) }:=by
   have a0:((Hf[j]?).map (·.key)).getD (kv a)=kv a:=by rw [f2]; exact f5
   simp only [execOp,ho,Instr.mapUpdate,underlying,h4,h5,Sem.run_bind,run_program,Result.andThen_ok,Y2.out hT,Sem.run_pure,Jw h1,hk.check,f1,a0,h9,Yu h1]
  unfold Oper.wp
  rw [hr]
  have hp:(m.put a v).l=m.l.set q (some (a,v)):=J83 m.nd v f6
  have h0:tOf kv av (m.l.set q (some (a,v)))=(tOf kv av m.l).set q (kv a,av v):=by rw [tOf,List.map_set]; rfl
  obtain⟨s1,s2⟩:=G28 h2 hi hb (m':=m.put a v) (vals':=vals.set q (A.eval z)) (by rw [hp,h0]; simp [g1]) (by rw [hp]; exact Q2a g3 h7) (ents':=Hf.modify j fun e=>{ e with key:=kv a,val:=A.eval z }) (c:=m.l.length) (by
   rw [hp,h0,Ha9 _ _ _ (Gef f6) (h3 v0) (h3 v),g2,J19,Hc8 G29 f3,Nat.zero_add,f4]) (by rw [hp]; simp)
  exact hK _ _ _ _ β ⟨rfl,rfl⟩ s1 s2 .junk
end ops
end Go.Proofs.Ytokjlondbjdlfaa
