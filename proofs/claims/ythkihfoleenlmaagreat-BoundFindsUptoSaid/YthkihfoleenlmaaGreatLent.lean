/- Slices with known cells behind them: -/
import Derived.Test.YthkihfoleenlmaaGreatNest2
namespace Go.Proofs.YthkihfoleenlmaaGreat
open Go.RowKit
set_option linter.unusedVariables false

theorem H3e {a b:ByteArray}:(a==b)=true ↔ a=b:=by
 constructor
 ·intro h
  obtain⟨d⟩:=a; obtain⟨e⟩:=b
  have h:(d==e)=true:=h
  rw [beq_iff_eq] at h
  rw [h]
 ·intro h; subst h
  obtain⟨d⟩:=a
  show (d==d)=true
  rw [beq_iff_eq]
inductive Cv:AV→AV→Prop
 | same {u:AV}:Cv u u
 | agg {cs ds:List AV} (hl:ds.length=cs.length) (h:∀ (j:Nat) u u',cs[j]? = some u→ds[j]? = some u'→Cv u u'):Cv (.agg cs) (.agg ds)
 | list {k:Nat} {xs ys:List AV} (hl:ys.length=xs.length) (hk:∀ (j:Nat) x y,xs[j]? = some x→ys[j]? = some y→y.cells.length=x.cells.length) (h:∀ (j:Nat) u u',(flat xs)[j]? = some u→(flat ys)[j]? = some u'→Cv u u'):Cv (.list k xs) (.list k ys)
 | lst {k:Nat} {xs ys zs:List AV} (h:Cv (.list k xs) (.list k ys)):Cv (.lst k xs zs) (.list k ys)
 | tail {k:Nat} {xs ys:List AV} (h:Cv (.list k xs) (.list k ys)):Cv (.list k xs) (.lst k ys [])
theorem D.list_lst {w:World} {S:Nat→Nat→Prop} {k:Nat} {xs:List AV} {v:Value} (h:D w S (.list k xs) v):D w S (.lst k xs []) v:=by
 cases h with
 | nil h=>exact .lnil h
 | list vals h0 hm hk hS h=>exact .lst vals (by simpa using h0) hm (by simpa using hk) (by simpa using hS) (by simpa using h)
theorem D.cv {w:World} {S:Nat→Nat→Prop} {u u':AV} (hc:Cv u u'):∀ {v:Value},D w S u v→D w S u' v:=by
 induction hc with
 | same=>exact fun h=>h
 | agg hl _ ih=>
  intro v h
  cases h with
  | agg h3 h=>
   refine .agg (by rw [h3,hl]) (fun j u' x h0 hx=>?_)
   have hj:=(Nt h0).1
   exact ih j _ u' (Nu (by omega)) h0 (h j _ x (Nu (by omega)) hx)
 | @list k xs ys hl hk _ ih=>
  intro v h
  cases h with
  | nil h=>
   have:ys=[]:=Ni (by simpa using hl)
   subst this; exact .nil h
  | list vals h4 hm h1 hS h=>
   have h2:∀ y∈ys,y.cells.length=k:=fun y hy=>by
    obtain⟨j,hj⟩:=List.mem_iff_getElem?.1 hy
    have h5:=(Nt hj).1
    have hx:xs[j]? = some (xs[j]'(by omega)):=Nu (by omega)
    rw [hk j _ y hx hj]
    exact h1 _ (Nw hx)
   have h6:(flat ys).length=(flat xs).length:=by rw [J3 h2,J3 h1,hl]
   rw [← hl]
   refine .list vals (by omega) hm h2 (fun j hj=>hS j (by omega)) (fun j u' h0=>?_)
   have hj:=(Nt h0).1
   exact ih j _ u' (Nu (by omega)) h0 (h j _ (Nu (by omega)))
 | lst _ ih=>exact fun h=>ih h.lst_list
 | tail _ ih=>exact fun h=>(ih h).list_lst
theorem V.cv {w:World} {β:Gx} {L:Loc} {u u':AV} (hc:Cv u u'):∀ {v:Value},V w β L u v→V w β L u' v:=by
 induction hc with
 | same=>exact fun h=>h
 | agg hl _ ih=>
  intro v h
  obtain⟨vs,rfl,h1,h⟩:=h.inv_agg
  refine .agg (by rw [h1,hl]) (fun j u' x h0 hx=>?_)
  have hj:=(Nt h0).1
  exact ih j _ u' (Nu (by omega)) h0 (h j _ x (Nu (by omega)) hx)
 | list hl hk h=>exact fun hv=>.data (D.cv (.list hl hk h) hv.inv_list)
 | lst h=>exact fun hv=>by cases hv with | data hv=>exact .data (D.cv (.lst h) hv)
 | tail h=>exact fun hv=>.data (D.cv (.tail h) hv.inv_list)

def CvL:List AV→List AV→Prop
 | [],[]=>True
 | u::r,u'::r'=>Cv u u'∧CvL r r'
 | _,_=>False
theorem CvL.len:∀ {cs ds:List AV},CvL cs ds→ds.length=cs.length
 | [],[],_=>rfl
 | _::_,_::_,h=>by rw [P1,P1,CvL.len h.2]
 | [],_::_,h=>h.elim
 | _::_,[],h=>h.elim
theorem CvL.get:∀ {cs ds:List AV},CvL cs ds→∀ (j:Nat) u u',cs[j]? = some u→ds[j]? = some u'→Cv u u'
 | [],[],_,j,u,u',h,_=>by simp at h
 | _::_,_::_,h,0,u,u',h1,h2=>by simp at h1 h2; subst h1 h2; exact h.1
 | _::_,_::_,h,j+1,u,u',h1,h2=>CvL.get h.2 j u u' (by simpa using h1) (by simpa using h2)
 | [],_::_,h,_,_,_,_,_=>h.elim
 | _::_,[],h,_,_,_,_,_=>h.elim
theorem CvL.append:∀ {cs ds cs' ds':List AV},CvL cs ds→CvL cs' ds'→CvL (cs++cs') (ds++ds')
 | [],[],_,_,_,h=>h
 | _::_,_::_,_,_,h,h'=>⟨h.1,CvL.append h.2 h'⟩
 | [],_::_,_,_,h,_=>h.elim
 | _::_,[],_,_,h,_=>h.elim
theorem CvL.refl:∀ cs:List AV,CvL cs cs
 | []=>trivial
 | _::r=>⟨.same,CvL.refl r⟩
theorem Cv.aggL {cs ds:List AV} (h:CvL cs ds):Cv (.agg cs) (.agg ds):=.agg h.len h.get
section typed
variable {α β:Type} {f:α→AV} {g:β→AV} {k:Nat}
abbrev Ln (α:Type):=List α×List α
abbrev LT {α:Type} (k:Nat) (f:α→AV) (e:Ln α):AV:=.lst k (e.1.map f) (e.2.map f)
theorem Cv.listM (p:α→β) (h:∀ x,CvL (f x).cells (g (p x)).cells) (xs:List α):Cv (LS k f xs) (LS k g (xs.map p)):=by
 refine .list (by simp) (fun j x y hx hy=>?_) ?_
 ·rw [P2] at hx hy
  rw [P2] at hy
  cases hz:xs[j]? with
  | none=>rw [hz] at hx; cases hx
  | some z=>rw [hz] at hx hy; cases hx; cases hy; exact(h z).len
 ·have:CvL (flat (xs.map f)) (flat ((xs.map p).map g)):=by
   induction xs with
   | nil=>trivial
   | cons x xs ih=>exact(h x).append ih
  exact this.get
theorem Cv.lstM (p:α→β) (h:∀ x,CvL (f x).cells (g (p x)).cells) (e:Ln α):Cv (LT k f e) (LS k g (e.1.map p)):=.lst (.listM p h e.1)
theorem Cv.lst0 (e:Ln α):Cv (LT k f e) (LS k f e.1):=.lst .same
theorem Cv.of0 (xs:List α):Cv (LS k f xs) (LT k f (xs,[])):=.tail .same
end typed

section ops
variable {P:Program} {N:Cfg} {o:Oper} {l:Fr} {L L':Loc} {u u':AV} {α:Type}
theorem Gv.cv (hc:Cv u u') (h:Gv P o l L (Is u L')):Gv P o l L (Is u' L'):=fun a w β K Q hs hf hK=>h a w β K Q hs hf (fun v L'' x w' β' hr h0 h1 hv=>by
 obtain⟨rfl,rfl⟩:=hr
 exact hK _ _ _ _ _ ⟨rfl,rfl⟩ h0 h1 (hv.cv hc))
theorem jC (i:Nat) {x y:Operand} {T E k by_ c:Nat} {kd kd':IntKind} {nx ny:Int} (ho:o.op=.makeSlice T x y) (hx:ev l x=.sc (.int kd nx)) (hy:ev l y=.sc (.int kd' ny)) (hi:lk L i=none)
  (hT:sliceB P T E k=true) (hE:Qd P E k by_=true) (h0:nx=0) (hm:ny=(c:Int)) (hb:decide (by_*c≤281474976710656∧c≤maxLen)=true):Gv P o l L (Is (.own i 0 k []) ((i,.spare E k 0 0)::L)):=by
 subst h0 hm
 intro a w β K Q h4 hf hK
 have h1:=Np hb
 obtain⟨inf,zv,e1,e2,e3,e4,e5,e6⟩:=Qd.out hE
 have h2:=hf.ev x
 rw [hx] at h2
 have h3:=hf.ev y
 rw [hy] at h3
 have h5:(c:Int)≤9223372036854775807:=by
  have h:=h1.2
  simp [maxLen] at h
  omega
 have h7:(inf.bytes:Int)*(c:Int)≤281474976710656:=by
  have h:((inf.bytes*c:Nat):Int)≤281474976710656:=by rw [e3]; have:=h1.1; omega
  rwa [Int.natCast_mul] at h
 have hr:=run_make (P:=P) w T E inf zv (sliceB.out hT).1 e1 e4 kd kd' 0 c (Int.le_refl _) (by omega) h7 h5
 simp only [Int.toNat_zero,Int.toNat_natCast] at hr
 have h6:(execOp a.eval o).run P w=.ok (.value (.slice (some ⟨w.heap.size,0,none⟩) 0 c)) (w.alloc (.cells (madeCells zv.cells (c*inf.size)) E)):=by
  simp [execOp,ho,h2.inv_sc,h3.inv_sc,hr]
 unfold Oper.wp
 rw [h6]
 obtain⟨st,sat,hv⟩:=H56 E k (madeCells zv.cells (c*inf.size)) c h1.2 (World.ownsRow_made w _ c (Nat.zero_le _) h1.2 (by rw [size_madeCells,e2])) h4 hi
 exact hK _ _ _ _ _ ⟨rfl,rfl⟩ sat st hv

theorem xO {T E k:Nat} (hT:sliceB P T E k=true) (a:Option Addr) (len cap n:Nat) (kd:IntKind) (w:World) (hn:n≤cap) :
  (Instr.sliceAt T (.slice a len cap) none (some (.int kd n)) none).run P w=.ok (.slice (if cap=0 then a else a.map (·.add (0*k))) n cap) w:=by
 obtain⟨h1,h2⟩:=sliceB.out hT
 have h3:=Q2 h2 w
 have hb:(Instr.sliceBound (.int kd (n:Int)) cap .sliceAcap).run P w=.ok n w:=by
  have:(0:Int)≤n∧(n:Int)≤cap:=⟨by omega,by omega⟩
  simp [Instr.sliceBound,asIntOf,this]
 have hs:(Instr.sliceBounds true len cap none (some (.int kd n)) none).run P w=.ok (0,n,cap) w:=by
  simp [Instr.sliceBounds,hb]
 simp [Instr.sliceAt,Instr.slice,run_underlying h1,hs,h3]
theorem D.cut {w:World} {S:Nat→Nat→Prop} {k n:Nat} {xs:List AV} {a:Option Addr} {len cap:Nat} (h:D w S (.list k xs) (.slice a len cap)) (hn:n≤xs.length) :
  D w S (.lst k (xs.take n) (xs.drop n)) (.slice (if cap=0 then a else a.map (·.add (0*k))) n cap):=by
 cases h with
 | nil h=>
  have:n=0:=by simpa using hn
  subst this
  simp only [List.take_nil,List.drop_nil]
  exact .lnil h
 | @list _ b off _ _ vals h0 hm hk hS h=>
  have e:(if cap=0 then some (⟨b,off,none⟩:Addr) else (some (⟨b,off,none⟩:Addr)).map (·.add (0*k)))=some ⟨b,off,none⟩:=by
   split <;> simp [Addr.add_lit]
  rw [e]
  have hl:(xs.take n).length=n:=by rw [List.length_take]; omega
  have:=D.lst (w:=w) (S:=S) (k:=k) (b:=b) (off:=off) (cap:=cap) (xs:=xs.take n) (ys:=xs.drop n) vals (by rw [← P5,List.take_append_drop]; exact h0) hm (by rw [List.take_append_drop]; exact hk) (by rw [List.take_append_drop]; exact hS) (by rw [List.take_append_drop]; exact h)
  rwa [hl] at this
theorem D.whole {w:World} {S:Nat→Nat→Prop} {k n:Nat} {xs ys:List AV} {a:Option Addr} {len cap:Nat} (h:D w S (.lst k xs ys) (.slice a len cap)) (hn:n≤xs.length+ys.length) :
  D w S (.list k ((xs++ys).take n)) (.slice (if cap=0 then a else a.map (·.add (0*k))) n cap)∧xs.length+ys.length≤cap:=by
 cases h with
 | lnil h=>
  have:n=0:=by simpa using hn
  subst this
  exact⟨.nil h,Nat.zero_le _⟩
 | @lst _ b off _ _ _ vals h1 hm hk hS h=>
  refine⟨?_,h1⟩
  have e:(if cap=0 then some (⟨b,off,none⟩:Addr) else (some (⟨b,off,none⟩:Addr)).map (·.add (0*k)))=some ⟨b,off,none⟩:=by
   split <;> simp [Addr.add_lit]
  rw [e]
  have hl:((xs++ys).take n).length=n:=by rw [List.length_take,P5]; omega
  have h0:flat ((xs++ys).take n)=(flat (xs++ys)).take (n*k):=eU hk n
  have:=D.list (w:=w) (S:=S) (k:=k) (b:=b) (off:=off) (cap:=cap) (xs:=(xs++ys).take n) vals (by omega) hm (fun x hx=>hk x (List.mem_of_mem_take hx)) (fun j hj=>hS j (by rw [h0,List.length_take] at hj; omega)) (fun j u hu=>h j u (by
   rw [h0,P3] at hu
   split at hu
   ·exact hu
   ·cases hu))
  rwa [hl] at this
theorem ZW {x p:Operand} {T E k n:Nat} {kd:IntKind} {ni:Int} {f:α→AV} {xs:List α} (ho:o.op=.slice T x none (some p) none) (hx:Jt (ev l x)=some (k,xs.map f)) (hp:ev l p=.sc (.int kd ni)) (hT:sliceB P T E k=true) (hn:ni=(n:Int)∧n≤xs.length):Gv P o l L (Is (LT k f (xs.take n,xs.drop n)) L):=
 Hb fun a w β h3 hf=>by
  obtain⟨rfl,hn⟩:=hn
  have h1:=(hf.ev x).Jt hx
  obtain⟨ao,cap,he,h2,h4⟩:=h1.len
  rw [he] at h1
  have h0:=hf.ev p
  rw [hp] at h0
  rw [P9] at h2
  refine⟨_,?_,.data (by
   have:=h1.cut (n:=n) (by rw [P9]; exact hn)
   rw [← List.map_take,← List.map_drop] at this
   exact this)⟩
  simp only [execOp,ho,he,h0.inv_sc,Sem.run_bind,Option.map_none,Option.map_some]
  rw [xO hT ao _ cap n kd w (by omega)]
  rfl
theorem sS {x p:Operand} {T E k n:Nat} {kd:IntKind} {ni:Int} {f:α→AV} {e:Ln α} (ho:o.op=.slice T x none (some p) none) (hx:ev l x=LT k f e) (hp:ev l p=.sc (.int kd ni)) (hT:sliceB P T E k=true) (hn:ni=(n:Int)∧n≤(e.1++e.2).length):Gv P o l L (Is (LS k f ((e.1++e.2).take n)) L):=
 Hb fun a w β h4 hf=>by
  obtain⟨rfl,hn⟩:=hn
  rw [P5] at hn
  have h0:=hf.ev x
  rw [hx] at h0
  have h3:=hf.ev p
  rw [hp] at h3
  cases h0 with
  | data h0=>
   obtain⟨ao,cap,he,_,_⟩:=h0.lst_list.len
   rw [he] at h0
   obtain⟨h1,h2⟩:=h0.whole (n:=n) (by simpa using hn)
   rw [P9,P9] at h2
   refine⟨_,?_,.data (by
    rw [← List.map_append,← List.map_take] at h1
    exact h1)⟩
   simp only [execOp,ho,he,h3.inv_sc,Sem.run_bind,Option.map_none,Option.map_some]
   rw [xO hT ao _ cap n kd w (by omega)]
   rfl
end ops
end Go.Proofs.YthkihfoleenlmaaGreat
