/-
 Slices with known cells behind them: Slices that lie alone in a block:
-/
import Derived.Test.YthkihfoleenlmaaGreatNest2
import Derived.Test.YthkihfoleenlmaaGreatLend
namespace Go.Proofs.YthkihfoleenlmaaGreat
open Go.RowKit
set_option linter.unusedVariables false

theorem H99 {a b:ByteArray}:(a==b)=true ↔ a=b:=by
 constructor
 .intro h
  obtain⟨d⟩:=a; obtain⟨e⟩:=b
  have h:(d==e)=true:=h
  rw [beq_iff_eq] at h
  rw [h]
 .intro h; subst h
  obtain⟨d⟩:=a
  show (d==d)=true
  rw [beq_iff_eq]
inductive Cv:AV→AV→Prop
 | same {u:AV}:Cv u u
 | agg {cs ds:List AV} (hl:ds.length=cs.length) (h:∀ (j:Nat) u u',cs[j]? = some u→ds[j]? = some u'→Cv u u'):Cv (.agg cs) (.agg ds)
 | list {k:Nat} {xs ys:List AV} (hl:ys.length=xs.length) (hk:∀ (j:Nat) x y,xs[j]? = some x→ys[j]? = some y→y.cells.length=x.cells.length) (h:∀ (j:Nat) u u',(flat xs)[j]? = some u→(flat ys)[j]? = some u'→Cv u u'):Cv (.list k xs) (.list k ys)
 | lst {k:Nat} {xs ys zs:List AV} (h:Cv (.list k xs) (.list k ys)):Cv (.lst k xs zs) (.list k ys)
 | tail {k:Nat} {xs ys:List AV} (h:Cv (.list k xs) (.list k ys)):Cv (.list k xs) (.lst k ys [])
theorem D.list_lst {w:World} {S:Nat→Nat→Prop} {k:Nat} {xs:List AV} {v:Value} (h:D w S (.list k xs) v):D w S (.lst k xs []) v:=by
 cases h with
 | nil h=>exact .lnil h
 | list vals h0 hm hk hS h=>exact .lst vals (by simpa using h0) hm (by simpa using hk) (by simpa using hS) (by simpa using h)
theorem D.cv {w:World} {S:Nat→Nat→Prop} {u u':AV} (hc:Cv u u'):∀ {v:Value},D w S u v→D w S u' v:=by
 induction hc with
 | same=>exact fun h=>h
 | agg hl _ ih=>
  intro v h
  cases h with
  | agg h3 h=>
   refine .agg (by rw [h3,hl]) (fun j u' x h0 hx=>?_)
   have hj:=(Pa h0).1
   exact ih j _ u' (Pb (by omega)) h0 (h j _ x (Pb (by omega)) hx)
 | @list k xs ys hl hk _ ih=>
  intro v h
  cases h with
  | nil h=>
   have:ys=[]:=P1 (by simpa using hl)
   subst this; exact .nil h
  | list vals h4 hm h1 hS h=>
   have h2:∀ y∈ys,y.cells.length=k:=fun y hy=>by
    obtain⟨j,hj⟩:=List.mem_iff_getElem?.1 hy
    have h5:=(Pa hj).1
    have hx:xs[j]? = some (xs[j]'(by omega)):=Pb (by omega)
    rw [hk j _ y hx hj]
    exact h1 _ (Pd hx)
   have h6:(flat ys).length=(flat xs).length:=by rw [Jf h2,Jf h1,hl]
   rw [← hl]
   refine .list vals (by omega) hm h2 (fun j hj=>hS j (by omega)) (fun j u' h0=>?_)
   have hj:=(Pa h0).1
   exact ih j _ u' (Pb (by omega)) h0 (h j _ (Pb (by omega)))
 | lst _ ih=>exact fun h=>ih h.lst_list
 | tail _ ih=>exact fun h=>(ih h).list_lst
theorem V.cv {w:World} {β:H4} {L:Loc} {u u':AV} (hc:Cv u u'):∀ {v:Value},V w β L u v→V w β L u' v:=by
 induction hc with
 | same=>exact fun h=>h
 | agg hl _ ih=>
  intro v h
  obtain⟨vs,rfl,h1,h⟩:=h.inv_agg
  refine .agg (by rw [h1,hl]) (fun j u' x h0 hx=>?_)
  have hj:=(Pa h0).1
  exact ih j _ u' (Pb (by omega)) h0 (h j _ x (Pb (by omega)) hx)
 | list hl hk h=>exact fun hv=>.data (D.cv (.list hl hk h) hv.inv_list)
 | lst h=>exact fun hv=>by cases hv with | data hv=>exact .data (D.cv (.lst h) hv)
 | tail h=>exact fun hv=>.data (D.cv (.tail h) hv.inv_list)

def CvL:List AV→List AV→Prop
 | [],[]=>True
 | u::r,u'::r'=>Cv u u'/\CvL r r'
 | _,_=>False
theorem CvL.len:∀ {cs ds:List AV},CvL cs ds→ds.length=cs.length
 | [],[],_=>rfl
 | _::_,_::_,h=>by rw [Pi,Pi,CvL.len h.2]
 | [],_::_,h=>h.elim
 | _::_,[],h=>h.elim
theorem CvL.get:∀ {cs ds:List AV},CvL cs ds→∀ (j:Nat) u u',cs[j]? = some u→ds[j]? = some u'→Cv u u'
 | [],[],_,j,u,u',h,_=>by simp at h
 | _::_,_::_,h,0,u,u',h1,h2=>by simp at h1 h2; subst h1 h2; exact h.1
 | _::_,_::_,h,j+1,u,u',h1,h2=>CvL.get h.2 j u u' (by simpa using h1) (by simpa using h2)
 | [],_::_,h,_,_,_,_,_=>h.elim
 | _::_,[],h,_,_,_,_,_=>h.elim
theorem CvL.append:∀ {cs ds cs' ds':List AV},CvL cs ds→CvL cs' ds'→CvL (cs++cs') (ds++ds')
 | [],[],_,_,_,h=>h
 | _::_,_::_,_,_,h,h'=>⟨h.1,CvL.append h.2 h'⟩
 | [],_::_,_,_,h,_=>h.elim
 | _::_,[],_,_,h,_=>h.elim
theorem CvL.refl:∀ cs:List AV,CvL cs cs
 | []=>trivial
 | _::r=>⟨.same,CvL.refl r⟩
theorem Cv.aggL {cs ds:List AV} (h:CvL cs ds):Cv (.agg cs) (.agg ds):=.agg h.len h.get
section typed
variable {J β:Type} {f:J→AV} {g:β→AV} {k:Nat}
abbrev Ln (J:Type):=List J×List J
abbrev LT {J:Type} (k:Nat) (f:J→AV) (e:Ln J):AV:=.lst k (e.1.map f) (e.2.map f)
theorem Cv.listM (p:J→β) (h:∀ x,CvL (f x).cells (g (p x)).cells) (xs:List J):Cv (LS k f xs) (LS k g (xs.map p)):=by
 refine .list (by simp) (fun j x y hx hy=>?_) ?_
 .rw [Pj] at hx hy
  rw [Pj] at hy
  cases hz:xs[j]? with
  | none=>rw [hz] at hx; cases hx
  | some z=>rw [hz] at hx hy; cases hx; cases hy; exact(h z).len
 .have:CvL (flat (xs.map f)) (flat ((xs.map p).map g)):=by
   induction xs with
   | nil=>trivial
   | cons x xs ih=>exact(h x).append ih
  exact this.get
theorem Cv.lstM (p:J→β) (h:∀ x,CvL (f x).cells (g (p x)).cells) (e:Ln J):Cv (LT k f e) (LS k g (e.1.map p)):=.lst (.listM p h e.1)
theorem Cv.lst0 (e:Ln J):Cv (LT k f e) (LS k f e.1):=.lst .same
theorem Cv.of0 (xs:List J):Cv (LS k f xs) (LT k f (xs,[])):=.tail .same
end typed

section ops
variable {P:Program} {N:Cfg} {o:Oper} {l:Fr} {L L':Loc} {u u':AV} {J:Type}
theorem H2.cv (hc:Cv u u') (h:H2 P o l L (Is u L')):H2 P o l L (Is u' L'):=fun a w β K Q hs hf hK=>h a w β K Q hs hf (fun v L'' x w' J' hr h0 h1 hv=>by
 obtain⟨rfl,rfl⟩:=hr
 exact hK _ _ _ _ _ ⟨rfl,rfl⟩ h0 h1 (hv.cv hc))
theorem fD (i:Nat) {x y:Operand} {T E k by_ c:Nat} {kd kd':IntKind} {nx ny:Int} (ho:o.op=.makeSlice T x y) (hx:ev l x=.sc (.int kd nx)) (hy:ev l y=.sc (.int kd' ny)) (hi:lk L i=none)
  (hT:sliceB P T E k=true) (hE:Qo P E k by_=true) (h0:nx=0) (hm:ny=(c:Int)) (hb:decide (by_*c≤281474976710656/\c≤maxLen)=true):H2 P o l L (Is (.own i 0 k []) ((i,.spare E k 0 0)::L)):=by
 subst h0 hm
 intro a w β K Q h4 hf hK
 have h1:=P6 hb
 obtain⟨inf,zv,e1,e2,e3,e4,e5,e6⟩:=Qo.out hE
 have h2:=hf.ev x
 rw [hx] at h2
 have h3:=hf.ev y
 rw [hy] at h3
 have h5:(c:Int)≤9223372036854775807:=by
  have h:=h1.2
  simp [maxLen] at h
  omega
 have h7:(inf.bytes:Int)*(c:Int)≤281474976710656:=by
  have h:((inf.bytes*c:Nat):Int)≤281474976710656:=by rw [e3]; have:=h1.1; omega
  rwa [Int.natCast_mul] at h
 have hr:=run_make (P:=P) w T E inf zv (sliceB.out hT).1 e1 e4 kd kd' 0 c (Int.le_refl _) (by omega) h7 h5
 simp only [Int.toNat_zero,Int.toNat_natCast] at hr
 have h6:(execOp a.eval o).run P w=.ok (.value (.slice (some ⟨w.heap.size,0,none⟩) 0 c)) (w.alloc (.cells (madeCells zv.cells (c*inf.size)) E)):=by
  simp [execOp,ho,h2.inv_sc,h3.inv_sc,hr]
 unfold Oper.wp
 rw [h6]
 obtain⟨st,sat,hv⟩:=Hb7 E k (madeCells zv.cells (c*inf.size)) c h1.2 (World.ownsRow_made w _ c (Nat.zero_le _) h1.2 (by rw [size_madeCells,e2])) h4 hi
 exact hK _ _ _ _ _ ⟨rfl,rfl⟩ sat st hv

theorem GE {T E k:Nat} (hT:sliceB P T E k=true) (a:Option Addr) (len cap n:Nat) (kd:IntKind) (w:World) (hn:n≤cap) :
  (Instr.sliceAt T (.slice a len cap) none (some (.int kd n)) none).run P w=.ok (.slice (if cap=0 then a else a.map (·.add (0*k))) n cap) w:=by
 obtain⟨h1,h2⟩:=sliceB.out hT
 have h3:=Qn h2 w
 have hb:(Instr.sliceBound (.int kd (n:Int)) cap .sliceAcap).run P w=.ok n w:=by
  have:(0:Int)≤n/\(n:Int)≤cap:=⟨by omega,by omega⟩
  simp [Instr.sliceBound,asIntOf,this]
 have hs:(Instr.sliceBounds true len cap none (some (.int kd n)) none).run P w=.ok (0,n,cap) w:=by
  simp [Instr.sliceBounds,hb]
 simp [Instr.sliceAt,Instr.slice,run_underlying h1,hs,h3]
theorem D.cut {w:World} {S:Nat→Nat→Prop} {k n:Nat} {xs:List AV} {a:Option Addr} {len cap:Nat} (h:D w S (.list k xs) (.slice a len cap)) (hn:n≤xs.length) :
  D w S (.lst k (xs.take n) (xs.drop n)) (.slice (if cap=0 then a else a.map (·.add (0*k))) n cap):=by
 cases h with
 | nil h=>
  have:n=0:=by simpa using hn
  subst this
  simp only [List.take_nil,List.drop_nil]
  exact .lnil h
 | @list _ b off _ _ vals h0 hm hk hS h=>
  have e:(if cap=0 then some (⟨b,off,none⟩:Addr) else (some (⟨b,off,none⟩:Addr)).map (·.add (0*k)))=some ⟨b,off,none⟩:=by
   split <;> simp [Addr.add_lit]
  rw [e]
  have hl:(xs.take n).length=n:=by rw [List.length_take]; omega
  have:=D.lst (w:=w) (S:=S) (k:=k) (b:=b) (off:=off) (cap:=cap) (xs:=xs.take n) (ys:=xs.drop n) vals (by rw [← Pn,List.take_append_drop]; exact h0) hm (by rw [List.take_append_drop]; exact hk) (by rw [List.take_append_drop]; exact hS) (by rw [List.take_append_drop]; exact h)
  rwa [hl] at this
theorem D.whole {w:World} {S:Nat→Nat→Prop} {k n:Nat} {xs ys:List AV} {a:Option Addr} {len cap:Nat} (h:D w S (.lst k xs ys) (.slice a len cap)) (hn:n≤xs.length+ys.length) :
  D w S (.list k ((xs++ys).take n)) (.slice (if cap=0 then a else a.map (·.add (0*k))) n cap)/\xs.length+ys.length≤cap:=by
 cases h with
 | lnil h=>
  have:n=0:=by simpa using hn
  subst this
  exact⟨.nil h,Nat.zero_le _⟩
 | @lst _ b off _ _ _ vals h1 hm hk hS h=>
  refine⟨?_,h1⟩
  have e:(if cap=0 then some (⟨b,off,none⟩:Addr) else (some (⟨b,off,none⟩:Addr)).map (·.add (0*k)))=some ⟨b,off,none⟩:=by
   split <;> simp [Addr.add_lit]
  rw [e]
  have hl:((xs++ys).take n).length=n:=by rw [List.length_take,Pn]; omega
  have h0:flat ((xs++ys).take n)=(flat (xs++ys)).take (n*k):=gC hk n
  have:=D.list (w:=w) (S:=S) (k:=k) (b:=b) (off:=off) (cap:=cap) (xs:=(xs++ys).take n) vals (by omega) hm (fun x hx=>hk x (List.mem_of_mem_take hx)) (fun j hj=>hS j (by rw [h0,List.length_take] at hj; omega)) (fun j u hu=>h j u (by
   rw [h0,Pk] at hu
   split at hu
   .exact hu
   .cases hu))
  rwa [hl] at this
theorem yK {x p:Operand} {T E k n:Nat} {kd:IntKind} {ni:Int} {f:J→AV} {xs:List J} (ho:o.op=.slice T x none (some p) none) (hx:Jz (ev l x)=some (k,xs.map f)) (hp:ev l p=.sc (.int kd ni)) (hT:sliceB P T E k=true) (hn:ni=(n:Int)/\n≤xs.length):H2 P o l L (Is (LT k f (xs.take n,xs.drop n)) L):=
 Hm fun a w β h3 hf=>by
  obtain⟨rfl,hn⟩:=hn
  have h1:=(hf.ev x).Jz hx
  obtain⟨ao,cap,he,h2,h4⟩:=h1.len
  rw [he] at h1
  have h0:=hf.ev p
  rw [hp] at h0
  rw [Pr] at h2
  refine⟨_,?_,.data (by
   have:=h1.cut (n:=n) (by rw [Pr]; exact hn)
   rw [← List.map_take,← List.map_drop] at this
   exact this)⟩
  simp only [execOp,ho,he,h0.inv_sc,Sem.run_bind,Option.map_none,Option.map_some]
  rw [GE hT ao _ cap n kd w (by omega)]
  rfl
theorem mD {x p:Operand} {T E k n:Nat} {kd:IntKind} {ni:Int} {f:J→AV} {e:Ln J} (ho:o.op=.slice T x none (some p) none) (hx:ev l x=LT k f e) (hp:ev l p=.sc (.int kd ni)) (hT:sliceB P T E k=true) (hn:ni=(n:Int)/\n≤(e.1++e.2).length):H2 P o l L (Is (LS k f ((e.1++e.2).take n)) L):=
 Hm fun a w β h4 hf=>by
  obtain⟨rfl,hn⟩:=hn
  rw [Pn] at hn
  have h0:=hf.ev x
  rw [hx] at h0
  have h3:=hf.ev p
  rw [hp] at h3
  cases h0 with
  | data h0=>
   obtain⟨ao,cap,he,_,_⟩:=h0.lst_list.len
   rw [he] at h0
   obtain⟨h1,h2⟩:=h0.whole (n:=n) (by simpa using hn)
   rw [Pr,Pr] at h2
   refine⟨_,?_,.data (by
    rw [← List.map_append,← List.map_take] at h1
    exact h1)⟩
   simp only [execOp,ho,he,h3.inv_sc,Sem.run_bind,Option.map_none,Option.map_some]
   rw [GE hT ao _ cap n kd w (by omega)]
   rfl
end ops

section
variable {w:World} {β:H4} {L L':Loc}
theorem V.vblk {i ver n t k:Nat} {xs:List AV} {v:Value} (h0:Sat w β L) (hi:lk L i=some (.vec t k ver xs)) (h6:sH L L') (h7:lk L' i=none) (h:V w β L (.vec i ver k n) v) :
  ∃ o,V w β L' (.blk o t k (.list k xs)) v/\∀ b c,o=some (b,c)→β i=some b:=by
 have hd:=(V.vfreeze h0 hi h6 h7 h).inv_list
 obtain⟨rfl,hk,h⟩:=iL h0 hi h
 rcases h with ⟨rfl,rfl,_⟩ | ⟨b,cap,vs,rfl,hb,h1,h2,h3,h4,h5⟩
 .exact⟨none,.data (.blk (.inl ⟨rfl,rfl⟩) hd),fun b c e=>by cases e⟩
 .refine⟨some (b,cap),.data (.blk (.inr ⟨b,cap,xs.length,vs,rfl,rfl,h1,h2,h3,h4,fun j=>⟨(Nz h3).1,h0.apart i b _ (by rw [hi]; rfl) hb,fun id o ho h8=>?_⟩⟩) hd),fun b' c e=>by cases e; exact hb⟩
  obtain⟨o0,h9,_⟩:=h6.like id o ho
  have:=h0.inj i id b (by rw [hi]; rfl) (by rw [h9]; rfl) hb h8
  subst this
  rw [h7] at ho; cases ho
end
section
variable {P:Program} {N:Cfg} {Q:Post} {l:Fr} {L:Loc}
theorem V.vfrz {w:World} {β:H4} {L':Loc} {i ver hw t0 t k:Nat} {J:Type} {g:J→AV} {es:List (Option (Nat×Nat)×J)} {v:Value} (a3:Sat w β L) (hi:lk L i=some (.spare t0 1 ver hw)) (a9:sH L L') (b5:lk L' i=none)
  (h:V w β L (.own i ver 1 (es.map fun e=>.blk e.1 t k (g e.2))) v) (hn:(lB (es.map (·.1))).Nodup) (hg:∀ x,(g x).cells=[g x]):V w β L' (.frz t k (.list 1 (es.map fun e=>g e.2))) v:=by
 have mono:∀ b j,Ji w β L b j→Ji w β L' b j/\Zb w b j=Zb w b j:=fun b j hs=>⟨a9.stab hs,rfl⟩
 have b6:∀ xs:List (Option (Nat×Nat)×J),flat (xs.map fun e=>AV.blk e.1 t k (g e.2))=xs.map fun e=>AV.blk e.1 t k (g e.2):=fun xs=>by
  induction xs with
  | nil=>rfl
  | cons y r ih=>simp [flat,AV.cells,ih]
 have b1:∀ xs:List (Option (Nat×Nat)×J),flat (xs.map fun e=>g e.2)=xs.map fun e=>g e.2:=fun xs=>by
  induction xs with
  | nil=>rfl
  | cons y r ih=>simp [flat,hg,ih]
 cases h with
 | data h=>cases h
 | own hd hp=>
  obtain⟨t1,ver',c2,h1,h2,h3⟩:=hp
  rw [hi] at h1
  cases h1
  obtain⟨_,h4,vals0,a4,hD⟩:=h3 rfl
  rcases ownsRow_form a4 with ⟨rfl,b7,_⟩ | ⟨b0,cap,cur,rfl,b2,a5,b3,h0,h8⟩
  .have he:es=[]:=by
    cases es with
    | nil=>rfl
    | cons y r=>simp at b7
   subst he
   exact .data (.frz ⟨[],[],rfl,fun j o x ho=>by simp at ho,.nil,.inl ⟨rfl,rfl⟩⟩ (.nil (Nat.zero_le _)))
  .rw [b2] at h4
   have h9:β i=some b0:=h4.symm
   have h6:∀ j,Ji w β L' b0 j:=fun j=>⟨(Nz h0).1,a3.apart i b0 j (by rw [hi]; rfl) h9,fun id o ho b8=>by
    obtain⟨o0,b9,_⟩:=a9.like id o ho
    have:=a3.inj i id b0 (by rw [hi]; rfl) (by rw [b9]; rfl) h9 b8
    subst this
    rw [b5] at ho; cases ho⟩
   have a6:∀ (m:Nat) e,es[m]? = some e→∃ x,cur[m]? = some x/\D w (Ji w β L) (.blk e.1 t k (g e.2)) x:=fun m e hm=>by
    have hu:(flat (es.map fun e=>AV.blk e.1 t k (g e.2)))[m]? = some (AV.blk e.1 t k (g e.2)):=by
     rw [b6,Pj,hm]; rfl
    obtain⟨x,hx,h5⟩:=hD m _ hu
    have c3:m < es.length:=(Pa hm).1
    have hc:=kP a4 b2 (j:=m) (by rw [Pr]; omega)
    rw [hx] at hc
    have c0:w.cell? ⟨b0,m,none⟩=cur[m]? := by simp [World.cell?,h0]
    rw [c0] at hc
    exact⟨x,hc,h5⟩
   have c1:(es.map fun e=>AV.blk e.1 t k (g e.2)).length=es.length:=Pr ..
   have h8:es.length≤cur.size:=by simpa using h8
   rw [c1] at a5 ⊢
   have a0:(cur.toList.take es.length).length=es.length:=by rw [List.length_take,Array.length_toList]; exact Nat.min_eq_left h8
   have b4:∀ j,j < es.length→cur[j]? = (cur.toList.take es.length)[j]? := fun j hj=>by
    rw [Pk,if_pos hj,Array.getElem?_toList]
   refine .data (.frz ⟨cur.toList.take es.length,es.map (·.1),by rw [Pr,a0],fun j o x ho hx=>?_,hn,.inr ⟨b0,cap,cur,t0,(0,0),by rw [a0],by rw [a0]; exact a5,b3,h0,fun j hj=>b4 j (by rw [a0] at hj; exact hj),h6,fun hm=>?_⟩⟩ ?_)
   .rw [Pj] at ho
    obtain⟨e,he,rfl⟩:=Option.map_eq_some_iff.1 ho
    obtain⟨x',a1,h5⟩:=a6 j e he
    have hj:j < es.length:=(Pa he).1
    rw [← b4 j hj,a1] at hx
    cases hx
    cases h5 with
    | blk a7 _=>exact a7.mono mono
   .unfold lB at hm
    obtain⟨o,ho,h4⟩:=List.mem_filterMap.1 hm
    obtain⟨e,he,rfl⟩:=Pt.1 ho
    obtain⟨m,hm⟩:=List.mem_iff_getElem?.1 he
    obtain⟨x',_,h5⟩:=a6 m e hm
    cases h5 with
    | blk a7 _=>
     rcases a7 with ⟨h1,_⟩ | ⟨b',c,n,vs,h1,_,_,_,_,_,h7⟩
     .rw [h1] at h4; cases h4
     .rw [h1] at h4
      cases h4
      have:=(h7 hw).kept i _ hi h9
      have:hw < hw*1:=this
      omega
   .have a8:(es.map fun e=>g e.2).length=es.length:=Pr ..
    have:=D.list (w:=w) (S:=Ji w β L') (k:=1) (b:=b0) (off:=0) (cap:=cap) (xs:=es.map fun e=>g e.2) (fun j=>cur.getD j undef) (by show (es.map fun e=>g e.2).length≤cap; rw [a8]; exact a5) b3 (fun x hx=>by
     obtain⟨e,_,rfl⟩:=Pt.1 hx
     rw [hg]; rfl) (fun j hj=>⟨h6 _,by
     rw [b1] at hj
     rw [a8] at hj
     rw [Nat.zero_add]
     have a2:j < cur.size:=by omega
     simp [World.cell?,h0,a2]⟩) (fun j u hu=>by
     rw [b1,Pj] at hu
     obtain⟨e,he,rfl⟩:=Option.map_eq_some_iff.1 hu
     obtain⟨x',a1,h5⟩:=a6 j e he
     have a2:j < cur.size:=(Nz a1).1
     have:cur.getD j undef=x':=by
      have h2:cur[j]? = some cur[j]:=by simp [a2]
      rw [a1] at h2
      cases h2
      simp [Array.getD,a2]
     rw [this]
     cases h5 with
     | blk _ h=>exact h.mono mono)
    rw [a8] at this
    exact this
theorem Jab {c:Code} (tt:Nat) (l1:Fr) (L':Loc) (i:Nat) {t0 ver hw t k:Nat} {J:Type} {g:J→AV} {es:List (Option (Nat×Nat)×J)} (hi:lk L i=some (.spare t0 1 ver hw)) (ht:look l tt=.own i ver 1 (es.map fun e=>.blk e.1 t k (g e.2)))
  (h2:lk L' i=none) (hl:bQ (fun j=>(lk L' j).isSome) L L') (hb:allIn L' N.base=true) (hf:lD (fun j=>(lk L' j).isSome) l l1) (hn:(lB (es.map (·.1))).Nodup) (hg:∀ x,(g x).cells=[g x])
  (hk:JC P N c Q ((tt,.frz t k (.list 1 (es.map fun e=>g e.2)))::l1) L'):JC P N c Q l L:=fun m w0 β0 L0 a w β hs=>by
 have h0:Fits N.base l L l1 L':=⟨hf,hl,hb⟩
 have h1:=hs.fits h0
 have hv:=hs.frame.tmp tt
 rw [ht] at hv
 have g1:=V.vfrz hs.sat hi h0.drop h2 hv hn hg
 refine hk m w0 β0 L0 a w β ⟨h1.sat,h1.step,⟨fun t'=>?_⟩,h1.size,h1.base,h1.defers⟩
 by_cases e:tt=t'
 .subst e
  have:look ((tt,AV.frz t k (.list 1 (es.map fun e=>g e.2)))::l1) tt=.frz t k (.list 1 (es.map fun e=>g e.2)):=by simp [look]
  rw [this]
  exact g1
 .have:look ((tt,AV.frz t k (.list 1 (es.map fun e=>g e.2)))::l1) t'=look l1 t':=by
   have h3:Nat.beq tt t'=false:=by
    cases hq:Nat.beq tt t' with
    | false=>rfl
    | true=>exact(e (P2 hq)).elim
   simp [look,h3]
  rw [this]
  exact h1.frame.tmp t'
theorem J5b {o:Oper} {x:Operand} {L:Loc} (t k:Nat) (ho:o.op=.assign x) (hx:ev l x=.sc (.slice none 0 0)):H2 P o l L (Is (.frz t k (.list 1 [])) L):=
 Hm fun a w β _ hf=>⟨a.eval x,by simp [execOp,ho],by
  have h:=hf.ev x
  rw [hx] at h
  rw [h.inv_sc]
  exact .data (.frz ⟨[],[],rfl,fun j o x ho=>by simp at ho,.nil,.inl ⟨rfl,rfl⟩⟩ (.nil (Nat.zero_le _)))⟩
end
end Go.Proofs.YthkihfoleenlmaaGreat
