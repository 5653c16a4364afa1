/-
 Drawn orders whose last operation,behind all the others,is given apart. The typed steps of slices of slices whose last slice grows. Slices with known cells behind them: made,cut,read beyond their length; values said in other words.
-/
import Derived.Test.YteoeccjboahfgaaGreatNest
namespace Go.Proofs.YteoeccjboahfgaaGreat
open Go.RowKit
set_option linter.unusedVariables false

section sound
variable {P:Program} {N:G2c} {ops:List Oper} {ws los his:List Nat} {Ls:List Loc} {l0:Fr} {val:Nat→AV}

theorem JC_drawL {id:Nat} {Q:Post} {l:Fr} {L L':Loc} (r:List Oper) (last:Oper) (ws los his:List Nat) (Ls:List Loc) (hm:P.follows .mixedOrders=true) (Rn:Hdb ops ws los his=true) (h0:Ls[0]? = some L) (h1:Ls[ws.length]? = some L')
  (hr:ops=r++[last]) (hanc:(List.range r.length).all (fun j=>((G4d ops).getD r.length []).contains j)=true) (hwp:ws.contains r.length=false) (hdl:last.dst=none) (h:G48 P N ops.toArray ws los his Ls 0 r l (fun l'=>JL P N ops.toArray [last] Q l' L')) (hnd:ops.all G49=true:=by rfl):JC P N (.region id ops.toArray true) Q l L:=by
 have hlen:ops.length=r.length+1:=by rw [hr]; simp
 have hlast:ops[r.length]? = some last:=by rw [hr]; simp
 obtain⟨val,pc,hK⟩:=Hf8 ops ws los his Ls l _ r.length (by omega) (fun j o d hj ho hd=>by
  have hj2:=(List.getElem?_eq_some_iff.1 ho).1
  have e:j=r.length:=by omega
  rw [e,hlast] at ho
  cases ho
  rw [hdl] at hd; cases hd) r 0 (fun _=>.junk) (fun j hj=>by rw [hr]; simp [List.getElem?_append_left hj]) (by simp) (fun j o hj=>by omega) h
 intro n w0 β0 L0 a w β hs
 refine wpIn_region_any hm ?_
 rw [List.size_toArray]
 refine draw_step (ro:=N.ro) (n:=n) (fun i o hi=>List.all_eq_true.1 hnd o (List.mem_of_getElem? hi)) Rn pc (.inr ⟨hlen,last,hlast,hanc,hwp,fun a w β L'' hL'' hok=>by rw [h1] at hL''; cases hL''; exact hK n w0 β0 L0 a w β hok⟩) ops.length (Array.replicate ops.length false) a _ ?_ (by simp only [Array.getD_eq_getD_getElem?,Array.getElem?_replicate]; split <;> rfl) ⟨by simp,⟨fun i o e hi=>?_⟩,β,L,?_,?_⟩
 ·exact Nat.le_trans (List.length_filter_le _ _) (by simp)
 ·simp only [Array.getD_eq_getD_getElem?,Array.getElem?_replicate] at hi
  split at hi <;> simp at hi
 ·have:cnt (fun i=>(Array.replicate ops.length false).getD i false) ws=0:=by
   unfold cnt
   have hf:∀ i,(Array.replicate ops.length false).getD i false=false:=fun i=>by
    simp only [Array.getD_eq_getD_getElem?,Array.getElem?_replicate]; split <;> rfl
   simp [hf]
  rw [this]; exact h0
 ·have this:Z0 ops l val (fun i=>(Array.replicate ops.length false).getD i false) ops.length=l:=by
   have hf:(fun i=>(Array.replicate ops.length false).getD i false)=fun _=>false:=by
    funext i
    simp only [Array.getD_eq_getD_getElem?,Array.getElem?_replicate]; split <;> rfl
   rw [hf]
   have:∀ n,Z0 ops l val (fun _=>false) n=l:=by
    intro n
    induction n with
    | zero=>rfl
    | succ n ih=>
     cases hd:(ops[n]?).bind (·.dst) with
     | none=>simp only [Z0,hd]; exact ih
     | some d=>simp only [Z0,hd,Bool.false_eq_true,if_false]; exact ih
   exact this _
  rw [this]; exact hs.drew
theorem JC_drawN {id:Nat} {Q:Post} {l:Fr} {L L':Loc} (q:Nat) (last:Oper) (ws los his:List Nat) (Ls:List Loc) (hm:P.follows .mixedOrders=true) (Rn:Hdb ops ws los his=true) (h0:Ls[0]? = some L) (h1:Ls[ws.length]? = some L') (hq:ops.drop q=[last]) (hanc:(List.range q).all (fun j=>((G4d ops).getD q []).contains j)=true) (hwp:ws.contains q=false) (hdl:last.dst=none)
  (h:G48 P N ops.toArray ws los his Ls 0 (ops.take q) l (fun l'=>JL P N ops.toArray [last] Q l' L')) (hnd:ops.all G49=true:=by rfl):JC P N (.region id ops.toArray true) Q l L:=by
 have hlen:(ops.take q).length=q:=by
  have:=congrArg List.length hq
  rw [List.length_drop] at this
  rw [List.length_take]
  simp at this; omega
 have hr:ops=ops.take q++[last]:=by rw [← hq,List.take_append_drop]
 exact JC_drawL (ops.take q) last ws los his Ls hm Rn h0 h1 hr (by rw [hlen]; exact hanc) (by rw [hlen]; exact hwp) hdl h hnd
end sound
end Go.Proofs.YteoeccjboahfgaaGreat
namespace Go.Proofs.YteoeccjboahfgaaGreat
open Go.RowKit
set_option linter.unusedVariables false

section typed
variable {P:Program} {N:G2c} {Q:Post} {o:Oper} {ops:Array Oper} {rest:List Oper} {l:Fr} {L:Loc} {α:Type}

theorem A_npushM {s x:Operand} {T E k by_ j kx:Nat} {f:α→AV} {xss:List (List α)} {g:α} (ho:o.op=.call { callee:=.builtin .append,args:=#[s,x],argTypes:=#[T,T] }) (hs:ev l s=.own j (Qd xss) k ((Jn xss).map f)) (hj:lk L j=some (.spare E k (Qd xss) (Jn xss).length)) (hx:Jx (ev l x)=some (kx,[g].map f))
  (hT:sliceB P T E k=true) (hE:Ym P E k by_=true) (hb:decide (((Jn xss).length+1)*by_≤140737488355328∧(Jn xss).length+1≤maxLen)=true) (hcell:∀ y,(f y).flatOk=true) (hk:kx=k) :
  H3 P o l L (Is (.own j (Qd (R5 xss (Jn xss++[g]))) k ((Jn (R5 xss (Jn xss++[g]))).map f)) ((j,.spare E k (Qd (R5 xss (Jn xss++[g]))) (Jn (R5 xss (Jn xss++[g]))).length)::L)):=by
 have hb':=of_decide_eq_true hb
 have h:=J10 (P:=P) (o:=o) (ver1:=Qd xss+1) (xs:=(Jn xss).map f) (ys:=[g].map f) ho hs hj hx hT hE (by simpa using hb'.1) (by simpa using hb'.2) (fun y hy=>by
  simp at hy; subst hy; exact hcell g) (.inl hk) (Nat.lt_succ_self _)
 rw [totN_push,lastL_put]
 simpa using h
theorem Q1e {x y:Operand} {T E i j k m s:Nat} {f:α→AV} {xss:List (List α)} {ys:List α} {u0:AV} (hT:R7 P T 1=true) (ho:o.op=.store T x y) (hx:ev l x=.nptr i (Qd xss) m u0) (hs:look l s=NS i j k f xss) (hi:lk L i=some (.spare E 1 (Qd xss) 0)) (hm:xss.length=m+1)
  (hu:ev l y=.own j (Qd (R5 xss ys)) k ((Jn (R5 xss ys)).map f)) (ht:Qd (R5 xss ys)=Qd xss+1)
  (hk:JL P N ops rest Q ((s,NS i j k f (R5 xss ys))::l) ((i,.spare E 1 (Qd (R5 xss ys)) 0)::L)) (hg:o.guard=none:=by rfl) (hd:o.dst=none:=by rfl) (hnd:G49 o=true:=by rfl):JL P N ops (o::rest) Q l L:=by
 have hne:xss≠[]:=fun e=>by subst e; simp at hm
 refine JL_nstore hT ho hx hs hi hm hu rfl rfl ?_ hg hd hnd
 have e:NS i j k f (R5 xss ys)=.nst i (Qd xss+1) xss.length (xss.dropLast.map (LS k f)) (.own j (Qd (R5 xss ys)) k ((Jn (R5 xss ys)).map f)):=by
  show AV.nst i _ _ _ _=_
  rw [len_put hne,dropLast_put,ht]
 rw [e,ht] at hk
 rw [ht]; exact hk
theorem A_nnewM {s x:Operand} {T E by_ i i' j k t:Nat} {f:α→AV} {xss:List (List α)} {g:α} (ho:o.op=.call { callee:=.builtin .append,args:=#[s,x],argTypes:=#[T,T] }) (hs:ev l s=NS i j k f xss) (hi:lk L i=some (.spare E 1 (Qd xss) 0)) (hx:ev l x=.ms i' 0 1 1)
  (hi':lk L i'=some (.box t [.own j (Qd (xss++[[g]])) k ((Jn (xss++[[g]])).map f)])) (hT:sliceB P T E 1=true) (hE:Ym P E 1 by_=true) (hb:decide ((xss.length+1)*by_≤140737488355328∧xss.length+1≤maxLen)=true) :
  H3 P o l L (Is (NS i j k f (xss++[[g]])) ((i,.spare E 1 (Qd (xss++[[g]])) 0)::L)):=by
 have hb':=of_decide_eq_true hb
 have h:=A_nappend (P:=P) (o:=o) (ver1:=Qd (xss++[[g]])) (pre':=Hd3 xss.length (xss.dropLast.map (LS k f)) (.own j (Qd xss) k ((Jn xss).map f))) ho hs hi hx hi' hT hE hb'.1 hb'.2 rfl (by rw [totN_new]; omega) rfl rfl
 rw [nstL_NS] at h
 have e:NS i j k f (xss++[[g]])=.nst i (Qd (xss++[[g]])) (xss.length+1) (xss.map (LS k f)) (.own j (Qd (xss++[[g]])) k ((Jn (xss++[[g]])).map f)):=by
  show AV.nst i _ _ _ _=_
  rw [drop_new]; simp
 rw [e]; exact h
theorem Hee {x:Operand} {T E k' i j k hw:Nat} {f:α→AV} {xss:List (List α)} (hT:sliceB P T E k'=true) (ho:o.op=.call { callee:=.builtin .len,args:=#[x],argTypes:=#[T] }) (hx:ev l x=NS i j k f xss) (hi:lk L i=some (.spare E 1 (Qd xss) hw)):H3 P o l L (Is (G1 (xss.length:Int)) L):=A_nlen hT ho hx hi
theorem Jc0 {x ix:Operand} {T E i j k m hw:Nat} {kd:IntKind} {z:Int} {f:α→AV} {xss:List (List α)} (ho:o.op=.indexAddr T x ix) (hx:ev l x=NS i j k f xss) (hix:ev l ix=.sc (.int kd z)) (hi:lk L i=some (.spare E 1 (Qd xss) hw)) (hT:sliceB P T E 1=true) (hm:xss.length=m+1) (hz:z=(m:Int)) :
  H3 P o l L (Is (.nptr i (Qd xss) m (.own j (Qd xss) k ((Jn xss).map f))) L):=A_nidx ho hx hix hi hT hm hz
theorem A_nlitM (j:Nat) {T E k:Nat} {x:Operand} {f:α→AV} {xss:List (List α)} {g:α} (ho:o.op=.buildSlice T 1 #[(0,x)]) (hd:G5d l [x] [f g]) (hT:sliceB P T E k=true) (hz:R1 P E k=true) (hc:H45 k [f g]=true) (hn:Nat.ble (1*k) 16777216=true) (hk0:Nat.blt 0 k=true)
  (hj:lk L j=some (.spare E k (Qd xss) (Jn xss).length)) :
  H3 P o l L (Is (.own j (Qd (xss++[[g]])) k ((Jn (xss++[[g]])).map f)) ((j,.spare E k (Qd (xss++[[g]])) (Jn (xss++[[g]])).length)::L)):=by
 have h:=A_litOwn (P:=P) (o:=o) (L:=L) j (ver1:=Qd (xss++[[g]])) (parts:=[(0,x)]) (xs:=[f g]) ho hd hT hz rfl hc hn hk0 hj (by rw [totN_new]; omega)
 rw [Hfa]
 simpa using h
/-- The nil slice of slices, and the name of its last slice's spare room. -/
theorem A_nnil2 (i j k E Ein:Nat) {x:Operand} {f:α→AV} (ho:o.op=.assign x) (hx:ev l x=.sc (.slice none 0 0)) (hi:lk L i=none) (hj:lk L j=none) (hij:Nat.beq i j=false) :
  H3 P o l L (Is (NS i j k f ([]:List (List α))) ((j,.spare Ein k (Qd ([]:List (List α))) (Jn ([]:List (List α))).length)::(i,.spare E 1 (Qd ([]:List (List α))) 0)::L)):=by
 have hne:i≠j:=fun e=>by subst e; simp at hij
 have hj':lk ((i,J9.spare E 1 0 0)::L) j=none:=by rw [Gj,if_neg hne]; exact hj
 intro a w β K Q hsat hf hK
 refine A_nnil i E (last:=.own j 0 k []) ho hx hi a w β K Q hsat hf fun u L' v w' β' hu hsat' hst' hv'=>?_
 obtain⟨rfl,rfl⟩:=hu
 exact hK _ _ v w' _ ⟨rfl,rfl⟩ (Hf6 Ein k hsat' hj') (hst'.trans (Gda Ein k hj')) (hv'.step (Gda Ein k hj'))
theorem H3d {n:Nat} {v:Int} (h:decide (0≤v∧v+1=(n:Int))=true):n=v.toNat+1∧v=(v.toNat:Int):=by
 have:=of_decide_eq_true h
 omega
theorem Jd5 {c:Code} {j k:Nat} {f:α→AV} {xss:List (List α)} (l':Fr) (L':Loc) (i:Nat) {t hw:Nat} (hi:lk L i=some (.spare t 1 (Qd xss) hw)) (hi':lk L' i=none) (hl:G91 (fun j=>(lk L' j).isSome) L L') (hb:allIn L' N.base=true)
  (hf:J30 i (Qd xss) xss.length (xss.dropLast.map (LS k f)) (.own j (Qd xss) k ((Jn xss).map f)) (xss.map (LS k f)) (fun j=>(lk L' j).isSome) l l') (hk:JC P N c Q l' L'):JC P N c Q l L:=
 Q1f l' L' i hi hi' hl hb nstL_NS (fun y hy=>by obtain⟨z,_,rfl⟩:=List.mem_map.1 hy; rfl) rfl hf hk
end typed
end Go.Proofs.YteoeccjboahfgaaGreat
namespace Go.Proofs.YteoeccjboahfgaaGreat
open Go.RowKit
set_option linter.unusedVariables false

/-- An abstract value that says less, or the same in other words. -/
inductive Cv:AV→AV→Prop
 | same {u:AV}:Cv u u
 | agg {cs ds:List AV} (hl:ds.length=cs.length) (h:∀ (j:Nat) u u',cs[j]? = some u→ds[j]? = some u'→Cv u u'):Cv (.agg cs) (.agg ds)
 | list {k:Nat} {xs ys:List AV} (hl:ys.length=xs.length) (hk:∀ (j:Nat) x y,xs[j]? = some x→ys[j]? = some y→y.cells.length=x.cells.length) (h:∀ (j:Nat) u u',(flat xs)[j]? = some u→(flat ys)[j]? = some u'→Cv u u'):Cv (.list k xs) (.list k ys)
 | lst {k:Nat} {xs ys zs:List AV} (h:Cv (.list k xs) (.list k ys)):Cv (.lst k xs zs) (.list k ys)
 | tail {k:Nat} {xs ys:List AV} (h:Cv (.list k xs) (.list k ys)):Cv (.list k xs) (.lst k ys [])
def CvL:List AV→List AV→Prop
 | [],[]=>True
 | u::r,u'::r'=>Cv u u'∧CvL r r'
 | _,_=>False
theorem CvL.len:∀ {cs ds:List AV},CvL cs ds→ds.length=cs.length
 | [],[],_=>rfl
 | _::_,_::_,h=>by rw [List.length_cons,List.length_cons,CvL.len h.2]
 | [],_::_,h=>h.elim
 | _::_,[],h=>h.elim
theorem CvL.get:∀ {cs ds:List AV},CvL cs ds→∀ (j:Nat) u u',cs[j]? = some u→ds[j]? = some u'→Cv u u'
 | [],[],_,j,u,u',h,_=>by simp at h
 | _::_,_::_,h,0,u,u',h1,h2=>by simp at h1 h2; subst h1 h2; exact h.1
 | _::_,_::_,h,j+1,u,u',h1,h2=>CvL.get h.2 j u u' (by simpa using h1) (by simpa using h2)
 | [],_::_,h,_,_,_,_,_=>h.elim
 | _::_,[],h,_,_,_,_,_=>h.elim
theorem CvL.append:∀ {cs ds cs' ds':List AV},CvL cs ds→CvL cs' ds'→CvL (cs++cs') (ds++ds')
 | [],[],_,_,_,h=>h
 | _::_,_::_,_,_,h,h'=>⟨h.1,CvL.append h.2 h'⟩
 | [],_::_,_,_,h,_=>h.elim
 | _::_,[],_,_,h,_=>h.elim
theorem CvL.refl:∀ cs:List AV,CvL cs cs
 | []=>trivial
 | _::r=>⟨.same,CvL.refl r⟩
section typed
variable {α β:Type} {f:α→AV} {g:β→AV} {k:Nat}
end typed

section ops
variable {P:Program} {N:G2c} {o:Oper} {l:Fr} {L L':Loc} {u u':AV} {α:Type}
theorem D.cut {w:World} {S:Nat→Nat→Prop} {k n:Nat} {xs:List AV} {a:Option Addr} {len cap:Nat} (h:D w S (.list k xs) (.slice a len cap)) (hn:n≤xs.length) :
  D w S (.lst k (xs.take n) (xs.drop n)) (.slice (if cap=0 then a else a.map (·.add (0*k))) n cap):=by
 cases h with
 | nil h=>
  have:n=0:=by simpa using hn
  subst this
  simp only [List.take_nil,List.drop_nil]
  exact .lnil h
 | @list _ b off _ _ vals hcap hm hk hS h=>
  have e:(if cap=0 then some (⟨b,off,none⟩:Addr) else (some (⟨b,off,none⟩:Addr)).map (·.add (0*k)))=some ⟨b,off,none⟩:=by
   split <;> simp [Addr.add_lit]
  rw [e]
  have hl:(xs.take n).length=n:=by rw [List.length_take]; omega
  have:=D.lst (w:=w) (S:=S) (k:=k) (b:=b) (off:=off) (cap:=cap) (xs:=xs.take n) (ys:=xs.drop n) vals (by rw [← List.length_append,List.take_append_drop]; exact hcap) hm (by rw [List.take_append_drop]; exact hk) (by rw [List.take_append_drop]; exact hS) (by rw [List.take_append_drop]; exact h)
  rwa [hl] at this
theorem D.whole {w:World} {S:Nat→Nat→Prop} {k n:Nat} {xs ys:List AV} {a:Option Addr} {len cap:Nat} (h:D w S (.lst k xs ys) (.slice a len cap)) (hn:n≤xs.length+ys.length) :
  D w S (.list k ((xs++ys).take n)) (.slice (if cap=0 then a else a.map (·.add (0*k))) n cap)∧xs.length+ys.length≤cap:=by
 cases h with
 | lnil h=>
  have:n=0:=by simpa using hn
  subst this
  exact⟨.nil h,Nat.zero_le _⟩
 | @lst _ b off _ _ _ vals hcap hm hk hS h=>
  refine⟨?_,hcap⟩
  have e:(if cap=0 then some (⟨b,off,none⟩:Addr) else (some (⟨b,off,none⟩:Addr)).map (·.add (0*k)))=some ⟨b,off,none⟩:=by
   split <;> simp [Addr.add_lit]
  rw [e]
  have hl:((xs++ys).take n).length=n:=by rw [List.length_take,List.length_append]; omega
  have hfl:flat ((xs++ys).take n)=(flat (xs++ys)).take (n*k):=G99 hk n
  have:=D.list (w:=w) (S:=S) (k:=k) (b:=b) (off:=off) (cap:=cap) (xs:=(xs++ys).take n) vals (by omega) hm (fun x hx=>hk x (List.mem_of_mem_take hx)) (fun j hj=>hS j (by rw [hfl,List.length_take] at hj; omega)) (fun j u hu=>h j u (by
   rw [hfl,List.getElem?_take] at hu
   split at hu
   ·exact hu
   ·cases hu))
  rwa [hl] at this
end ops
end Go.Proofs.YteoeccjboahfgaaGreat
