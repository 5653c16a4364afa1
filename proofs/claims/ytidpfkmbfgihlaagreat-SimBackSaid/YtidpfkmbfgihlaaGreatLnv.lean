/-
 Maps from which entries are deleted: ranged over. What slices.Insert and slices.Delete do to a slice of the call's own: its capacity,parts beyond its length,growing by an append to a part,giving it away. Slices that are lent as local objects,with what lies behind them: made,cut,read,lent to calls,written; results of calls that nobody else can write; a new slice put in another's place.
-/
import Derived.Test.YtidpfkmbfgihlaaGreatMapE
import Derived.Test.YtidpfkmbfgihlaaGreatMapD
import Derived.Lib.Overlaps
import Derived.Lib.AppendZerosOnto
namespace Go.Proofs.YtidpfkmbfgihlaaGreat
open Go.RowKit

section ops
variable {P:Program} {o:Oper} {l:Fr} {L:Loc} {u:AV} {κ ν:Type} [DecidableEq κ] {kv:κ→Value} {av:ν→AV}
omit [DecidableEq κ] in
theorem H87 (i:Nat) {x:Operand} {T K E:Nat} {src:AV} {m:Gt κ ν} (ho:o.op=.range T x) (hx:ev l x=src) (hm:R33 L kv av m src) (hi:lk L i=none) (hT:Zj P T K E=true) :
  H0 P o l L (Is (.it i) ((i,.iter src m.l.length [])::L)):=by
 intro a w β KK Q hsat hf hK
 have hv:=hf.ev x
 rw [hx] at hv
 obtain⟨b,vals,He,hmv,g1,g2,h1,g3⟩:=hv.tsrc hsat hm
 have hr:(execOp a.eval o).run P w=.ok (.value (.pointer (some ⟨w.heap.size,0,none⟩))) (w.alloc (.mapIter (some b) m.l.length #[] m.l.length)):=by
  simp only [execOp,ho,Instr.range,underlying,Zj.out hT,Sem.run_bind,Sem.run_pure,run_program,Result.andThen_ok,hmv,Qq h1,run_newObj]
  rfl
 unfold Oper.wp
 rw [hr]
 exact hK _ _ _ _ (upP β i (some w.heap.size)) ⟨rfl,rfl⟩ (hsat.alloc hi _ (fun hs=>⟨_,rfl,b,by rw [← hmv]; exact hv.step hs,heap_alloc_new w _⟩)) (Step.alloc hi hsat.bnd _)
  (.it (m:=src) (n:=m.l.length) (seen:=[]) (by simp [Gh]) (by simp [upP]))
def Z3f (i:Nat) (src:AV) (L:Loc) (kv:κ→Value) (av:ν→AV) (m:Gt κ ν) (seen:List Nat):AV→Loc→Prop:=fun u L'=>
 (∃ q e,m.l[q]? = some (some e)∧q ∉ seen∧u=.tup [BL true,Rt (kv e.1),av e.2]∧L'=(i,.iter src m.l.length (seen++[q]))::L)∨((∀ q e,m.l[q]? = some (some e)→q∈seen)∧u=.tup [BL false]∧L'=L)
omit [DecidableEq κ] in
theorem Hf8 {x:Operand} {i:Nat} {src:AV} {m:Gt κ ν} {seen:List Nat} (hav:∀ x,isT (av x)=false) (ho:o.op=.next x false) (hx:ev l x=.it i) (hi:lk L i=some (.iter src m.l.length seen)) (hm:R33 L kv av m src):H0 P o l L (Z3f i src L kv av m seen):=by
 intro a w β KK Q hsat hf hK
 have hv:=hf.ev x
 rw [hx] at hv
 have hit:∃ b,β i=some b∧a.eval x=.pointer (some ⟨b,0,none⟩):=by
  generalize a.eval x=v at hv
  cases hv with
  | data h=>cases h
  | it _ h=>exact⟨_,h,rfl⟩
 obtain⟨b,hb,hxv⟩:=hit
 obtain⟨b',hb',bm,hvm,hob⟩:=hsat.obj i _ hi
 rw [hb] at hb'; cases hb'
 obtain⟨bm',vals,He,ebm,g1,g2,h1,g3⟩:=hvm.tsrc hsat hm
 cases ebm
 have g1':vals.length=m.l.length:=by rw [g1,H19]
 have hents:∀ e∈He,∃ p:κ×ν,m.l[e.born]? = some (some p)∧e.key=kv p.1∧D w (Jt w β L) (av p.2) e.val:=fun e he=>by
  rw [g2] at he
  obtain⟨p,a1,a2,_,a4⟩:=Q87 g3 (by simpa using he)
  exact⟨p,a1,a2,a4⟩
 have hlive:∀ q (p:κ×ν),m.l[q]? = some (some p)→∃ e∈He,e.born=q:=fun q p hq=>by
  have hql:=(List.getElem?_eq_some_iff.1 hq).1
  have hvq:q < vals.length:=by omega
  refine⟨⟨kv p.1,vals[q],0+q⟩,?_,by simp⟩
  rw [g2]
  have:(⟨kv p.1,vals[q],0+q⟩:MapEntry)∈Qm 0 (tOf kv av m.l) vals:=H6f.2 ⟨q,(kv p.1,av p.2),vals[q],Hd9 (kv:=kv) (av:=av) hq,by simp [hvq],hav p.2,rfl⟩
  simpa using this
 have hblt:∀ e∈He,e.born < m.l.length:=fun e he=>by
  obtain⟨p,h,_⟩:=hents e he
  exact(List.getElem?_eq_some_iff.1 h).1
 let left:Array MapEntry:=He.filter fun e=>!seen.toArray.contains e.born
 have hlb:∀ e∈left,e∈He∧e.born ∉ seen:=by
  intro e he
  simp only [left,Array.mem_filter] at he
  exact⟨he.1,by simpa using he.2⟩
 have hold:left.filter (fun e=>decide (e.born < m.l.length))=left:=by
  rw [Array.filter_eq_self]
  intro e he
  exact decide_eq_true (hblt e (hlb e he).1)
 have hnew:left.filter (fun e=>decide (e.born ≥ m.l.length))=#[]:=by
  rw [Array.filter_eq_empty_iff]
  intro e he
  have:=hblt e (hlb e he).1
  simp; omega
 have hquiet:(!seen.toArray.isEmpty&&!He.isEmpty&&He.all (fun e=>decide (e.born ≥ m.l.length)))=false:=by
  by_cases h0:He.size=0
  ·have:He.isEmpty=true:=by simp [Array.isEmpty,h0]
   simp [this]
  ·have:He.all (fun e=>decide (e.born ≥ m.l.length))=false:=by
    rw [Bool.eq_false_iff]
    intro hall
    rw [Array.all_eq_true] at hall
    have h2:=of_decide_eq_true (hall 0 (by omega))
    have:=hblt He[0] (Array.getElem_mem (by omega))
    omega
   simp [this]
 have hgetI:(getObj b).run P w=.ok (.mapIter (some bm) m.l.length seen.toArray m.l.length) w:=by simp [getObj,Sem.run,hob]
 have hlt:b < w.heap.size:=hsat.bnd i b (by rw [hi]; rfl) hb
 by_cases hempty:left=#[]
 ·have hr:(execOp a.eval o).run P w=.ok (.value (.tuple #[.bool false])) w:=by
   simp only [execOp,ho,Instr.next,hxv,Sem.run_bind,Sem.run_pure,Result.andThen_ok,hgetI,Qq h1,hquiet,Bool.false_eq_true,if_false]
   have e1:(He.filter fun e=>!seen.toArray.contains e.born)=#[]:=hempty
   simp only [e1,Array.filter_empty,Array.isEmpty_empty,if_true,Array.append_empty,Array.map_empty,run_choose]
   rfl
  unfold Oper.wp
  rw [hr]
  refine hK _ _ _ w β (.inr ⟨fun q p hq=>?_,rfl,rfl⟩) hsat (Step.refl _ _ _) (.tup rfl fun j u v hu hv=>?_)
  ·by_cases hs:q∈seen
   ·exact hs
   ·exfalso
    obtain⟨e,he,rfl⟩:=hlive q p hq
    have:e∈left:=by
     simp only [left,Array.mem_filter]
     exact⟨he,by simpa using hs⟩
    rw [hempty] at this; simp at this
  ·match j with
   | 0=>simp at hu hv; subst hu; subst hv; exact .sc
   | j+1=>simp at hu
 ·have hpos:0 < left.size:=Array.size_pos_iff.2 hempty
  have hcand:((if (left.filter fun e=>decide (e.born < m.l.length)).isEmpty then #[none] else #[])++((left.filter fun e=>decide (e.born < m.l.length))++(left.filter fun e=>decide (e.born ≥ m.l.length))).map some)=left.map some:=by
   rw [hold,hnew]
   have:left.isEmpty=false:=by rw [Array.isEmpty_eq_false_iff]; exact hempty
   rw [this]
   apply Array.ext'
   simp
  have hch:∃ (c:Nat) (w1:World),(choose (.mapNext (left.map some).size)).run P w=.ok c w1∧c < left.size∧w1.heap=w.heap∧w1.os=w.os∧w1.tape=w.tape∧(w1.output=w.output∧w.drawn≤w1.drawn):=by
   rw [run_choose]
   by_cases hf1:(Question.mapNext (left.map some).size).forced=true
   ·exact⟨0,w,by rw [if_pos hf1],hpos,rfl,rfl,rfl,rfl,Nat.le_refl _⟩
   ·refine⟨_,{ w with drawn:=w.drawn+1 },by rw [if_neg hf1],?_,rfl,rfl,rfl,rfl,Nat.le_succ _⟩
    simp only [Question.cut,Array.size_map]
    exact Nat.mod_lt _ hpos
  obtain⟨c,w1,hc1,hc2,hh,hos,htp,hout⟩:=hch
  obtain⟨he1,hns⟩:=hlb left[c] (Array.getElem_mem hc2)
  obtain⟨p,k0,k1,k2⟩:=hents left[c] he1
  have hcj:(left.map some)[c]? = some (some left[c]):=by simp [hc2]
  have hob1:w1.heap[b]? = some (.mapIter (some bm) m.l.length seen.toArray m.l.length):=by rw [hh]; exact hob
  have hset:(setObj b (.mapIter (some bm) m.l.length (seen.toArray.push left[c].born) m.l.length)).run P w1=.ok () { w1 with heap:=w1.heap.setIfInBounds b (.mapIter (some bm) m.l.length (seen.toArray.push left[c].born) m.l.length) }:=by
   simp [setObj,Sem.run,hob1]
  have hr:(execOp a.eval o).run P w=.ok (.value (.tuple #[.bool true,left[c].key,left[c].val])) { w1 with heap:=w1.heap.setIfInBounds b (.mapIter (some bm) m.l.length (seen.toArray.push left[c].born) m.l.length) }:=by
   simp only [execOp,ho,Instr.next,hxv,Sem.run_bind,Sem.run_pure,Result.andThen_ok,hgetI,Qq h1,hquiet,Bool.false_eq_true,if_false]
   have e1:(He.filter fun e=>!seen.toArray.contains e.born)=left:=rfl
   rw [e1,hcand,hc1]
   simp only [Result.andThen_ok,hcj,Sem.run_bind,hset,Sem.run_pure]
  unfold Oper.wp
  rw [hr]
  have hpush:seen.toArray.push left[c].born=(seen++[left[c].born]).toArray:=by simp
  have h4:({ w1 with heap:=w1.heap.setIfInBounds b (.mapIter (some bm) m.l.length (seen.toArray.push left[c].born) m.l.length) }:World).heap.size=w.heap.size:=by simp [hh]
  have h5:∀ k,k≠b→({ w1 with heap:=w1.heap.setIfInBounds b (.mapIter (some bm) m.l.length (seen.toArray.push left[c].born) m.l.length) }:World).heap[k]? = w.heap[k]? := fun k hk=>by
   simp [Array.getElem?_setIfInBounds_ne (Ne.symm hk),hh]
  have st:Step w β L { w1 with heap:=w1.heap.setIfInBounds b (.mapIter (some bm) m.l.length (seen.toArray.push left[c].born) m.l.length) } β ((i,.iter src m.l.length (seen++[left[c].born]))::L):=
   Step.change hsat hi hb rfl hos htp hout h4 h5
  refine hK _ _ _ _ β (.inl ⟨left[c].born,p,k0,hns,rfl,rfl⟩) (Sat.change hsat hi hb st h4 h5 ⟨b,rfl,bm,hvm.step st,?_⟩) st (.tup rfl fun q u v hu hv=>?_)
  ·rw [hpush]
   simp [hh,hlt]
  ·match q with
   | 0=>simp at hu hv; subst hu; subst hv; exact .sc
   | 1=>simp at hu hv; subst hu; subst hv; rw [← k1]; exact .data (H22 _)
   | 2=>simp at hu hv; subst hu; subst hv; exact .data (k2.mono st.stab)
   | q+3=>simp at hu
omit [DecidableEq κ] in
theorem J85 {x:Operand} {i q:Nat} {src:AV} {m:Gt κ ν} {seen:List Nat} {e:κ×ν} (hav:∀ x,isT (av x)=false) (ho:o.op=.entry x) (hx:ev l x=.it i) (hi:lk L i=some (.iter src m.l.length (seen++[q]))) (hm:R33 L kv av m src) (he:m.l[q]? = some (some e)) :
  H0 P o l L (Is (.tup [Rt (kv e.1),av e.2]) L):=
 Hi fun a w β hsat hf=>by
  have hv:=hf.ev x
  rw [hx] at hv
  have hit:∃ b,β i=some b∧a.eval x=.pointer (some ⟨b,0,none⟩):=by
   generalize a.eval x=v at hv
   cases hv with
   | data h=>cases h
   | it _ h=>exact⟨_,h,rfl⟩
  obtain⟨b,hb,hxv⟩:=hit
  obtain⟨b',hb',bm,hvm,hob⟩:=hsat.obj i _ hi
  rw [hb] at hb'; cases hb'
  obtain⟨bm',vals,He,ebm,g1,g2,h1,g3⟩:=hvm.tsrc hsat hm
  cases ebm
  have g1':vals.length=m.l.length:=by rw [g1,H19]
  have hql:=(List.getElem?_eq_some_iff.1 he).1
  have hvq:q < vals.length:=by omega
  have hmem:(⟨kv e.1,vals[q],0+q⟩:MapEntry)∈Qm 0 (tOf kv av m.l) vals:=H6f.2 ⟨q,(kv e.1,av e.2),vals[q],Hd9 he,by simp [hvq],hav e.2,rfl⟩
  obtain⟨n,hn,hne⟩:=List.mem_iff_getElem.1 hmem
  have hgetI:(getObj b).run P w=.ok (.mapIter (some bm) m.l.length (seen++[q]).toArray m.l.length) w:=by simp [getObj,Sem.run,hob]
  have hback:(seen++[q]).toArray.back? = some q:=by simp
  have hfind:He.find? (fun e=>e.born==q)=some ⟨kv e.1,vals[q],0+q⟩:=by
   rw [Array.find?_eq_some_iff_getElem]
   refine⟨by simp,n,by rw [g2]; simpa using hn,by simp only [g2,List.getElem_toArray]; exact hne,fun r hr=>?_⟩
   simp only [g2,List.getElem_toArray]
   have hp:=List.pairwise_iff_getElem.1 (G8d (es:=tOf kv av m.l) (vals:=vals) (i:=0)) r n (by omega) hn hr
   rw [hne] at hp
   have hp:(Qm 0 (tOf kv av m.l) vals)[r].born < 0+q:=hp
   simp; omega
  have hck:(m.l.length != m.l.length)=false:=by simp
  have hD:D w (Jt w β L) (av e.2) vals[q]:=g3 q _ _ _ (Hd9 he) (by simp [hvq]) (hav e.2)
  refine⟨.tuple #[kv e.1,vals[q]],?_,.tup rfl fun r u v hu hv=>?_⟩
  ·simp only [execOp,ho,Instr.entry,hxv,Sem.run_bind,Sem.run_pure,Result.andThen_ok,hgetI,hback,Qq h1,hck,Bool.false_eq_true,if_false,hfind]
  ·match r with
   | 0=>simp at hu hv; subst hu; subst hv; exact .data (H22 _)
   | 1=>simp at hu hv; subst hu; subst hv; exact .data hD
   | r+2=>simp at hu
end ops
end Go.Proofs.YtidpfkmbfgihlaaGreat
namespace Go.Proofs.YtidpfkmbfgihlaaGreat
open Go.RowKit

theorem Qbe.one {w:World} {ob:Option Nat} {t k n c:Nat} {v:Value} (h:Qbe w ob t k n c v):v.oneCell'=true:=by
 rcases h with ⟨rfl,_⟩ | ⟨b,rfl,_⟩ <;> rfl

section state
variable {N:Cfg} {l:Fr} {L:Loc} {w0 w:World} {β0 β:H4} {L0:Loc} {a:Act}
theorem Q8.over {s:Nat} {u:AV} (h:Q8 a w β L l) (hv:V w β L u (a.tmps.getD s undef)):Q8 a w β L ((s,u)::l):=⟨fun t=>by
 rw [look]
 cases hb:Nat.beq s t with
 | true=>have:=Nat.eq_of_beq_eq_true hb; subst this; exact hv
 | false=>exact h.tmp t⟩
theorem Ri.vcap (hs:Ri N w0 β0 L0 a w β l L) {s i ver k n t:Nat} {xs:List AV} (h1:look l s=.vec i ver k n) (hi:lk L i=some (.vec t k ver xs)):∃ c,xs.length≤c∧c≤maxLen∧Ri N w0 β0 L0 a w β ((s,.vcap i ver k xs.length c)::l) L:=by
 have hv:=hs.frame.tmp s
 rw [h1] at hv
 obtain⟨rfl,_,h⟩:=G5b hs.sat hi hv
 suffices hsuf:∃ c,xs.length≤c∧c≤maxLen∧Qbe w (β.at_ i) t k xs.length c (a.tmps.getD s undef) from by
  obtain⟨c,c1,c2,c3⟩:=hsuf
  exact⟨c,c1,c2,hs.sat,hs.step,hs.frame.over (.vcap ⟨t,ver,xs,hi,Nat.le_refl _,fun _=>c3⟩ c3.one),hs.size,hs.base,hs.defers⟩
 rcases h with ⟨e1,rfl,e3⟩ | ⟨b,cap,vs,e1,e2,e3,e4,e5,e6,_⟩
 ·exact⟨0,Nat.le_refl _,Nat.zero_le _,.inl ⟨e1,rfl,rfl,e3⟩⟩
 ·exact⟨cap,e3,e4,.inr ⟨b,e1,e2,e3,e4,by simp [World.shape?,e5,e6]⟩⟩

end state

section ghosts
variable {P:Program} {N:Cfg} {Q:Post} {l:Fr} {L:Loc} {ops:Array Oper} {rest:List Oper} {c:Code}
end ghosts

section ops
variable {P:Program} {N:Cfg} {o:Oper} {l:Fr} {L:Loc} {u:AV}
/-! ### Typed elements -/
end ops
end Go.Proofs.YtidpfkmbfgihlaaGreat
namespace Go.Proofs.YtidpfkmbfgihlaaGreat
open Go.RowKit
set_option linter.unusedVariables false

section vals
variable {w:World} {β:H4} {L:Loc}
theorem V.vsl_lst {α:Type} {f:α→AV} {i ver k t:Nat} {e:Ln α} {v:Value} (hsat:Sat w β L) (hi:lk L i=some (.vec t k ver ((e.1++e.2).map f))) (hpos:Nat.blt 0 k=true) (hv:V w β L (.vsl i ver k 0 e.1.length) v):D w (fun b _=>b < w.heap.size) (LT k f e) v:=by
 have hk0:0 < k:=by simpa [Nat.blt_eq] using hpos
 obtain⟨_,hn,_⟩:=hv.inv_vsl hi
 obtain⟨o1,o2⟩:=hsat.obj i _ hi
 rcases hv.inv_vsl0 hi with ⟨rfl,e2,e3⟩ | ⟨b,cap,rfl,e2,e3,e4,e5⟩
 ·have hxs:(e.1++e.2).map f=[]:=by
   rcases o2 with ⟨_,o2⟩ | ⟨b',o2,_⟩
   ·exact o2
   ·rw [show β i=β.at_ i from rfl,e3] at o2; cases o2
  have h2:=List.map_eq_nil_iff.1 hxs
  obtain⟨h3,h4⟩:=List.append_eq_nil_iff.1 h2
  show D w _ (.lst k (e.1.map f) (e.2.map f)) _
  rw [h3,h4]
  exact .lnil (Nat.zero_le _)
 ·rcases o2 with ⟨o2,_⟩ | ⟨b',o2,vs,o3,o4,o5⟩
  ·rw [show β i=β.at_ i from rfl,e2] at o2; cases o2
  ·rw [show β i=β.at_ i from rfl,e2] at o2; cases o2
   have hs:vs.size=cap*k:=by simpa [World.shape?,o3] using e5
   have hcap:((e.1++e.2).map f).length≤cap:=by
    rw [hs] at o4
    exact Nat.le_of_mul_le_mul_right o4 hk0
   have hma:e.1.map f++e.2.map f=(e.1++e.2).map f:=List.map_append.symm
   have hl1:(e.1.map f).length=e.1.length:=List.length_map ..
   show D w _ (.lst k (e.1.map f) (e.2.map f)) _
   rw [← hl1]
   have hlt:∀ j,j < (flat ((e.1++e.2).map f)).length→j < vs.size:=fun j hj=>by
    rw [J1 o1] at hj
    omega
   refine .lst (fun j=>vs.getD j undef) ?_ e4 ?_ (fun j hj=>⟨(Array.getElem?_eq_some_iff.1 o3).1,?_⟩) (fun j u hu=>?_)
   ·rw [← List.length_append,hma]; exact hcap
   ·rw [hma]; exact o1
   ·rw [hma] at hj
    have:=hlt j hj
    simp [World.cell?,o3,this]
   ·rw [hma] at hu
    have hj:=(List.getElem?_eq_some_iff.1 hu).1
    have:=hlt j hj
    exact(o5 j u _ hu (by simp [this])).mono fun b i hs=>⟨hs.lt,rfl⟩
theorem V.vsl_list {α:Type} {f:α→AV} {i ver k t:Nat} {e:Ln α} {v:Value} (hsat:Sat w β L) (hi:lk L i=some (.vec t k ver ((e.1++e.2).map f))) (hpos:Nat.blt 0 k=true) (hv:V w β L (.vsl i ver k 0 e.1.length) v):D w (fun b _=>b < w.heap.size) (LS k f e.1) v:=
 (hv.vsl_lst hsat hi hpos).lst_list
end vals

section calls
variable {P:Program} {o:Oper} {l:Fr} {L:Loc} {u:AV}
inductive Qb6 (L:Loc):AV→AV→Prop
 | data {u u':AV} (h:u.plain=u') (hd:u'.isData=true):Qb6 L u u'
 | vsl {α:Type} {f:α→AV} {i ver k t:Nat} {e:Ln α} (hi:lk L i=some (.vec t k ver ((e.1++e.2).map f))) (hpos:Nat.blt 0 k=true):Qb6 L (.vsl i ver k 0 e.1.length) (LS k f e.1)
 | vlt {α:Type} {f:α→AV} {i ver k t:Nat} {e:Ln α} (hi:lk L i=some (.vec t k ver ((e.1++e.2).map f))) (hpos:Nat.blt 0 k=true):Qb6 L (.vsl i ver k 0 e.1.length) (LT k f e)
theorem Qb6.D {w:World} {β:H4} {u u':AV} (hsat:Sat w β L) (h:Qb6 L u u') {v:Value} (hv:V w β L u v):D w (fun b _=>b < w.heap.size) u' v:=by
 cases h with
 | data h hd=>
  subst h
  exact(hv.plain.toD hd).mono fun b i hs=>⟨hs.lt,rfl⟩
 | vsl hi hpos=>exact hv.vsl_list hsat hi hpos
 | vlt hi hpos=>exact hv.vsl_lst hsat hi hpos
def Gfa (l:Fr) (L:Loc):List Operand→List AV→Prop
 | [],[]=>True
 | x::r,u::s=>Qb6 L (ev l x) u∧Gfa l L r s
 | _,_=>False
theorem Gfa.length {l:Fr} {L:Loc}:∀ {xs:List Operand} {us:List AV},Gfa l L xs us→xs.length=us.length
 | [],[],_=>rfl
 | _::r,_::s,h=>by simp [Gfa.length h.2]
theorem Gfa.get {l:Fr} {L:Loc}:∀ {xs:List Operand} {us:List AV},Gfa l L xs us→∀ {j:Nat} {x:Operand} {u:AV},xs[j]? = some x→us[j]? = some u→Qb6 L (ev l x) u
 | [],[],_,j,x,u,h,_=>by simp at h
 | x::r,u::s,h,0,_,_,hx,hu=>by simp at hx hu; subst hx hu; exact h.1
 | x::r,u::s,h,j+1,_,_,hx,hu=>by simp at hx hu; exact Gfa.get h.2 hx hu
end calls

section ops
variable {P:Program} {N:Cfg} {o:Oper} {l:Fr} {L:Loc} {α:Type}
end ops

section rename
variable {w:World} {β:H4} {L:Loc}
end rename
section renameJ
variable {P:Program} {N:Cfg} {Q:Post} {c:Code} {l:Fr} {L:Loc}
end renameJ
end Go.Proofs.YtidpfkmbfgihlaaGreat
