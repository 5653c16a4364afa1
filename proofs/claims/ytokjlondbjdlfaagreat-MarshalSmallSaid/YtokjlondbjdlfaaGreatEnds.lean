/-
 Points where ways meet again; Maps that count. Local structs that hold slices that are still appended to; Combinators of the models that the extractor prints,and what From the reading of an argument aQ data to the walks' abstra The ends of calls:
-/
import Derived.Test.YtokjlondbjdlfaaGreatKeys
import Derived.ChangeArms
import Derived.ChangeOld
import Derived.Below
import Derived.JoinedOf
import Derived.JoinedAt
namespace Go.Proofs.YtokjlondbjdlfaaGreat
section
variable {P:Program} {N:Cfg} {Q:Post} {l:Fr} {L:Loc}
theorem Zr {x y:Code} {X:Type} (I:X→Prop) (F:X→Fr) (M:X→Loc)
  (h1:∀ K:Fr→Loc→Prop,(∀ l L v,I v→Fits N.base l L (F v) (M v)→K l L)→JC P N x (Q.seq K) l L)
  (h2:∀ v,I v→JC P N y Q (F v) (M v)):JC P N (.seq x y) Q l L:=
 G4 fun K hK=>h1 K fun l L v hv hf=>hK l L (R0 hf (h2 v hv))
theorem J43 {c:Operand} {x y:Code} (hc:ev l c=.sc (.bool false)) (hf:JC P N y Q l L):JC P N (.cond c x y) Q l L:=
 Gi hc (fun h=>by cases h) (fun _=>hf)
end
mutual
theorem Jc6 (ok:Nat→Bool):∀ u:AV,u.refs (fun _=>false)=true→u.refs ok=true
 | .junk,_=>rfl
 | .sc _,_=>rfl
 | .list _ _,_=>rfl
 | .lst ..,_=>rfl
 | .dptr _,_=>rfl
 | .dmap _,_=>rfl
 | .bag _ _,_=>rfl
 | .agg cs,h=>G8a ok cs h
 | .tup cs,h=>G8a ok cs h
 | .fn _ cs,h=>G8a ok cs h
 | .bfn _ cs,h=>G8a ok cs h
 | .opt _ x,h=>Jc6 ok x h
 | .ptr _ _,h=>by cases h
 | .own ..,h=>by cases h
 | .ms ..,h=>by cases h
 | .mp _,h=>by cases h
 | .it _,h=>by cases h
 | .vec ..,h=>by cases h
theorem G8a (ok:Nat→Bool):∀ us:List AV,Yj (fun _=>false) us=true→Yj ok us=true
 | [],_=>rfl
 | u::r,h=>by
  simp only [Yj,Kk] at h ⊢
  exact⟨Jc6 ok u h.1,G8a ok r h.2⟩
end
set_option linter.unusedVariables false
set_option linter.unusedSimpArgs false
section
variable {κ ν:Type} [DecidableEq κ]

theorem Jce {l:List (κ×ν)} {a:κ}:G01 l a=true ↔ a∈l.map (·.1):=by
 simp [G01]
theorem G8c (p:κ×ν) (l:List (κ×ν)) (a:κ):G30 (p::l) a=if p.1=a then some p.2 else G30 l a:=by
 unfold G30
 rw [List.find?_cons]
 by_cases h:p.1=a <;> simp [h]
theorem Heb (l m:List (κ×ν)) (a:κ):G30 (l++m) a=(G30 l a).or (G30 m a):=by
 induction l with
 | nil=>simp [G30]
 | cons p l ih=>rw [List.cons_append,G8c,G8c,ih]; split <;> simp
theorem G65 {l:List (κ×ν)} {a:κ}:(G30 l a).isSome=G01 l a:=by
 induction l with
 | nil=>rfl
 | cons p l ih=>
  rw [G8c]
  simp only [G01,List.any_cons]
  by_cases h:p.1=a
  ·simp [h]
  ·simpa [h,G01] using ih
theorem Hab {l:List (κ×ν)} {a:κ} (h:G01 l a=false):G30 l a=none:=by
 have:=G65 (l:=l) (a:=a)
 rw [h] at this
 simpa using this
theorem H56 (l:List (κ×ν)) (a b:κ) (v:ν):G30 (Gac l a v) b=if a=b then some v else G30 l b:=by
 unfold Gac
 split
 ·rename_i h
  induction l with
  | nil=>simp [G01] at h
  | cons p l ih=>
   rw [List.map_cons,G8c,G8c]
   by_cases hp:p.1=a
   ·simp only [hp,if_true]
    by_cases h0:a=b
    ·simp [h0]
    ·simp only [h0,if_false]
     by_cases hl:G01 l a=true
     ·rw [ih hl,if_neg h0]
     ·have e:l.map (fun p=>if p.1=a then (a,v) else p)=l:=by
       conv=>rhs; rw [← List.map_id l]
       apply List.map_congr_left
       intro q hq
       have:q.1≠a:=fun e=>hl (Jce.2 (Kp.2 ⟨q,hq,e⟩))
       simp [this]
      rw [e]
   ·simp only [hp,if_false]
    have hl:G01 l a=true:=by simpa [G01,hp] using h
    rw [ih hl]
    by_cases h1:p.1=b
    ·have:¬ a=b:=fun e=>hp (h1.trans e.symm)
     simp [h1,this]
    ·simp [h1]
 ·rename_i h
  rw [Heb,G8c]
  by_cases h0:a=b
  ·subst h0; rw [Hab (by simpa using h)]; simp
  ·have:G30 ([]:List (κ×ν)) b=none:=rfl
   simp [h0,this]
end
section
variable {P:Program} {o:Oper} {l:Fr} {L:Loc} {κ ν:Type} [DecidableEq κ] {kv:κ→Value} {av:ν→AV}
end
open Go.RowKit
set_option linter.unusedVariables false
set_option linter.unusedSimpArgs false

/-! ### The cells of a box, one by one -/
def H24 (ok:Nat→Bool):List AV→List AV→Prop
 | [],[]=>True
 | u::r,u'::r'=>Conv ok u u'∧H24 ok r r'
 | _,_=>False
theorem H24.length {ok:Nat→Bool}:∀ {cs cs':List AV},H24 ok cs cs'→cs.length=cs'.length
 | [],[],_=>rfl
 | _::_,_::_,h=>by simp [H24.length h.2]
 | [],_::_,h=>h.elim
 | _::_,[],h=>h.elim
theorem H24.get {ok:Nat→Bool}:∀ {cs cs':List AV},H24 ok cs cs'→∀ (j:Nat) u u',cs[j]? = some u→cs'[j]? = some u'→Conv ok u u'
 | u::r,u'::r',h,0,x,x',hx,h0=>by simp at hx h0; subst hx; subst h0; exact h.1
 | u::r,u'::r',h,j+1,x,x',hx,h0=>by simp at hx h0; exact H24.get h.2 j x x' hx h0
 | [],[],_,j,_,_,hx,_=>by simp at hx
 | [],_::_,h,_,_,_,_,_=>h.elim
 | _::_,[],h,_,_,_,_,_=>h.elim
theorem H24.sm {ok:Nat→Bool}:∀ {us us':List AV},us=us'→us'.all (fun u=>u.refs ok)=true→H24 ok us us'
 | [],_,rfl,_=>trivial
 | u::r,_,rfl,h=>by
  rw [List.all_cons,Kk] at h
  exact⟨.same h.1,H24.sm rfl h.2⟩
def looks (l:Fr):Fr→List AV
 | []=>[]
 | (t,_)::r=>look l t::looks l r
def vals:Fr→List AV
 | []=>[]
 | (_,u)::r=>u::vals r
theorem Hbc.sm {ok:Nat→Bool} {l:Fr}:∀ {l':Fr},looks l l'=vals l'→(vals l').all (fun u=>u.refs ok)=true→Hbc ok l l'
 | [],_,_=>trivial
 | (t,u)::r,h,h2=>by
  have h':look l t::looks l r=u::vals r:=h
  have h0:(u::vals r).all (fun u=>u.refs ok)=true:=h2
  rw [List.all_cons,Kk] at h0
  injection h' with e1 e2
  exact⟨.eq e1 h0.1,Hbc.sm e2 h0.2⟩
theorem G55.boxL {ok:Nat→Bool} {o:J3} {t:Nat} {cs cs':List AV} (ho:o=.box t cs) (h:H24 ok cs cs'):G55 ok o (.box t cs'):=by
 subst ho; exact .box h.length h.get

/-! ### A nil slice in a box that is going to be appended to -/
theorem fmQ {ok:Nat→Bool} {L:Loc} {i t:Nat} {es:List (Value×AV)} (h:lk L i=some (.map t es)):∃ o,lk L i=some o∧G55 ok o (.map t es):=⟨_,h,.map⟩
theorem fbQ {ok:Nat→Bool} {L:Loc} {i t:Nat} {cs cs1:List AV} (h:lk L i=some (.box t cs)) (hc:H24 ok cs cs1):∃ o,lk L i=some o∧G55 ok o (.box t cs1):=⟨_,h,.boxL rfl hc⟩
theorem G86 {w:World} {β:Gx} {L:Loc} {i:Nat} (E k:Nat) (hi:lk L i=none):Step w β L w (upP β i none) ((i,.spare E k 0 0)::L):=by
 have h1:∀ id,(lk L id).isSome=true→i≠id:=fun id h e=>by subst e; rw [hi] at h; cases h
 refine⟨rfl,rfl,⟨rfl,Kb⟩,Kb,fun _ _ _=>Iff.rfl,fun b j hs=>⟨⟨hs.lt,hs.seen,fun id ob hid hb=>?_⟩,rfl⟩,fun b hb h0=>⟨rfl,fun id hid e=>?_⟩,fun id t cs hid=>?_,fun id t cs hid=>?_,fun id t n cs hid=>?_,fun id t k' ver xs hid=>?_,fun id t k' ver hw hid=>?_⟩
 ·rw [G9] at hid
  by_cases e:i=id
  ·subst e; simp [upP] at hb
  ·rw [if_neg e] at hid; simp only [upP,if_neg (Ne.symm e)] at hb; exact hs.kept id ob hid hb
 ·rw [G9] at hid
  by_cases e':i=id
  ·subst e'; simp [upP] at e
  ·rw [if_neg e'] at hid; simp only [upP,if_neg (Ne.symm e')] at e; exact h0 id hid e
 all_goals
  have e:=h1 id (by rw [hid]; rfl)
 ·exact⟨by simp [upP,Ne.symm e],cs,by rw [G9,if_neg e]; exact hid⟩
 ·exact⟨by simp [upP,Ne.symm e],cs,by rw [G9,if_neg e]; exact hid⟩
 ·exact⟨by simp [upP,Ne.symm e],n,cs,by rw [G9,if_neg e]; exact hid⟩
 ·exact⟨ver,xs,by rw [G9,if_neg e]; exact hid,Kb,fun _=>⟨rfl,by simp [upP,Ne.symm e],fun _ _=>rfl⟩⟩
 ·exact⟨ver,hw,by rw [G9,if_neg e]; exact hid,Kb,fun _=>⟨rfl,by simp [upP,Ne.symm e],fun _ _=>rfl⟩⟩
theorem H4f {w:World} {β:Gx} {L:Loc} {i:Nat} (E k:Nat) (h0:Sat w β L) (hi:lk L i=none):Sat w (upP β i none) ((i,.spare E k 0 0)::L):=by
 refine⟨h0.hid,fun id b hid hb=>?_,fun id b j hid hb=>?_,fun id id' b h1 h2 h3 h4=>?_,fun id ob hid=>?_⟩
 ·rw [G9] at hid
  by_cases e:i=id
  ·subst e; simp [upP] at hb
  ·rw [if_neg e] at hid; simp only [upP,if_neg (Ne.symm e)] at hb; exact h0.bnd id b hid hb
 ·rw [G9] at hid
  by_cases e:i=id
  ·subst e; simp [upP] at hb
  ·rw [if_neg e] at hid; simp only [upP,if_neg (Ne.symm e)] at hb; exact h0.apart id b j hid hb
 ·by_cases e:i=id
  ·subst e; simp [upP] at h3
  ·by_cases e':i=id'
   ·subst e'; simp [upP] at h4
   ·rw [G9,if_neg e] at h1
    rw [G9,if_neg e'] at h2
    simp only [upP,if_neg (Ne.symm e)] at h3
    simp only [upP,if_neg (Ne.symm e')] at h4
    exact h0.inj id id' b h1 h2 h3 h4
 ·rw [G9] at hid
  by_cases e:i=id
  ·subst e; simp at hid; subst hid; exact .inl ⟨by simp [upP],rfl⟩
  ·rw [if_neg e] at hid
   simp only [upP,if_neg (Ne.symm e)]
   exact(h0.obj id ob hid).step (G86 E k hi) (fun b hb=>rfl)
theorem R26 {w:World} {β:Gx} {L:Loc} {i:Nat} (E k:Nat):V w (upP β i none) ((i,.spare E k 0 0)::L) (.own i 0 k []) (.slice none 0 0):=
 .own (.nil (Nat.zero_le _)) ⟨E,0,0,by rw [G9,if_pos rfl],Kb,fun _=>⟨rfl,by simp [Value.ownBlock,upP],[],⟨by simp,.inl ⟨rfl,rfl⟩⟩,fun j u hu=>by simp [flat] at hu⟩⟩

theorem Jy.redescribeB {N:Cfg} {w0 w:World} {β0 β:Gx} {L0 L:Loc} {a:Act} {l:Fr} (hs:Jy N w0 β0 L0 a w β l L) {i:Nat} {t:TypeId} {cs cs':List AV} (hi:lk L i=some (.box t cs)) (hl:cs.length=cs'.length)
  (h:∀ (vs:Array Value) (j:Nat) u v,(∃ b,β i=some b∧w.heap[b]? = some (.cells vs t (0,0)))→(∀ (j:Nat) u v,cs[j]? = some u→vs[j]? = some v→V w β L u v)→vs.size=cs.length→cs'[j]? = some u→vs[j]? = some v→V w β L u v):Jy N w0 β0 L0 a w β l ((i,.box t cs')::L):=by
 obtain⟨b,hb,vs,h7,h8,h9⟩:=hs.sat.obj i _ hi
 have h0:∀ id,(lk ((i,J3.box t cs')::L) id).isSome=(lk L id).isSome:=fun id=>by
  rw [G9]; split
  ·rename_i e; subst e; rw [hi]; rfl
  ·rfl
 have h6:∀ b j,J5 w β L b j→J5 w β ((i,.box t cs')::L) b j:=fun b j h5=>⟨h5.lt,h5.seen,fun id o ho hb=>by
  rw [G9] at ho
  split at ho
  ·rename_i e; subst e; cases ho; exact(h5.kept i _ hi hb).elim
  ·exact h5.kept id o ho hb⟩
 have st:Step w β L w β ((i,.box t cs')::L):=by
  refine⟨rfl,rfl,⟨rfl,Kb⟩,Kb,fun _ _ _=>Iff.rfl,fun b j h=>⟨h6 b j h,rfl⟩,fun b hb hf=>⟨rfl,fun id hid e=>hf id (by rw [← h0 id]; exact hid) e⟩,fun id t2 cs2 hid=>?_,fun id t2 cs2 hid=>?_,fun id m n es hid=>?_,fun id t2 k2 ver xs hid=>?_,fun id t2 k2 ver hw hid=>?_⟩
  ·refine⟨rfl,?_⟩
   rw [G9]; split
   ·rename_i e; subst e; rw [hi] at hid; cases hid; exact⟨_,rfl⟩
   ·exact⟨_,hid⟩
  ·refine⟨rfl,cs2,?_⟩
   rw [G9,if_neg (fun e=>by subst e; rw [hi] at hid; cases hid)]; exact hid
  ·refine⟨rfl,n,es,?_⟩
   rw [G9,if_neg (fun e=>by subst e; rw [hi] at hid; cases hid)]; exact hid
  ·refine⟨ver,xs,?_,Kb,fun _=>⟨rfl,rfl,fun _ _=>rfl⟩⟩
   rw [G9,if_neg (fun e=>by subst e; rw [hi] at hid; cases hid)]; exact hid
  ·refine⟨ver,hw,?_,Kb,fun _=>⟨rfl,rfl,fun _ _=>rfl⟩⟩
   rw [G9,if_neg (fun e=>by subst e; rw [hi] at hid; cases hid)]; exact hid
 refine⟨⟨hs.sat.hid,fun id b h1 h2=>hs.sat.bnd id b (by rw [← h0 id]; exact h1) h2,fun id b j h1 h2=>hs.sat.apart id b j (by rw [← h0 id]; exact h1) h2,fun id id' b h1 h2 h3 h4=>hs.sat.inj id id' b (by rw [← h0 id]; exact h1) (by rw [← h0 id']; exact h2) h3 h4,fun id o ho=>?_⟩,hs.step.trans st,hs.frame.step st,hs.size,hs.base,hs.defers.step st⟩
 rw [G9] at ho
 split at ho
 ·rename_i e; subst e; cases ho
  exact⟨b,hb,vs,h7,by omega,fun j u v hu hv=>(h vs j u v ⟨b,hb,h7⟩ h9 h8 hu hv).step st⟩
 ·exact(hs.sat.obj id o ho).step st (fun b hb=>rfl)

theorem Jy.redescribe {N:Cfg} {w0 w:World} {β0 β:Gx} {L0 L:Loc} {a:Act} {l:Fr} (hs:Jy N w0 β0 L0 a w β l L) {i:Nat} {t:TypeId} {cs cs':List AV} (hi:lk L i=some (.box t cs)) (hl:cs.length=cs'.length)
  (h:∀ (vs:Array Value) (j:Nat) u v,(∀ (j:Nat) u v,cs[j]? = some u→vs[j]? = some v→V w β L u v)→vs.size=cs.length→cs'[j]? = some u→vs[j]? = some v→V w β L u v):Jy N w0 β0 L0 a w β l ((i,.box t cs')::L):=
 hs.redescribeB hi hl (fun vs j u v _=>h vs j u v)

theorem Jy.ownCell {N:Cfg} {w0 w:World} {β0 β:Gx} {L0 L:Loc} {a:Act} {l:Fr} (hs:Jy N w0 β0 L0 a w β l L) (i j id E k:Nat) {t:TypeId} {cs cs':List AV} (hi:lk L i=some (.box t cs)) (hid:lk L id=none) (hj:cs[j]? = some (.sc (.slice none 0 0)))
  (h2:cs.set j (.own id 0 k [])=cs'):∃ β',Jy N w0 β0 L0 a w β' l ((i,.box t cs')::(id,.spare E k 0 0)::L):=by
 have st:=G86 (w:=w) (β:=β) E k hid
 have h1:Jy N w0 β0 L0 a w (upP β id none) l ((id,.spare E k 0 0)::L):=⟨H4f E k hs.sat hid,hs.step.trans st,hs.frame.step st,hs.size,hs.base,hs.defers.step st⟩
 have h3:id≠i:=fun e=>by subst e; rw [hi] at hid; cases hid
 refine⟨_,h1.redescribe (i:=i) (t:=t) (cs:=cs) (by rw [G9,if_neg h3]; exact hi) (by rw [← h2]; simp) fun vs q u v h0 h5 hu hv=>?_⟩
 rw [← h2] at hu
 by_cases e:j=q
 ·subst e
  have h4:j < cs.length:=(Ex hj).1
  simp [List.getElem?_set,h4] at hu
  subst hu
  have:=h0 j _ v hj hv
  rw [this.inv_sc]
  exact R26 E k
 ·rw [List.getElem?_set_ne e] at hu
  exact h0 q u v hu hv
theorem H91 {P:Program} {N:Cfg} {ops:Array Oper} {rest:List Oper} {Q:Post} {l:Fr} {L:Loc} (i j id E k:Nat) {t:TypeId} {cs cs':List AV} (hi:lk L i=some (.box t cs)) (hid:lk L id=none) (hj:cs[j]? = some (.sc (.slice none 0 0)))
  (h0:cs.set j (.own id 0 k [])=cs') (hk:JL P N ops rest Q l ((i,.box t cs')::(id,.spare E k 0 0)::L)):JL P N ops rest Q l L:=
 fun n w0 β0 L0 a w β hs=>by
  obtain⟨β',h⟩:=hs.ownCell i j id E k hi hid hj h0
  exact hk n w0 β0 L0 a w β' h

/-! ### Zero values whose slices are seen aQ empty lists -/
def ZOk:List AV→List Value→Prop
 | [],[]=>True
 | u::r,v::s=>(u=.sc v∨∃ k,u=.list k []∧v=.slice none 0 0)∧ZOk r s
 | _,_=>False
theorem zzQ:∀ {us:List AV} {vs:List Value},us=vs.map .sc→ZOk us vs
  | _,[],h=>by subst h; trivial
  | _,v::r,h=>by subst h; exact⟨.inl rfl,zzQ rfl⟩
theorem ZOk.length:∀ {us:List AV} {vs:List Value},ZOk us vs→us.length=vs.length
 | [],[],_=>rfl
 | _::_,_::_,h=>by simp [ZOk.length h.2]
 | [],_::_,h=>h.elim
 | _::_,[],h=>h.elim
theorem ZOk.get {w:World} {β:Gx} {L:Loc}:∀ {us:List AV} {vs:List Value},ZOk us vs→∀ (j:Nat) u v,us[j]? = some u→vs[j]? = some v→V w β L u v
 | u::r,v::s,h,0,x,y,hx,hy=>by
  simp at hx hy; subst hx; subst hy
  rcases h.1 with h | ⟨k,h1,h2⟩
  ·subst h; exact .sc
  ·subst h1; subst h2; exact .data (.nil (Nat.zero_le _))
 | u::r,v::s,h,j+1,x,y,hx,hy=>by simp at hx hy; exact ZOk.get h.2 j x y hx hy
 | [],[],_,j,_,_,hx,_=>by simp at hx
 | [],_::_,h,_,_,_,_,_=>h.elim
 | _::_,[],h,_,_,_,_,_=>h.elim
section
variable {P:Program} {o:Oper} {l:Fr} {L:Loc}
theorem Gc9 (i:Nat) {T:Nat} (us:List AV) (zs:List Value) (hz:(P.info? T).bind (fun i=>i.zero.map Value.cells)=some zs.toArray) (hu:ZOk us zs) (ho:o.op=.alloc T) (hi:lk L i=none) :
  Gn P o l L (Is (.ptr i 0) ((i,.box T us)::L)):=by
 intro a w β K Q h0 hf hK
 cases h1:P.info? T with
 | none=>rw [h1] at hz; simp at hz
 | some inf=>
  rw [h1] at hz
  cases h2:inf.zero with
  | none=>simp [h2] at hz
  | some z=>
   simp only [Option.bind_some,h2,Option.map_some,Option.some.injEq] at hz
   unfold Oper.wp
   have hr:(execOp a.eval o).run P w=.ok (.value (.pointer (some ⟨w.heap.size,0,none⟩))) (w.alloc (.cells z.cells T)):=by
    simp [execOp,ho,Instr.alloc,zeroValue,typeInfo,h1,h2,newVar,newRow]
   rw [hr]
   refine hK _ _ _ _ (upP β i (some w.heap.size)) ⟨rfl,rfl⟩ (h0.alloc hi _ (fun hs=>⟨_,rfl,z.cells,heap_alloc_new w _,by simp [hz,hu.length],fun j u v hj hv=>?_⟩)) (Step.alloc hi h0.bnd _) (.ptr (t:=T) (cs:=us) (by simp [G9]) (by simp [upP]))
   rw [hz] at hv
   exact hu.get j u v hj (by simpa using hv)
theorem Jf {T:TypeId} {parts:List (Nat×Operand)} {cs:List AV} (pl:List (Nat×Nat)) (us:List AV) (zs:List Value) (h0:placesOf P T=some pl) (hz:(P.info? T).bind (fun i=>i.zero.map Value.cells)=some zs.toArray) (hu:ZOk us zs) (ho:o.op=.build T parts.toArray) (h3:Ge5 (fun i=>pl[i]?) us (parts.map fun p=>(p.1,ev l p.2))=some cs):Gn P o l L (Is (.agg cs) L):=
 H2 fun a w β _ hf=>by
  cases h1:P.info? T with
  | none=>rw [h1] at hz; simp at hz
  | some inf=>
   rw [h1] at hz
   cases h2:inf.zero with
   | none=>simp [h2] at hz
   | some z=>
    simp only [Option.bind_some,h2,Option.map_some,Option.some.injEq] at hz
    unfold placesOf at h0
    split at h0
    ·rename_i fs h4
     have h5:=run_places (P:=P) (w:=w) fs.toList pl h0
     obtain⟨vs',e1,e2,e3⟩:=G58 (w:=w) (β:=β) (L:=L) (qs:=parts.map fun p=>(p.1,a.eval p.2)) (vs:=zs.toArray) h3 (by simp) (fun j p q hp hq=>by
      simp only [Kf,Option.map_eq_some_iff] at hp hq
      obtain⟨x,hx,rfl⟩:=hp
      obtain⟨y,hy,rfl⟩:=hq
      rw [hx] at hy; cases hy
      exact⟨rfl,hf.ev _⟩) (by simp [hu.length]) (fun j u v hj hv=>hu.get j u v hj (by simpa using hv))
     refine⟨.agg vs',?_,.agg e2 e3⟩
     have hm:(fs.mapM (fun f=>Prod.mk f.offset <$> sizeOf f.type:Field→Sem (Nat×Nat))).run P w=.ok pl.toArray w:=by
      rw [← Array.toArray_toList (xs:=fs),List.mapM_toArray]
      simp only [Sem.run_map,h5,Result.andThen_ok]
     simp [execOp,ho,Instr.build,zeroValue,typeInfo,h1,h2,underlying,h4,hm,hz,e1]
    ·cases h0
end
/-! ### A result that lies in a variable -/
theorem He4 {P:Program} {T k b:Nat} {vs:Array Value} {t:TypeId} {w:World} (hT:Gcb P T k=true) (hv:w.heap[b]? = some (.cells vs t (0,0))) (hk:vs.size=k) :
  (loadVar T ⟨b,0,none⟩).run P w=.ok (.agg vs) w:=by
 have h1:=G12 (P:=P) (T:=T) (k:=k) (b:=b) (o':=0) (vs:=vs.toList) hT (by simpa using hk) (w:=w) (fun j v h=>by
  simp at h
  simp [World.cell?,hv,h])
 simpa [Instr.loadAt,Instr.sureAddr,asAddr] using h1

section model
variable {α β σ:Type}

def loop (b:(σ→Option β)→σ→Option β):Nat→σ→Option β
 | 0,_=>none
 | n+1,s=>b (loop b n) s
def each (b:α→Nat→σ→(σ→Option β)→Option β) (kx:σ→Option β):List α→Nat→σ→Option β
 | [],_,s=>kx s
 | x::xs,i,s=>b x i s (each b kx xs (i+1))
def upto (b:Nat→σ→(σ→Option β)→Option β) (kx:σ→Option β):Nat→Nat→σ→Option β
 | 0,_,s=>kx s
 | n+1,i,s=>b i s (upto b kx n (i+1))
def jp (m:(α→Option β)→Option β) (k:α→Option β):Option β:=m k
def bnd (m:Option α) (k:α→Option β):Option β:=match m with
 | some x=>k x
 | none=>none
def J75 (z:Int):Bool:=decide (-9223372036854775808≤z)&&decide (z≤9223372036854775807)
def chk (z:Int) (k:Int→Option β):Option β:=bif J75 z then k z else none
def Qx (l:List α) (i:Int) (k:α→Option β):Option β:=bif decide (0≤i) then bnd l[i.toNat]? k else none
def need (b:Bool) (k:Option β):Option β:=bif b then k else none

theorem Z7 {b:(σ→Option β)→σ→Option β} {n:Nat} {s:σ} {r:β} (h:loop b n s=some r):∃ m nx,n=m+1∧loop b m=nx∧b nx s=some r:=by
 cases n with
 | zero=>cases h
 | succ m=>exact⟨m,_,rfl,rfl,h⟩
theorem Hx {b:α→Nat→σ→(σ→Option β)→Option β} {kx:σ→Option β} {xs:List α} {i k:Nat} {s:σ} {r:β} (h:each b kx (xs.drop k) i s=some r) (hk:¬ k < xs.length):kx s=some r:=by
 rw [List.drop_eq_nil_of_le (by omega)] at h; exact h
theorem Hw {b:α→Nat→σ→(σ→Option β)→Option β} {kx:σ→Option β} {xs:List α} {i k:Nat} {s:σ} {r:β} (h:each b kx (xs.drop k) i s=some r) (hk:k < xs.length) :
  ∃ x nx,xs[k]? = some x∧each b kx (xs.drop (k+1)) (i+1)=nx∧b x i s nx=some r:=by
 rw [List.drop_eq_getElem_cons hk] at h
 exact⟨xs[k],_,by simp [hk],rfl,h⟩
theorem G6f {b:Nat→σ→(σ→Option β)→Option β} {kx:σ→Option β} {n i k:Nat} {s:σ} {r:β} (h:upto b kx (n - k) i s=some r) (hk:¬ k < n):kx s=some r:=by
 rw [show n - k=0 by omega] at h; exact h
theorem G6e {b:Nat→σ→(σ→Option β)→Option β} {kx:σ→Option β} {n i k:Nat} {s:σ} {r:β} (h:upto b kx (n - k) i s=some r) (hk:k < n) :
  ∃ nx,upto b kx (n - (k+1)) (i+1)=nx∧b i s nx=some r:=by
 rw [show n - k=(n - (k+1))+1 by omega] at h
 exact⟨_,rfl,h⟩
theorem G23 {m:(α→Option β)→Option β} {k:α→Option β} {r:β} (h:jp m k=some r):∃ kk,k=kk∧m kk=some r:=⟨k,rfl,h⟩
theorem Gd {m:Option α} {k:α→Option β} {r:β} (h:bnd m k=some r):∃ x,m=some x∧k x=some r:=by
 cases m with
 | none=>cases h
 | some x=>exact⟨x,rfl,h⟩
theorem Je {z:Int} {k:Int→Option β} {r:β} (h:chk z k=some r):∃ v,IntKind.i64.wrap z=v∧k v=some r:=by
 unfold chk at h
 cases hz:J75 z with
 | true=>
  rw [hz] at h
  simp only [J75,Kk,Km] at hz
  exact⟨z,G1d hz.1 hz.2,h⟩
 | false=>rw [hz] at h; cases h
theorem Rf {l:List α} {i:Int} {k:α→Option β} {r:β} (h:Qx l i k=some r):∃ (m:Nat) (x:α),i=(m:Int)∧l[m]? = some x∧k x=some r:=by
 unfold Qx at h
 cases hz:decide (0≤i) with
 | true=>
  rw [hz] at h
  obtain⟨x,hx,h⟩:=Gd h
  exact⟨i.toNat,x,by have:=Es hz; omega,hx,h⟩
 | false=>rw [hz] at h; cases h
theorem Ho {b:Bool} {k:Option β} {r:β} (h:need b k=some r):b=true∧k=some r:=by
 cases b with
 | true=>exact⟨rfl,h⟩
 | false=>cases h
theorem H6 {c:Bool} {x y z:α} (hc:c=true) (h:(bif c then x else y)=z):x=z:=by subst hc; exact h
theorem Hv {c:Bool} {x y z:α} (hc:c=false) (h:(bif c then x else y)=z):y=z:=by subst hc; exact h
theorem R29 {f:α→AV} {l:List α} {m:Nat} {x:α} (h:l[m]? = some x):(l.map f)[m]? = some (f x):=by simp [h]
end model

abbrev LS {α:Type} (k:Nat) (f:α→AV) (xs:List α):AV:=.list k (xs.map f)
abbrev E0:Value:=.int .i64 0
abbrev E7 (n:Nat):AV:=I64 (n:Int)
abbrev E1:=LS 1 I64
abbrev OW {α:Type} (i k:Nat) (f:α→AV) (xs:List α):AV:=.own i xs.length k (xs.map f)

section ops
variable {P:Program} {N:Cfg} {Q:Post} {l:Fr} {L L':Loc} {ops:Array Oper} {o:Oper} {rest:List Oper} {u:AV} {α:Type}

theorem Hb {x:Operand} {T E k k' d:Nat} {f:α→AV} {xs:List α} (hT:sliceB P T E k'=true) (ho:o.op=.call { callee:=.builtin .len,args:=#[x],argTypes:=#[T] }) (hx:Jj (ev l x)=some (k,xs.map f))
  (hk:xs.length≤maxLen→JL P N ops rest Q ((d,I64 (xs.length:Int))::l) L) (hg:o.guard=none) (hd:o.dst=some d) (hn:Nat.blt d N.n=true):JL P N ops (o::rest) Q l L:=
 R92 hT (fun hm=>by simp only [Kn] at hm ⊢; exact hk hm) ho hx hg hd hn
theorem JLl {x:Operand} {T E k k' d:Nat} {f:α→AV} {xs:List α} (hT:sliceB P T E k'=true) (ho:o.op=.call { callee:=.builtin .len,args:=#[x],argTypes:=#[T] }) (hx:Jj (ev l x)=some (k,xs.map f)) (hd:o.dst=some d)
  (hk:xs.length≤maxLen→JL P N ops rest Q ((d,I64 (xs.length:Int))::l) L) (hg:o.guard=none:=by rfl) (hn:Nat.blt d N.n=true:=by rfl):JL P N ops (o::rest) Q l L:=Hb hT ho hx hk hg hd hn
theorem Re {x:Operand} {T E k k':Nat} {f:α→AV} {xs:List α} (hT:sliceB P T E k'=true) (ho:o.op=.call { callee:=.builtin .len,args:=#[x],argTypes:=#[T] }) (hx:Jj (ev l x)=some (k,xs.map f)):Gn P o l L (Is (I64 (xs.length:Int)) L):=by
 have:=R11 (L:=L) hT ho hx
 simpa only [Kn] using this
theorem H1 {x:Operand} {T f off:Nat} {cs ds:List AV} (hT:Ry P T f off=true) (ho:o.op=.fieldAddr T x f) (hx:ev l x=.dptr cs) (hd:cs.drop off=ds):Gn P o l L (Is (.dptr ds) L):=hd ▸ R4d hT ho hx
theorem Gz {x ix:Operand} {T E k m:Nat} {kd:IntKind} {n:Int} {f:α→AV} {xs:List α} {y:α} (ho:o.op=.indexAddr T x ix) (hx:Jj (ev l x)=some (k,xs.map f)) (hi:ev l ix=.sc (.int kd n)) (hT:sliceB P T E k=true) (hy:xs[m]? = some y) (hm:n=(m:Int)) :
  Gn P o l L (Is (.dptr (f y).cells) L):=R4c ho hx hi hT (R29 hy) hm
theorem R3 {s x:Operand} {T E k by_ i kx:Nat} {f:α→AV} {xs ys:List α} (ho:o.op=.call { callee:=.builtin .append,args:=#[s,x],argTypes:=#[T,T] }) (hs:ev l s=OW i k f xs) (hi:lk L i=some (.spare E k xs.length xs.length)) (hx:Jj (ev l x)=some (kx,ys.map f))
  (hT:sliceB P T E k=true) (hE:Qk P E k by_=true) (hb:decide ((xs.length+ys.length)*by_≤140737488355328∧xs.length+ys.length≤maxLen)=true) (h0:∀ y,(f y).flatOk=true) (hk:kx=k∨ys=[]) (hy:ys.length=1) :
  Gn P o l L (Is (OW i k f (xs++ys)) ((i,.spare E k (xs++ys).length (xs++ys).length)::L)):=by
 have h1:=Es hb
 have h:=Jf7 (xs:=xs.map f) (ys:=ys.map f) ho hs hi hx hT hE (by simpa using h1.1) (by simpa using h1.2) (fun y hy=>by
  obtain⟨z,_,rfl⟩:=Kp.1 hy
  exact h0 z) (hk.imp id (fun e=>by rw [e]; rfl))
 simpa only [OW,List.map_append,Ki,Kn,hy] using h
theorem H94 {x p:Operand} {T E k m:Nat} {kd:IntKind} {mi:Int} {f:α→AV} {xs:List α} (ho:o.op=.slice T x (some p) none none) (hx:Jj (ev l x)=some (k,xs.map f)) (hp:ev l p=.sc (.int kd mi)) (hT:sliceB P T E k=true) (hm:mi=(m:Int)∧m≤xs.length) :
  Gn P o l L (Is (LS k f (xs.drop m)) L):=by
 have h:=Qb3 (L:=L) ho hx hp hT hm.1 (by simpa using hm.2)
 simpa only [LS,List.map_drop] using h
theorem G43 {x p:Operand} {T E k n:Nat} {kd:IntKind} {ni:Int} {f:α→AV} {xs:List α} (ho:o.op=.slice T x none (some p) none) (hx:Jj (ev l x)=some (k,xs.map f)) (hp:ev l p=.sc (.int kd ni)) (hT:sliceB P T E k=true) (hn:ni=(n:Int)∧n≤xs.length) :
  Gn P o l L (Is (LS k f (xs.take n)) L):=by
 have h:=Qb4 (L:=L) ho hx hp hT hn.1 (by simpa using hn.2)
 simpa only [LS,List.map_take] using h
end ops

section model
variable {α β σ:Type}
theorem Gc0 {z v:Int} (h:chk z some=some v):IntKind.i64.wrap z=v:=by
 obtain⟨x,hx,e⟩:=Je h
 cases e; exact hx
theorem G66 {l:List α} {i:Int} {x:α} (h:Qx l i some=some x):∃ m:Nat,i=(m:Int)∧l[m]? = some x:=by
 obtain⟨m,y,hm,hy,e⟩:=Rf h
 cases e; exact⟨m,hm,hy⟩
theorem Yc {l:List α} {i:Int} {k:α→Option β} {r:β} (h:Qx l i k=some r):∃ x,i=(i.toNat:Int)∧l[i.toNat]? = some x∧k x=some r:=by
 obtain⟨m,x,hm,hx,h⟩:=Rf h
 exact⟨x,by omega,by rw [hm]; exact hx,h⟩
theorem J28 {l:List α} {i:Int} {x:α} (h:Qx l i some=some x):i=(i.toNat:Int):=by obtain⟨m,hm,_⟩:=G66 h; omega
theorem H16 {l:List α} {i:Int} {x:α} (h:Qx l i some=some x):l[i.toNat]? = some x:=by obtain⟨m,hm,h⟩:=G66 h; rw [hm]; exact h
def Rm (i:Int) (n:Nat):Option Nat:=bif decide (0≤i)&&decide (i.toNat≤n) then some i.toNat else none
theorem H8 {i:Int} {n m:Nat} (h:Rm i n=some m):i=(m:Int)∧m≤n:=by
 unfold Rm at h
 cases hb:decide (0≤i)&&decide (i.toNat≤n) with
 | true=>
  rw [hb] at h; cases h
  simp only [Kk,Km] at hb
  exact⟨by omega,hb.2⟩
 | false=>rw [hb] at h; cases h
def Jc5 (m n:Int):Option Int:=bif decide (n=0) then none else some (m.tmod n)
theorem J6c {m n v:Int} (h:Jc5 m n=some v):n≠0∧m.tmod n=v:=by
 unfold Jc5 at h
 cases hb:decide (n=0) with
 | true=>rw [hb] at h; cases h
 | false=>rw [hb] at h; cases h; exact⟨Eu hb,rfl⟩
theorem Hi {k n:Nat} (hk:k < n) (hn:n≤maxLen):IntKind.i64.wrap ((k:Int)+1)=((k+1:Nat):Int):=by
 rw [G1d (by omega) (by unfold maxLen at hn; omega)]; rfl
theorem G73 {k:Nat} {e:Int} (h:decide ((k:Int) < e)=true):k < e.toNat:=by have:=Es h; omega
theorem Zc {k:Nat} {e:Int} (h:decide ((k:Int) < e)=false):¬ k < e.toNat:=by have:=Eu h; omega
theorem Jp {k n:Nat} (h:decide ((k:Int) < (n:Int))=true):k < n:=by have:=Es h; omega
theorem Hc {k n:Nat} (h:decide ((k:Int) < (n:Int))=false):¬ k < n:=by have:=Eu h; omega
theorem G45 {e:Int} (h:decide (e≤9223372036854775807)=true):e.toNat≤maxLen:=by have:=Es h; unfold maxLen; omega
theorem app1 {α β:Type} {f g:α→β} {x:α} {r:β} (e:f=g) (h:g x=r):f x=r:=e ▸ h
theorem H65 {α γ β:Type} {f g:α→γ→β} {x:α} {y:γ} {r:β} (e:f=g) (h:g x y=r):f x y=r:=e ▸ h
theorem J9e {α γ δ β:Type} {f g:α→γ→δ→β} {x:α} {y:γ} {z:δ} {r:β} (e:f=g) (h:g x y z=r):f x y z=r:=e ▸ h
theorem Yw {α γ δ ε β:Type} {f g:α→γ→δ→ε→β} {x:α} {y:γ} {z:δ} {u:ε} {r:β} (e:f=g) (h:g x y z u=r):f x y z u=r:=e ▸ h
theorem J7 {b:α→Nat→σ→(σ→Option β)→Option β} {kx:σ→Option β} {xs:List α} {s:σ} {r:Option β} (h:each b kx xs 0 s=r):∃ b' kx',b=b'∧kx=kx'∧each b' kx' (xs.drop 0) 0 s=r:=⟨b,kx,rfl,rfl,by rw [List.drop_zero]; exact h⟩
theorem Ga9 {b:Nat→σ→(σ→Option β)→Option β} {kx:σ→Option β} {n:Nat} {s:σ} {r:Option β} (h:upto b kx n 0 s=r):∃ b' kx',b=b'∧kx=kx'∧upto b' kx' (n - 0) 0 s=r:=⟨b,kx,rfl,rfl,h⟩
theorem G0e {b:(σ→Option β)→σ→Option β} {n:Nat} {s:σ} {r:Option β} (h:loop b n s=r):∃ b',b=b'∧loop b' n s=r:=⟨b,rfl,h⟩
end model

section code
variable {P:Program} {N:Cfg} {Q:Post} {l:Fr} {L:Loc}
theorem Ha {body:Code} {σ:Type} (I:Nat→σ→Prop) (F:Nat→σ→Fr) (M:Nat→σ→Loc) (μ:Nat→Nat) (i0:Nat) (s0:σ) (h0:I i0 s0) (hf:Fits N.base l L (F i0 s0) (M i0 s0))
  (hr:∀ i s,I i s→∀ K:Fr→Loc→Prop,(∀ l L i' s',I i' s'→μ i' < μ i→Fits N.base l L (F i' s') (M i' s')→K l L)→JC P N body (Q.seq K) (F i s) (M i s)):JC P N (.loop body) Q l L:=
 Hbb (fun x:Nat×σ=>I x.1 x.2) (fun x=>F x.1 x.2) (fun x=>M x.1 x.2) (fun x=>μ x.1) (i0,s0) h0 hf
  (fun x hi K hK=>hr x.1 x.2 hi K (fun l L i' s' h1 h2 h3=>hK l L (i',s') h1 h2 h3))
end code

def isAgg (P:Program) (t:TypeId):Bool:=match P.underlying t with
 | some (.struct _)=>true
 | _=>false

theorem Gd7 {w:World} {a:Addr} {v:Value} (h:w.cell? a=some v):a.block < w.heap.size:=by
 unfold World.cell? at h
 split at h
 ·rename_i hh
  exact(Ej hh).1
 ·cases h

section
variable {H:Type} {enc:TypeId×Value→H} {P:Program} {w:World} {base:Nat} {spare:Nat→Bool} {held:Bool} {S:Nat→Nat→Prop}

structure H60 (H:Type) (M:Nat) (small:DataW H→Prop):Prop where
 slice:∀ elems spare,small (.slice elems spare)→elems.length≤maxLen→elems.length≤M∧∀ e∈elems,small e
 agg:∀ parts,small (.agg parts)→∀ p∈parts,small p
theorem H60.all {H:Type}:H60 H maxLen (fun _=>True):=⟨fun _ _ _ h=>⟨h,fun _ _=>trivial⟩,fun _ _ _ _=>trivial⟩
end

theorem Step.below {w w':World} {β β':Gx} {L':Loc} (h:Step w β [] w' β' L'):Below w.heap.size w w':=
 ⟨h.os,h.tape,h.output.1,h.size,fun k hk=>(h.far k hk (fun id hi=>by simp [lk] at hi)).1⟩

theorem R23 {P:Program} {f:FuncId} {args:List AV} {R:AV→Prop} (hc:Pure P f args R) {w:World} {vs:Array Value} (hl:vs.size=args.length)
  (hv:∀ (j:Nat) u v,args[j]? = some u→vs[j]? = some v→D w (J5 w ⟨fun _=>none,fun _ _=>False⟩ []) u v) :
  Calls P f vs w fun e w'=>∃ v r β' ,e=.returned v∧Below w.heap.size w w'∧V w' β' [] r v∧R r:=by
 refine(hc w ⟨fun _=>none,fun _ _=>False⟩ vs ⟨fun b i h=>h.elim,fun id b h=>by simp [lk] at h,fun id b j h=>by simp [lk] at h,fun id id' b h=>by simp [lk] at h,fun id o h=>by simp [lk] at h⟩ hl
  (fun j u v hu h0=>.data (hv j u v hu h0))).mono fun e w' h=>?_
 obtain⟨v,r,β',L',he,h3,h1,h2,rfl,hR⟩:=h
 exact⟨v,r,β',he,h1.below,h2,hR⟩

section
variable {P:Program} {M n:Nat} {t e:TypeId} {us:List AV}
end


def Rd5 (P:Program) (l:Fr) (L:Loc):ResultVar→AV→Prop
 | .tmp t,u=>look l t=u
 | .cell t T,u=>∃ i tt cs k,look l t=.ptr i 0∧lk L i=some (.box tt cs)∧cs.length=k∧((Gcb P T k=true∧u=.agg cs)∨(Qs P T=true∧cs[0]? = some u))
inductive Q80 (ok:Nat→Bool):AV→AV→Prop
 | conv {u u':AV} (h:Conv ok u u'):Q80 ok u u'
 | agg {cs cs':List AV} (h:H24 ok cs cs'):Q80 ok (.agg cs) (.agg cs')
def Q45 (P:Program) (l:Fr) (L:Loc) (ok:Nat→Bool):List ResultVar→List AV→Prop
 | [],[]=>True
 | rv::r,u'::s=>(∃ u,Rd5 P l L rv u∧Q80 ok u u')∧Q45 P l L ok r s
 | _,_=>False
def Qd0:List AV→AV
 | [u]=>u
 | us=>.tup us
def Qb1 (P:Program) (B:List Nat) (rvs:List ResultVar) (R:AV→Loc→Prop):Fr→Loc→Prop:=
 fun l L=>∃ us L',G7e (fun i=>(lk L' i).isSome) L L'∧allIn L' B=true∧Q45 P l L (fun i=>(lk L' i).isSome) rvs us∧R (Qd0 us) L'

theorem V.convA {w:World} {β:Gx} {L L':Loc} (hd:H92 L L') {u u':AV} {v:Value} (h:V w β L u v) (hc:Q80 (fun i=>(lk L' i).isSome) u u'):V w β L' u' v:=by
 cases hc with
 | conv hc=>exact h.conv hd hc
 | @agg cs cs' hc=>
  obtain⟨vs,rfl,hl,hv⟩:=h.inv_agg
  exact .agg (hl.trans hc.length) (fun j u' v hu h0=>by
   have hj:j < vs.size:=(Ej h0).1
   obtain⟨u,h1⟩:∃ u,cs[j]? = some u:=⟨_,Ey (hl ▸ hj)⟩
   exact(hv j u v h1 h0).conv hd (hc.get j u u' h1 hu))

def Hc9 (a:Act):ResultVar→Sem Value
 | .tmp t=>pure (a.tmps.getD t undef)
 | .cell q t=>do loadVar t (← asAddr (a.tmps.getD q undef))
theorem Q5d {P:Program} {w:World} {β:Gx} {L L':Loc} {l:Fr} {a:Act} (h6:Sat w β L) (hf:Jm a w β L l) (hd:H92 L L') :
  ∀ {rvs:List ResultVar} {us:List AV},Q45 P l L (fun i=>(lk L' i).isSome) rvs us →
  ∃ vs:List Value,(rvs.mapM (Hc9 a)).run P w=.ok vs w∧vs.length=us.length ∧
   ∀ (j:Nat) u v,us[j]? = some u→vs[j]? = some v→V w β L' u v
 | [],[],_=>⟨[],by simp,rfl,fun j u v hu=>by simp at hu⟩
 | rv::r,u'::s,⟨⟨u,hu,hc⟩,h⟩=>by
  obtain⟨vs,h1,h2,h3⟩:=Q5d (P:=P) h6 hf hd (rvs:=r) (us:=s) h
  have key:∃ v,(Hc9 a rv).run P w=.ok v w∧V w β L u v:=by
   cases rv with
   | tmp t=>
    refine⟨_,rfl,?_⟩
    have:=hf.tmp t
    rw [show look l t=u from hu] at this
    exact this
   | cell q T=>
    obtain⟨i,tt,cs,k,e1,e2,e3,e4⟩:=hu
    have hv:=hf.tmp q
    rw [e1] at hv
    obtain⟨b,hb,he⟩:=hv.inv_ptr
    obtain⟨xs,x1,x2,x3⟩:=H40 h6 e2 hb
    rcases e4 with ⟨e4,rfl⟩ | ⟨e4,e5⟩
    ·refine⟨.agg xs,?_,.agg x2 x3⟩
     have:=He4 (w:=w) e4 x1 (x2.trans e3)
     simp only [Hc9,he,asAddr,Sem.run_bind,Sem.run_pure,Result.andThen_ok]
     exact this
    ·have h7:0 < xs.size:=by
      have:=(Ex e5).1
      omega
     refine⟨xs[0],?_,x3 0 u _ e5 (by simp [h7])⟩
     have h5:=G2d (P:=P) (T:=T) (b:=b) (o':=0) (v:=xs[0]) e4 (w:=w) (by simp [World.cell?,x1,h7])
     simp only [Hc9,he,asAddr,Sem.run_bind,Sem.run_pure,Result.andThen_ok]
     simpa [Instr.loadAt,Instr.sureAddr,asAddr] using h5
  obtain⟨v,k1,k2⟩:=key
  refine⟨v::vs,?_,by simp [h2],fun j u0 v0 h0 h4=>?_⟩
  ·rw [List.mapM_cons,Sem.run_bind,k1,Result.andThen_ok,Sem.run_bind,h1,Result.andThen_ok]
   rfl
  ·cases j with
   | zero=>simp at h0 h4; subst h0 h4; exact k2.convA hd hc
   | succ j=>simp at h0 h4; exact h3 j u0 v0 h0 h4
 | [],_::_,h=>h.elim
 | _::_,[],h=>h.elim

theorem G0c {P:Program} {f:FuncId} {fn:Func} {c:Code} {args:List AV} {L0:Loc} {R:AV→Loc→Prop} (base:List Nat) (rvs:List ResultVar) (hf:P.funcs[f]? = some fn) (hb:fn.body=some c) (h6:fn.results=rvs.toArray)
  (h4:∀ id,(lk L0 id).isSome=true→id∈base) (h:JC P ⟨fn.ntmps,base,none⟩ c (.fin (Qb1 P base rvs R)) (G8d 0 args) L0):Jz P f args L0 R:=
 H1b hf hb h4 (fun w0 β0 a w β l L hs hq=>by
  obtain⟨us,L',q1,q2,q3,q4⟩:=hq
  have h0:Fits base l L [] L':=⟨trivial,q1,q2⟩
  have h5:=hs.fits h0
  obtain⟨vs,h1,h2,h3⟩:=Q5d hs.sat hs.frame h0.drop q3
  have h7:(results fn a.tmps).run P w=.ok (if h:vs.toArray.size=1 then vs.toArray[0] else .tuple vs.toArray) w:=by
   have e:results fn a.tmps=(do let vs ← fn.results.mapM (Hc9 a); pure (if h:vs.size=1 then vs[0] else .tuple vs)):=by
    unfold results
    refine congrArg (fun g=>bind (Array.mapM g fn.results) _) ?_
    funext rv
    cases rv <;> rfl
   rw [e,h6,List.mapM_toArray,Sem.run_bind]
   rw [show (List.toArray <$> List.mapM (Hc9 a) rvs:Sem (Array Value)).run P w=.ok vs.toArray w from by
    rw [map_eq_pure_bind,Sem.run_bind,h1,Result.andThen_ok]; rfl]
   rfl
  refine⟨_,Qd0 us,L',h7,h5.sat,h5.step,?_,q4⟩
  match us,vs,h2,h3 with
  | [u],[v],_,h3=>simpa [Qd0] using h3 0 u v rfl rfl
  | [],[],_,h3=>exact .tup rfl (fun j u v hu=>by simp at hu)
  | u::u2::us,v::v2::vs,h2,h3=>
   have:¬ (v::v2::vs).toArray.size=1:=by simp
   rw [dif_neg this]
   exact .tup (by simpa using h2) (fun j u v hu hv=>h3 j u v hu (by simpa using hv))) h

theorem Hj {P:Program} {f:FuncId} {fn:Func} {c:Code} {args:List AV} {R:AV→Prop} (rvs:List ResultVar) (hf:P.funcs[f]? = some fn) (hb:fn.body=some c) (h0:fn.results=rvs.toArray)
  (h:JC P ⟨fn.ntmps,[],none⟩ c (.fin (Qb1 P [] rvs (fun r L'=>L'=[]∧R r))) (G8d 0 args) []):Pure P f args R:=G0c [] rvs hf hb h0 Qd2 h
theorem fin1 {P:Program} {t:Tmp} {α:Type} {l:Fr} {L:Loc} (f:α→AV) {a r:α} (h:some a=some r) (hc:Conv (fun i=>(lk [] i).isSome) (look l t) (f a):=by exact .same rfl):Qb1 P [] [.tmp t] (fun u L'=>L'=[]∧u=f r) l L:=
 ⟨[f a],[],trivial,rfl,⟨⟨_,rfl,.conv hc⟩,trivial⟩,rfl,congrArg f (Ez h)⟩
theorem fin1l {P:Program} {t:Tmp} {α:Type} {l:Fr} {L:Loc} (f:α→AV) {a r:α} (h:some a=some r) (hc:Conv (fun i=>(lk [] i).isSome) (look l t) (f a):=by exact .list rfl):Qb1 P [] [.tmp t] (fun u L'=>L'=[]∧u=f r) l L:=fin1 f h hc
end Go.Proofs.YtokjlondbjdlfaaGreat
