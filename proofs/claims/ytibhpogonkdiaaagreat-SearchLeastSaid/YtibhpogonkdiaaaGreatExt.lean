/-
 Points where ways meet again; Maps that count. Local structs that hold slices that are still appended to; Combinators of the models that the extractor prints,and what
-/
import Derived.Test.YtibhpogonkdiaaaGreatKeys
namespace Go.Proofs.YtibhpogonkdiaaaGreat
section
variable {P:Program} {N:Cfg} {Q:Post} {l:Fr} {L:Loc}
variable {x y:Code}
theorem Jz {X:Type} (I:X->Prop) (F:X->Fr) (M:X->Loc)
  (h1:∀ K:Fr->Loc->Prop,(∀ l L v,I v->Fits N.base l L (F v) (M v)->K l L)->JC P N x (Q.seq K) l L)
  (h2:∀ v,I v->JC P N y Q (F v) (M v)):JC P N (.seq x y) Q l L:=
 G5 fun K hK=>h1 K fun l L v hv hf=>hK l L (Qu hf (h2 v hv))
theorem G90 {c:Operand} (hc:ev l c=.sc (.bool true)) (ht:JC P N x Q l L):JC P N (.cond c x y) Q l L:=
 Gp hc (fun _=>ht) (fun h=>by cases h)
theorem QF {c:Operand} (hc:ev l c=.sc (.bool false)) (hf:JC P N y Q l L):JC P N (.cond c x y) Q l L:=
 Gp hc (fun h=>by cases h) (fun _=>hf)
def unseen (n:Nat) (seen:AK):Nat:=((List.range n).filter fun j=>!seen.contains j).length
theorem QP {n j:Nat} {seen:AK} (hj:j < n) (hs:j ∉ seen):unseen n (seen++[j]) < unseen n seen:=by
 unfold unseen;have h1:(List.range n).filter (fun i=>!(seen++[j]).contains i)=((List.range n).filter fun i=>!seen.contains i).filter fun i=>i != j:=by
  rw [List.filter_filter];grind
 rw [h1];have hm:j∈(List.range n).filter fun i=>!seen.contains i:=by simp [hj,hs]
 have:∀ (l:AK),j∈l->(l.filter fun i=>i != j).length < l.length:=by
  intro l
  induction l with
  | nil=>intro h; cases h
  | cons a r ih=>
   grind
 exact this _ hm
end
mutual
theorem H72 (ok:Nat->Bool):∀ u:AV,u.refs (fun _=>false)=true->u.refs ok=true
 | .AP,_=>rfl
 | .sc _,_=>rfl
 | .list _ _,_=>rfl
 | .lst ..,_=>rfl
 | .AC _,_=>rfl
 | .dmap _,_=>rfl
 | .bag _ _,_=>rfl
 | .agg cs,h=>Jc ok cs h
 | .tup cs,h=>Jc ok cs h
 | .fn _ cs,h=>Jc ok cs h
 | .bfn _ cs,h=>Jc ok cs h
 | .opt _ x,h=>H72 ok x h
 | .ptr _ _,h=>by cases h
 | .own ..,h=>by cases h
 | .ms ..,h=>by cases h
 | .mp _,h=>by cases h
 | .it _,h=>by cases h
 | .vec ..,h=>by cases h
theorem Jc (ok:Nat->Bool):∀ us:AG,Qw (fun _=>false) us=true->Qw ok us=true
 | [],_=>rfl
 | u::r,h=>by
  simp only [Qw,Sq] at h ⊢;exact⟨H72 ok u h.1,Jc ok r h.2⟩
end
set_option linter.unusedVariables false
set_option linter.unusedSimpArgs false
section
variable {κ ν:Type} [DecidableEq κ]

variable {l:List (κ×ν)} {a:κ}
theorem H77:gX l a=true ↔ a∈l.map (·.1):=by
 simp [gX]
theorem kV (p:κ×ν) (l:List (κ×ν)) (a:κ):fL (p::l) a=if p.1=a then some p.2 else fL l a:=by
 unfold fL;grind
theorem ZH (l m:List (κ×ν)) (a:κ):fL (l++m) a=(fL l a).or (fL m a):=by
 induction l with
 | nil=>simp [fL]
 | cons p l ih=>rw [List.cons_append,kV,kV,ih]; split <;> simp
theorem kU:(fL l a).isSome=gX l a:=by
 induction l with
 | nil=>rfl
 | cons p l ih=>
  rw [kV];simp only [gX,List.any_cons];by_cases h:p.1=a
  ·simp [h]
  ·simpa [h,gX] using ih
theorem uQ (h:gX l a=false):fL l a=none:=by
 have:=kU (l:=l) (a:=a);rw [h] at this;simpa using this
theorem mV (l:List (κ×ν)) (a b:κ) (v:ν):fL (iW l a v) b=if a=b then some v else fL l b:=by
 unfold iW;split
 ·rename_i h
  induction l with
  | nil=>simp [gX] at h
  | cons p l ih=>
   rw [List.map_cons,kV,kV];by_cases hp:p.1=a
   ·simp only [hp,if_true];by_cases h0:a=b
    ·simp [h0]
    ·simp only [h0,if_false];by_cases hl:gX l a=true
     ·rw [ih hl,if_neg h0]
     ·have e:l.map (fun p=>if p.1=a then (a,v) else p)=l:=by
       conv=>rhs; rw [<- List.map_id l]
       apply List.map_congr_left;intro q hq;have:q.1≠a:=fun e=>hl (H77.2 (Su.2 ⟨q,hq,e⟩));simp [this]
      rw [e]
   ·simp only [hp,if_false];have hl:gX l a=true:=by simpa [gX,hp] using h
    rw [ih hl];by_cases h1:p.1=b
    ·have:¬ a=b:=fun e=>hp (h1.trans e.symm);simp [h1,this]
    ·simp [h1]
 ·rename_i h;rw [ZH,kV];by_cases h0:a=b
  ·subst h0; rw [uQ (by simpa using h)]; simp
  ·have:fL ([]:List (κ×ν)) b=none:=rfl;simp [h0,this]
theorem J79 (l:List (κ×ν)) (a:κ) (z:ν):(fL (nT l a z) a).getD z=(fL l a).getD z:=by
 unfold nT;split
 ·rfl
 ·rename_i h;rw [ZH,uQ (by simpa using h),kV]; simp

end
section
variable {P:Program} {o:Oper} {l:Fr} {L:Loc} {κ ν:Type} [DecidableEq κ] {kv:κ->Value} {av:ν->AV}
def Q0b (P:Program) (T E k:Nat):Bool:=(match P.underlying T with | some (.array _ e)=>e==E | _=>false)&&Y0 P E k
theorem HK {T E k:Nat} {parts:List (Nat×Operand)} {cs:AG} (zs:AM) (hT:Q0b P T E k=true) (hz:(P.info? T).bind (fun i=>i.zero.map Value.cells)=some zs.toArray) (ho:o.op=.build T parts.toArray) (h0:sJ (fun i=>some (i*k,k)) (zs.map .sc) (parts.map fun p=>(p.1,ev l p.2))=some cs):H7 P o l L (Is (.agg cs) L):=
 J1 fun a w β _ hf=>by
  unfold Q0b at hT;simp only [Sq] at hT;obtain⟨hT,hE⟩:=hT;split at hT
  ·rename_i n e hu;simp at hT; subst hT;cases h1:P.info? T with
   | none=>rw [h1] at hz; simp at hz
   | some inf=>
    rw [h1] at hz;cases h2:inf.zero with
    | none=>simp [h2] at hz
    | some z=>
     simp only [Option.bind_some,h2,Option.map_some,Option.some.injEq] at hz;obtain⟨vs',e1,e2,e3⟩:=nK (w:=w) (β:=β) (L:=L) (qs:=parts.map fun p=>(p.1,a.eval p.2)) (vs:=zs.toArray) h0 (by simp) (fun j p q hp hq=>by
      simp only [Sj,Option.map_eq_some_iff] at hp hq;obtain⟨x,hx,rfl⟩:=hp;obtain⟨y,hy,rfl⟩:=hq;rw [hx] at hy; cases hy;exact⟨rfl,hf.ev _⟩) (by simp) (fun j u v hu hv=>by
      simp only [Sj,Option.map_eq_some_iff] at hu;obtain⟨x,hx,rfl⟩:=hu;simp [hx] at hv; subst hv; exact .sc)
     refine⟨.agg vs',?_,.agg e2 e3⟩;simp [execOp,ho,Instr.build,zeroValue,typeInfo,h1,h2,run_underlying hu,Qd hE w,hz,e1]
  ·cases hT
theorem Ha2 {m x:Operand} {T K E i:Nat} {lst:List (κ×ν)} {a:κ} (z0:ν) (zv:Value) (ho:o.op=.lookup T m x false) (hm:ev l m=.mp i) (hi:lk L i=some (.map T (mapOf kv av (nT lst a z0)))) (hn:(lst.map (·.1)).Nodup)
  (hx:ev l x=aX (kv a)) (hk:oI P K kv) (hT:dK P T K E=true) (hz:(P.info? E).bind (·.zero)=some zv) (h0:av z0=aX zv) :
  H7 P o l L (Is (av ((fL lst a).getD z0)) L):=by
 have h:=G97 (L:=L) z0 zv ho hm hi (J09 hn a z0) hx hk hT hz h0;rw [J79] at h;exact h
end
open Go.RowKit
set_option linter.unusedVariables false
set_option linter.unusedSimpArgs false

/-! ### The cells of a box, one by one -/
def vR (ok:Nat->Bool):AG->AG->Prop
 | [],[]=>True
 | u::r,u'::r'=>Conv ok u u'∧vR ok r r'
 | _,_=>False
theorem vR.length {ok:Nat->Bool}:∀ {cs cs':AG},vR ok cs cs'->cs.length=cs'.length
 | [],[],_=>rfl
 | _::_,_::_,h=>by simp [vR.length h.2]
 | [],_::_,h=>h.elim
 | _::_,[],h=>h.elim
theorem vR.get {ok:Nat->Bool}:∀ {cs cs':AG},vR ok cs cs'->∀ (j:Nat) u u',cs[j]? = some u->cs'[j]? = some u'->Conv ok u u'
 | u::r,u'::r',h,0,x,x',hx,h0=>by simp at hx h0; subst hx; subst h0; exact h.1
 | u::r,u'::r',h,j+1,x,x',hx,h0=>by simp at hx h0; exact vR.get h.2 j x x' hx h0
 | [],[],_,j,_,_,hx,_=>by simp at hx
 | [],_::_,h,_,_,_,_,_=>h.elim
 | _::_,[],h,_,_,_,_,_=>h.elim
theorem vR.sm {ok:Nat->Bool}:∀ {us us':AG},us=us'->us'.all (fun u=>u.refs ok)=true->vR ok us us'
 | [],_,rfl,_=>trivial
 | u::r,_,rfl,h=>by
  rw [List.all_cons,Sq] at h;exact⟨.same h.1,vR.sm rfl h.2⟩
variable {ok:Nat->Bool}
theorem vR.q {us us':AG} (h:us=us':=by rfl) (h2:us'.all (fun u=>u.refs ok)=true:=by rfl):vR ok us us':=.sm h h2
def looks (l:Fr):Fr->AG
 | []=>[]
 | (t,_)::r=>look l t::looks l r
def vals:Fr->AG
 | []=>[]
 | (_,u)::r=>u::vals r
theorem xR.sm {ok:Nat->Bool} {l:Fr}:∀ {l':Fr},looks l l'=vals l'->(vals l').all (fun u=>u.refs ok)=true->xR ok l l'
 | [],_,_=>trivial
 | (t,u)::r,h,h2=>by
  have h':look l t::looks l r=u::vals r:=h;have h0:(u::vals r).all (fun u=>u.refs ok)=true:=h2;rw [List.all_cons,Sq] at h0;injection h' with e1 e2;exact⟨.eq e1 h0.1,xR.sm e2 h0.2⟩
variable {l:Fr}
theorem xR.q {l':Fr} (h:looks l l'=vals l':=by rfl) (h2:(vals l').all (fun u=>u.refs ok)=true:=by rfl):xR ok l l':=.sm h h2
variable {cs cs':AG}
theorem jO.BP {o:Jn} {t:Nat} (ho:o=.box t cs) (h:vR ok cs cs'):jO ok o (.box t cs'):=by
 subst ho; exact .box h.length h.get

/-! ### A nil slice in a box that is going to be appended to -/
variable {L:Loc} {i:Nat}
theorem fmQ {t:Nat} {es:List (Value×AV)} (h:lk L i=some (.map t es):=by rfl):∃ o,lk L i=some o∧jO ok o (.map t es):=⟨_,h,.map⟩
theorem fbQ {t:Nat} {cs1:AG} (h:lk L i=some (.box t cs)) (hc:vR ok cs cs1):∃ o,lk L i=some o∧jO ok o (.box t cs1):=⟨_,h,.BP rfl hc⟩
variable {β:H2} {w:World}
theorem qC (E k:Nat) (hi:lk L i=none):Step w β L w (upP β i none) ((i,.spare E k 0 0)::L):=by
 have h1:∀ id,(lk L id).isSome=true->i≠id:=fun id h e=>by subst e; rw [hi] at h; cases h
 refine⟨rfl,rfl,⟨rfl,Sf⟩,Sf,fun _ _ _=>Iff.rfl,fun b j hs=>⟨⟨hs.lt,hs.seen,fun id ob hid hb=>?_⟩,rfl⟩,fun b hb h0=>⟨rfl,fun id hid e=>?_⟩,fun id t cs hid=>?_,fun id t cs hid=>?_,fun id t n cs hid=>?_,fun id t k' ver xs hid=>?_,fun id t k' ver hw hid=>?_⟩
 ·rw [Gm] at hid;by_cases e:i=id
  ·subst e; simp [upP] at hb
  ·rw [if_neg e] at hid; simp only [upP,if_neg (Ne.symm e)] at hb; exact hs.kept id ob hid hb
 ·rw [Gm] at hid;by_cases e':i=id
  ·subst e'; simp [upP] at e
  ·rw [if_neg e'] at hid; simp only [upP,if_neg (Ne.symm e')] at e; exact h0 id hid e
 all_goals
  have e:=h1 id (by rw [hid]; rfl)
 ·exact⟨by simp [upP,Ne.symm e],cs,by rw [Gm,if_neg e]; exact hid⟩
 ·exact⟨by simp [upP,Ne.symm e],cs,by rw [Gm,if_neg e]; exact hid⟩
 ·exact⟨by simp [upP,Ne.symm e],n,cs,by rw [Gm,if_neg e]; exact hid⟩
 ·exact⟨ver,xs,by rw [Gm,if_neg e]; exact hid,Sf,fun _=>⟨rfl,by simp [upP,Ne.symm e],fun _ _=>rfl⟩⟩
 ·exact⟨ver,hw,by rw [Gm,if_neg e]; exact hid,Sf,fun _=>⟨rfl,by simp [upP,Ne.symm e],fun _ _=>rfl⟩⟩
theorem RA (E k:Nat) (h0:Sat w β L) (hi:lk L i=none):Sat w (upP β i none) ((i,.spare E k 0 0)::L):=by
 refine⟨h0.hid,fun id b hid hb=>?_,fun id b j hid hb=>?_,fun id id' b h1 h2 h3 h4=>?_,fun id ob hid=>?_⟩
 ·rw [Gm] at hid;by_cases e:i=id
  ·subst e; simp [upP] at hb
  ·rw [if_neg e] at hid; simp only [upP,if_neg (Ne.symm e)] at hb; exact h0.bnd id b hid hb
 ·rw [Gm] at hid;by_cases e:i=id
  ·subst e; simp [upP] at hb
  ·rw [if_neg e] at hid; simp only [upP,if_neg (Ne.symm e)] at hb; exact h0.apart id b j hid hb
 ·by_cases e:i=id
  ·subst e; simp [upP] at h3
  ·by_cases e':i=id'
   ·subst e'; simp [upP] at h4
   ·rw [Gm,if_neg e] at h1;rw [Gm,if_neg e'] at h2;simp only [upP,if_neg (Ne.symm e)] at h3;simp only [upP,if_neg (Ne.symm e')] at h4;exact h0.inj id id' b h1 h2 h3 h4
 ·rw [Gm] at hid;by_cases e:i=id
  ·subst e; simp at hid; subst hid; exact .inl ⟨by simp [upP],rfl⟩
  ·rw [if_neg e] at hid;simp only [upP,if_neg (Ne.symm e)];exact(h0.obj id ob hid).step (qC E k hi) (fun b hb=>rfl)
theorem Jfd (E k:Nat):V w (upP β i none) ((i,.spare E k 0 0)::L) (.own i 0 k []) (.slice none 0 0):=
 .own (.nil (Nat.zero_le _)) ⟨E,0,0,by rw [Gm,if_pos rfl],Sf,fun _=>⟨rfl,by simp [Value.ownBlock,upP],[],⟨by simp,.inl ⟨rfl,rfl⟩⟩,fun j u hu=>by simp [flat] at hu⟩⟩

variable {a:Act} {N:Cfg} {β0:H2} {L0:Loc} {t:TypeId} {w0:World}
theorem Rr.redescribeB (hs:Rr N w0 β0 L0 a w β l L) (hi:lk L i=some (.box t cs)) (hl:cs.length=cs'.length)
  (h:∀ (vs:Array Value) (j:Nat) u v,(∃ b,β i=some b∧w.heap[b]? = some (.cells vs t (0,0)))->(∀ (j:Nat) u v,cs[j]? = some u->vs[j]? = some v->V w β L u v)->vs.size=cs.length->cs'[j]? = some u->vs[j]? = some v->V w β L u v):Rr N w0 β0 L0 a w β l ((i,.box t cs')::L):=by
 obtain⟨b,hb,vs,h7,h8,h9⟩:=hs.sat.obj i _ hi;have h0:∀ id,(lk ((i,Jn.box t cs')::L) id).isSome=(lk L id).isSome:=fun id=>by
  rw [Gm]; split
  ·rename_i e; subst e; rw [hi]; rfl
  ·rfl
 have h6:∀ b j,J6 w β L b j->J6 w β ((i,.box t cs')::L) b j:=fun b j h5=>⟨h5.lt,h5.seen,fun id o ho hb=>by
  rw [Gm] at ho;split at ho
  ·rename_i e; subst e; cases ho; exact(h5.kept i _ hi hb).elim
  ·exact h5.kept id o ho hb⟩
 have st:Step w β L w β ((i,.box t cs')::L):=by
  refine⟨rfl,rfl,⟨rfl,Sf⟩,Sf,fun _ _ _=>Iff.rfl,fun b j h=>⟨h6 b j h,rfl⟩,fun b hb hf=>⟨rfl,fun id hid e=>hf id (by rw [<- h0 id]; exact hid) e⟩,fun id t2 cs2 hid=>?_,fun id t2 cs2 hid=>?_,fun id m n es hid=>?_,fun id t2 k2 ver xs hid=>?_,fun id t2 k2 ver hw hid=>?_⟩
  ·refine⟨rfl,?_⟩;rw [Gm]; split
   ·rename_i e; subst e; rw [hi] at hid; cases hid; exact⟨_,rfl⟩
   ·exact⟨_,hid⟩
  ·refine⟨rfl,cs2,?_⟩;rw [Gm,if_neg (fun e=>by subst e; rw [hi] at hid; cases hid)]; exact hid
  ·refine⟨rfl,n,es,?_⟩;rw [Gm,if_neg (fun e=>by subst e; rw [hi] at hid; cases hid)]; exact hid
  ·refine⟨ver,xs,?_,Sf,fun _=>⟨rfl,rfl,fun _ _=>rfl⟩⟩;rw [Gm,if_neg (fun e=>by subst e; rw [hi] at hid; cases hid)]; exact hid
  ·refine⟨ver,hw,?_,Sf,fun _=>⟨rfl,rfl,fun _ _=>rfl⟩⟩;rw [Gm,if_neg (fun e=>by subst e; rw [hi] at hid; cases hid)]; exact hid
 refine⟨⟨hs.sat.hid,fun id b h1 h2=>hs.sat.bnd id b (by rw [<- h0 id]; exact h1) h2,fun id b j h1 h2=>hs.sat.apart id b j (by rw [<- h0 id]; exact h1) h2,fun id id' b h1 h2 h3 h4=>hs.sat.inj id id' b (by rw [<- h0 id]; exact h1) (by rw [<- h0 id']; exact h2) h3 h4,fun id o ho=>?_⟩,hs.step.trans st,hs.frame.step st,hs.size,hs.base,hs.defers.step st⟩;rw [Gm] at ho;split at ho
 ·rename_i e; subst e; cases ho;exact⟨b,hb,vs,h7,by omega,fun j u v hu hv=>(h vs j u v ⟨b,hb,h7⟩ h9 h8 hu hv).step st⟩
 ·exact(hs.sat.obj id o ho).step st (fun b hb=>rfl)

theorem Rr.redescribe (hs:Rr N w0 β0 L0 a w β l L) (hi:lk L i=some (.box t cs)) (hl:cs.length=cs'.length)
  (h:∀ (vs:Array Value) (j:Nat) u v,(∀ (j:Nat) u v,cs[j]? = some u->vs[j]? = some v->V w β L u v)->vs.size=cs.length->cs'[j]? = some u->vs[j]? = some v->V w β L u v):Rr N w0 β0 L0 a w β l ((i,.box t cs')::L):=
 hs.redescribeB hi hl (fun vs j u v _=>h vs j u v)

theorem Rr.ownCell (hs:Rr N w0 β0 L0 a w β l L) (i j id E k:Nat) (hi:lk L i=some (.box t cs)) (hid:lk L id=none) (hj:cs[j]? = some (.sc (.slice none 0 0)))
  (h2:cs.set j (.own id 0 k [])=cs'):∃ β',Rr N w0 β0 L0 a w β' l ((i,.box t cs')::(id,.spare E k 0 0)::L):=by
 have st:=qC (w:=w) (β:=β) E k hid;have h1:Rr N w0 β0 L0 a w (upP β id none) l ((id,.spare E k 0 0)::L):=⟨RA E k hs.sat hid,hs.step.trans st,hs.frame.step st,hs.size,hs.base,hs.defers.step st⟩;have h3:id≠i:=fun e=>by subst e; rw [hi] at hid; cases hid
 refine⟨_,h1.redescribe (i:=i) (t:=t) (cs:=cs) (by rw [Gm,if_neg h3]; exact hi) (by rw [<- h2]; simp) fun vs q u v h0 h5 hu hv=>?_⟩;rw [<- h2] at hu;by_cases e:j=q
 ·subst e;have h4:j < cs.length:=(Sa hj).1;simp [List.getElem?_set,h4] at hu;subst hu;have:=h0 j _ v hj hv;rw [this.inv_sc];exact Jfd E k
 ·grind
theorem fQ {P:Program} {ops:Array Oper} {rest:AN} {Q:Post} (i j id E k:Nat) (hi:lk L i=some (.box t cs)) (hid:lk L id=none) (hj:cs[j]? = some (.sc (.slice none 0 0)))
  (h0:cs.set j (.own id 0 k [])=cs') (hk:JL P N ops rest Q l ((i,.box t cs')::(id,.spare E k 0 0)::L)):JL P N ops rest Q l L:=
 fun n w0 β0 L0 a w β hs=>by
  obtain⟨β',h⟩:=hs.ownCell i j id E k hi hid hj h0;exact hk n w0 β0 L0 a w β' h

/-! ### Zero values whose slices are seen as empty lists -/
def ZOk:AG->AM->Prop
 | [],[]=>True
 | u::r,v::s=>(u=.sc v∨∃ k,u=.list k []∧v=.slice none 0 0)∧ZOk r s
 | _,_=>False
theorem zzQ:∀ {us:AG} {vs:AM},us=vs.map .sc->ZOk us vs
  | _,[],h=>by subst h; trivial
  | _,v::r,h=>by subst h; exact⟨.inl rfl,zzQ rfl⟩
theorem ZOk.length:∀ {us:AG} {vs:AM},ZOk us vs->us.length=vs.length
 | [],[],_=>rfl
 | _::_,_::_,h=>by simp [ZOk.length h.2]
 | [],_::_,h=>h.elim
 | _::_,[],h=>h.elim
theorem ZOk.get {w:World} {β:H2} {L:Loc}:∀ {us:AG} {vs:AM},ZOk us vs->∀ (j:Nat) u v,us[j]? = some u->vs[j]? = some v->V w β L u v
 | u::r,v::s,h,0,x,y,hx,hy=>by
  simp at hx hy; subst hx; subst hy;rcases h.1 with h | ⟨k,h1,h2⟩
  ·subst h; exact .sc
  ·subst h1; subst h2; exact .data (.nil (Nat.zero_le _))
 | u::r,v::s,h,j+1,x,y,hx,hy=>by simp at hx hy; exact ZOk.get h.2 j x y hx hy
 | [],[],_,j,_,_,hx,_=>by simp at hx
 | [],_::_,h,_,_,_,_,_=>h.elim
 | _::_,[],h,_,_,_,_,_=>h.elim
section
variable {P:Program} {o:Oper} {l:Fr} {L:Loc}
theorem Yn (i:Nat) {T:Nat} (us:AG) (zs:AM) (hz:(P.info? T).bind (fun i=>i.zero.map Value.cells)=some zs.toArray) (hu:ZOk us zs) (ho:o.op=.alloc T:=by rfl) (hi:lk L i=none:=by rfl) :
  H7 P o l L (Is (.ptr i 0) ((i,.box T us)::L)):=by
 intro a w β K Q h0 hf hK;cases h1:P.info? T with
 | none=>rw [h1] at hz; simp at hz
 | some inf=>
  rw [h1] at hz;cases h2:inf.zero with
  | none=>simp [h2] at hz
  | some z=>
   simp only [Option.bind_some,h2,Option.map_some,Option.some.injEq] at hz;unfold Oper.wp;have hr:(execOp a.eval o).run P w=.ok (.value (.pointer (some ⟨w.heap.size,0,none⟩))) (w.alloc (.cells z.cells T)):=by
    simp [execOp,ho,Instr.alloc,zeroValue,typeInfo,h1,h2,newVar,newRow]
   rw [hr];refine hK _ _ _ _ (upP β i (some w.heap.size)) ⟨rfl,rfl⟩ (h0.alloc hi _ (fun hs=>⟨_,rfl,z.cells,heap_alloc_new w _,by simp [hz,hu.length],fun j u v hj hv=>?_⟩)) (Step.alloc hi h0.bnd _) (.ptr (t:=T) (cs:=us) (by simp [Gm]) (by simp [upP]));rw [hz] at hv;exact hu.get j u v hj (by simpa using hv)
theorem Jj {T:TypeId} {parts:List (Nat×Operand)} {cs:AG} (pl:List (Nat×Nat)) (us:AG) (zs:AM) (h0:placesOf P T=some pl) (hz:(P.info? T).bind (fun i=>i.zero.map Value.cells)=some zs.toArray) (hu:ZOk us zs) (ho:o.op=.build T parts.toArray:=by rfl) (h3:sJ (fun i=>pl[i]?) us (parts.map fun p=>(p.1,ev l p.2))=some cs:=by rfl):H7 P o l L (Is (.agg cs) L):=
 J1 fun a w β _ hf=>by
  cases h1:P.info? T with
  | none=>rw [h1] at hz; simp at hz
  | some inf=>
   rw [h1] at hz;cases h2:inf.zero with
   | none=>simp [h2] at hz
   | some z=>
    simp only [Option.bind_some,h2,Option.map_some,Option.some.injEq] at hz;unfold placesOf at h0;split at h0
    ·rename_i fs h4;have h5:=run_places (P:=P) (w:=w) fs.toList pl h0;obtain⟨vs',e1,e2,e3⟩:=nK (w:=w) (β:=β) (L:=L) (qs:=parts.map fun p=>(p.1,a.eval p.2)) (vs:=zs.toArray) h3 (by simp) (fun j p q hp hq=>by
      simp only [Sj,Option.map_eq_some_iff] at hp hq;obtain⟨x,hx,rfl⟩:=hp;obtain⟨y,hy,rfl⟩:=hq;rw [hx] at hy; cases hy;exact⟨rfl,hf.ev _⟩) (by simp [hu.length]) (fun j u v hj hv=>hu.get j u v hj (by simpa using hv))
     refine⟨.agg vs',?_,.agg e2 e3⟩;have hm:(fs.mapM (fun f=>Prod.mk f.offset <$> sizeOf f.type:Field->Sem (Nat×Nat))).run P w=.ok pl.toArray w:=by
      rw [<- Array.toArray_toList (xs:=fs),List.mapM_toArray];simp only [Sem.run_map,h5,Result.andThen_ok]
     simp [execOp,ho,Instr.build,zeroValue,typeInfo,h1,h2,underlying,h4,hm,hz,e1]
    ·cases h0
end
/-! ### A result that lies in a variable -/
theorem ZD {P:Program} {T k b:Nat} {vs:Array Value} (hT:mH P T k=true) (hv:w.heap[b]? = some (.cells vs t (0,0))) (hk:vs.size=k) :
  (loadVar T ⟨b,0,none⟩).run P w=.ok (.agg vs) w:=by
 have h1:=lK (P:=P) (T:=T) (k:=k) (b:=b) (o':=0) (vs:=vs.toList) hT (by simpa using hk) (w:=w) (fun j v h=>by
  simp at h;simp [World.cell?,hv,h])
 simpa [Instr.loadAt,Instr.sureAddr,asAddr] using h1

section model
variable {α β σ:Type}

def loop (b:(σ->Option β)->σ->Option β):Nat->σ->Option β
 | 0,_=>none
 | n+1,s=>b (loop b n) s
def each (b:α->Nat->σ->(σ->Option β)->Option β) (kx:σ->Option β):List α->Nat->σ->Option β
 | [],_,s=>kx s
 | x::xs,i,s=>b x i s (each b kx xs (i+1))
def upto (b:Nat->σ->(σ->Option β)->Option β) (kx:σ->Option β):Nat->Nat->σ->Option β
 | 0,_,s=>kx s
 | n+1,i,s=>b i s (upto b kx n (i+1))
def jp (m:(α->Option β)->Option β) (k:α->Option β):Option β:=m k
def bnd (m:Option α) (k:α->Option β):Option β:=match m with
 | some x=>k x
 | none=>none
def G64 (z:Int):Bool:=decide (-9223372036854775808<=z)&&decide (z<=9223372036854775807)
def chk (z:Int) (k:Int->Option β):Option β:=bif G64 z then k z else none
def Jy (l:List α) (i:Int) (k:α->Option β):Option β:=bif decide (0<=i) then bnd l[i.toNat]? k else none
def need (b:Bool) (k:Option β):Option β:=bif b then k else none

variable {n:Nat} {r:β} {s:σ}
theorem Zt {b:(σ->Option β)->σ->Option β} (h:loop b n s=some r):∃ m nx,n=m+1∧loop b m=nx∧b nx s=some r:=by
 cases n with
 | zero=>cases h
 | succ m=>exact⟨m,_,rfl,rfl,h⟩
variable {i k:Nat} {kx:σ->Option β}
theorem Hw {b:α->Nat->σ->(σ->Option β)->Option β} {xs:List α} (h:each b kx (xs.drop k) i s=some r) (hk:¬ k < xs.length):kx s=some r:=by
 rw [List.drop_eq_nil_of_le (by omega)] at h; exact h
theorem Hv {b:α->Nat->σ->(σ->Option β)->Option β} {xs:List α} (h:each b kx (xs.drop k) i s=some r) (hk:k < xs.length) :
  ∃ x nx,xs[k]? = some x∧each b kx (xs.drop (k+1)) (i+1)=nx∧b x i s nx=some r:=by
 rw [List.drop_eq_getElem_cons hk] at h;exact⟨xs[k],_,by simp [hk],rfl,h⟩
theorem gU {b:Nat->σ->(σ->Option β)->Option β} (h:upto b kx (n - k) i s=some r) (hk:¬ k < n):kx s=some r:=by
 rw [show n - k=0 by omega] at h; exact h
theorem gT {b:Nat->σ->(σ->Option β)->Option β} (h:upto b kx (n - k) i s=some r) (hk:k < n) :
  ∃ nx,upto b kx (n - (k+1)) (i+1)=nx∧b i s nx=some r:=by
 rw [show n - k=(n - (k+1))+1 by omega] at h;exact⟨_,rfl,h⟩
theorem Qm {m:(α->Option β)->Option β} {k:α->Option β} (h:jp m k=some r):∃ kk,k=kk∧m kk=some r:=⟨k,rfl,h⟩
theorem Ge {m:Option α} {k:α->Option β} (h:bnd m k=some r):∃ x,m=some x∧k x=some r:=by
 cases m with
 | none=>cases h
 | some x=>exact⟨x,rfl,h⟩
theorem Hg {z:Int} {k:Int->Option β} (h:chk z k=some r):∃ v,IntKind.i64.wrap z=v∧k v=some r:=by
 unfold chk at h;cases hz:G64 z with
 | true=>
  rw [hz] at h;simp only [G64,Sq,Sr] at hz;exact⟨z,J32 hz.1 hz.2,h⟩
 | false=>rw [hz] at h; cases h
theorem Q6 {l:List α} {i:Int} {k:α->Option β} (h:Jy l i k=some r):∃ (m:Nat) (x:α),i=(m:Int)∧l[m]? = some x∧k x=some r:=by
 unfold Jy at h;cases hz:decide (0<=i) with
 | true=>
  rw [hz] at h;obtain⟨x,hx,h⟩:=Ge h;grind
 | false=>rw [hz] at h; cases h
theorem Hz {b:Bool} {k:Option β} (h:need b k=some r):b=true∧k=some r:=by
 cases b with
 | true=>exact⟨rfl,h⟩
 | false=>cases h
variable {x:α}
theorem H5 {c:Bool} {y z:α} (hc:c=true) (h:(bif c then x else y)=z):x=z:=by subst hc; exact h
theorem Ht {c:Bool} {y z:α} (hc:c=false) (h:(bif c then x else y)=z):y=z:=by subst hc; exact h
theorem Jff {f:α->AV} {l:List α} {m:Nat} (h:l[m]? = some x):(l.map f)[m]? = some (f x):=by simp [h]
end model

abbrev ST (s:ByteArray):AV:=.sc (.string s)
abbrev LS {α:Type} (k:Nat) (f:α->AV) (xs:List α):AV:=.list k (xs.map f)
abbrev E0:Value:=.int .i64 0
abbrev Er (n:Nat):AV:=I64 (n:Int)
abbrev Eg:=LS 1 U8
abbrev E5:=LS 1 I64
abbrev OW {α:Type} (i k:Nat) (f:α->AV) (xs:List α):AV:=.own i xs.length k (xs.map f)

section ops
variable {P:Program} {N:Cfg} {Q:Post} {l:Fr} {L L':Loc} {ops:Array Oper} {o:Oper} {rest:AN} {u:AV} {α:Type}

variable {xs:List α} {E T k k':Nat} {x:Operand} {f:α->AV}
theorem Ho {d:Nat} (hT:sliceB P T E k'=true) (ho:o.op=.call { callee:=.builtin .len,args:=#[x],argTypes:=#[T] }) (hx:Qi (ev l x)=some (k,xs.map f))
  (hk:xs.length<=maxLen->JL P N ops rest Q ((d,I64 (xs.length:Int))::l) L) (hg:o.guard=none) (hd:o.dst=some d) (hn:Nat.blt d N.n=true):JL P N ops (o::rest) Q l L:=
 Q55 hT (fun hm=>by simp only [Ss] at hm ⊢; exact hk hm) ho hx hg hd hn
theorem JLl {d:Nat} (hT:sliceB P T E k'=true) (ho:o.op=.call { callee:=.builtin .len,args:=#[x],argTypes:=#[T] }) (hx:Qi (ev l x)=some (k,xs.map f)) (hd:o.dst=some d)
  (hk:xs.length<=maxLen->JL P N ops rest Q ((d,I64 (xs.length:Int))::l) L) (hg:o.guard=none:=by rfl) (hn:Nat.blt d N.n=true:=by rfl):JL P N ops (o::rest) Q l L:=Ho hT ho hx hk hg hd hn
theorem Yo (hT:sliceB P T E k'=true) (ho:o.op=.call { callee:=.builtin .len,args:=#[x],argTypes:=#[T] }:=by rfl) (hx:Qi (ev l x)=some (k,xs.map f):=by rfl):H7 P o l L (Is (I64 (xs.length:Int)) L):=by
 have:=Jea (L:=L) hT ho hx;grind
theorem Gd {f off:Nat} {cs ds:AG} (hT:Qc P T f off=true) (ho:o.op=.fieldAddr T x f:=by rfl) (hx:ev l x=.AC cs:=by rfl) (hd:cs.drop off=ds:=by rfl):H7 P o l L (Is (.AC ds) L):=hd ▸ Q21 hT ho hx
variable {kd:IntKind}
theorem H4 {ix:Operand} {m:Nat} {n:Int} {y:α} (ho:o.op=.indexAddr T x ix) (hx:Qi (ev l x)=some (k,xs.map f)) (hi:ev l ix=.sc (.int kd n)) (hT:sliceB P T E k=true) (hy:xs[m]? = some y) (hm:n=(m:Int):=by rfl) :
  H7 P o l L (Is (.AC (f y).cells) L):=Q20 ho hx hi hT (Jff hy) hm
theorem Q8 {s:Operand} {by_ i kx:Nat} {ys:List α} (ho:o.op=.call { callee:=.builtin .append,args:=#[s,x],argTypes:=#[T,T] }) (hs:ev l s=OW i k f xs) (hi:lk L i=some (.spare E k xs.length xs.length)) (hx:Qi (ev l x)=some (kx,ys.map f))
  (hT:sliceB P T E k=true) (hE:Y9 P E k by_=true) (hb:decide ((xs.length+ys.length)*by_<=140737488355328∧xs.length+ys.length<=maxLen)=true) (h0:∀ y,(f y).BJ=true) (hk:kx=k∨ys=[]) (hy:ys.length=1:=by rfl) :
  H7 P o l L (Is (OW i k f (xs++ys)) ((i,.spare E k (xs++ys).length (xs++ys).length)::L)):=by
 have h1:=S6 hb;have h:=Ha5 (xs:=xs.map f) (ys:=ys.map f) ho hs hi hx hT hE (by simpa using h1.1) (by simpa using h1.2) (fun y hy=>by
  obtain⟨z,_,rfl⟩:=Su.1 hy;exact h0 z) (hk.imp id (fun e=>by rw [e]; rfl))
 grind
theorem vJ {p:Operand} {m:Nat} {mi:Int} (ho:o.op=.slice T x (some p) none none) (hx:Qi (ev l x)=some (k,xs.map f)) (hp:ev l p=.sc (.int kd mi)) (hT:sliceB P T E k=true) (hm:mi=(m:Int)∧m<=xs.length) :
  H7 P o l L (Is (LS k f (xs.drop m)) L):=by
 have h:=J9e (L:=L) ho hx hp hT hm.1 (by simpa using hm.2);simpa only [LS,List.map_drop] using h
theorem Yb {p:Operand} {n:Nat} {ni:Int} (ho:o.op=.slice T x none (some p) none) (hx:Qi (ev l x)=some (k,xs.map f)) (hp:ev l p=.sc (.int kd ni)) (hT:sliceB P T E k=true) (hn:ni=(n:Int)∧n<=xs.length) :
  H7 P o l L (Is (LS k f (xs.take n)) L):=by
 have h:=J9f (L:=L) ho hx hp hT hn.1 (by simpa using hn.2);simpa only [LS,List.map_take] using h
end ops

section model
variable {α β σ:Type}
variable {v:Int}
theorem xA {z:Int} (h:chk z some=some v):IntKind.i64.wrap z=v:=by
 obtain⟨x,hx,e⟩:=Hg h;grind
variable {i:Int} {l:List α} {x:α}
theorem aO (h:Jy l i some=some x):∃ m:Nat,i=(m:Int)∧l[m]? = some x:=by
 obtain⟨m,y,hm,hy,e⟩:=Q6 h;grind
theorem R1 {k:α->Option β} {r:β} (h:Jy l i k=some r):∃ x,i=(i.toNat:Int)∧l[i.toNat]? = some x∧k x=some r:=by
 obtain⟨m,x,hm,hx,h⟩:=Q6 h;grind
theorem fM (h:Jy l i some=some x):i=(i.toNat:Int):=by obtain⟨m,hm,_⟩:=aO h; omega
theorem Y4 (h:Jy l i some=some x):l[i.toNat]? = some x:=by obtain⟨m,hm,h⟩:=aO h; rw [hm]; exact h
def eI (i:Int) (n:Nat):Option Nat:=bif decide (0<=i)&&decide (i.toNat<=n) then some i.toNat else none
variable {n:Nat}
theorem Qf {m:Nat} (h:eI i n=some m):i=(m:Int)∧m<=n:=by
 unfold eI at h;grind
def Gce (m n:Int):Option Int:=bif decide (n=0) then none else chk (m.tdiv n) some
theorem yC {m n:Int} (h:Gce m n=some v):n≠0∧IntKind.i64.wrap (m.tdiv n)=v:=by
 unfold Gce at h;cases hb:decide (n=0) with
 | true=>rw [hb] at h; cases h
 | false=>rw [hb] at h; exact⟨S7 hb,xA h⟩
def mK (m n:Int):Option Int:=bif decide (n=0) then none else some (m.tmod n)
theorem Qh {m n:Int} (h:mK m n=some v):n≠0∧m.tmod n=v:=by
 unfold mK at h;grind
variable {k:Nat}
theorem Hi (hk:k < n) (hn:n<=maxLen):IntKind.i64.wrap ((k:Int)+1)=((k+1:Nat):Int):=by
 rw [J32 (by omega) (by unfold maxLen at hn; omega)]; rfl
variable {e:Int}
theorem gY (h:decide ((k:Int) < e)=true):k < e.toNat:=by have:=S6 h; omega
theorem Zs (h:decide ((k:Int) < e)=false):¬ k < e.toNat:=by have:=S7 h; omega
theorem Jq (h:decide ((k:Int) < (n:Int))=true):k < n:=by have:=S6 h; omega
theorem Hd (h:decide ((k:Int) < (n:Int))=false):¬ k < n:=by have:=S7 h; omega
theorem cJ (h:decide (e<=9223372036854775807)=true):e.toNat<=maxLen:=by have:=S6 h; unfold maxLen; omega
theorem app1 {α β:Type} {f g:α->β} {x:α} {r:β} (e:f=g) (h:g x=r):f x=r:=e ▸ h
variable {γ:Type} {y:γ}
theorem vC {α β:Type} {f g:α->γ->β} {x:α} {r:β} (e:f=g) (h:g x y=r):f x y=r:=e ▸ h
theorem JU {α δ β:Type} {f g:α->γ->δ->β} {x:α} {z:δ} {r:β} (e:f=g) (h:g x y z=r):f x y z=r:=e ▸ h
theorem Y2 {α δ ε β:Type} {f g:α->γ->δ->ε->β} {x:α} {z:δ} {u:ε} {r:β} (e:f=g) (h:g x y z u=r):f x y z u=r:=e ▸ h
variable {r:Option β} {s:σ}
theorem J7 {b:α->Nat->σ->(σ->Option β)->Option β} {kx:σ->Option β} {xs:List α} (h:each b kx xs 0 s=r):∃ b' kx',b=b'∧kx=kx'∧each b' kx' (xs.drop 0) 0 s=r:=⟨b,kx,rfl,rfl,by rw [List.drop_zero]; exact h⟩
theorem lD {b:Nat->σ->(σ->Option β)->Option β} {kx:σ->Option β} (h:upto b kx n 0 s=r):∃ b' kx',b=b'∧kx=kx'∧upto b' kx' (n - 0) 0 s=r:=⟨b,kx,rfl,rfl,h⟩
theorem bY {b:(σ->Option β)->σ->Option β} (h:loop b n s=r):∃ b',b=b'∧loop b' n s=r:=⟨b,rfl,h⟩
end model

section code
variable {P:Program} {N:Cfg} {Q:Post} {l:Fr} {L:Loc}
variable {body:Code} {σ:Type}
theorem He (I:Nat->σ->Prop) (F:Nat->σ->Fr) (M:Nat->σ->Loc) (μ:Nat->Nat) (i0:Nat) (s0:σ) (h0:I i0 s0) (hf:Fits N.base l L (F i0 s0) (M i0 s0))
  (hr:∀ i s,I i s->∀ K:Fr->Loc->Prop,(∀ l L i' s',I i' s'->μ i' < μ i->Fits N.base l L (F i' s') (M i' s')->K l L)->JC P N body (Q.seq K) (F i s) (M i s)):JC P N (.loop body) Q l L:=
 J50 (fun x:Nat×σ=>I x.1 x.2) (fun x=>F x.1 x.2) (fun x=>M x.1 x.2) (fun x=>μ x.1) (i0,s0) h0 hf
  (fun x hi K hK=>hr x.1 x.2 hi K (fun l L i' s' h1 h2 h3=>hK l L (i',s') h1 h2 h3))
theorem GO {α β:Type} {b:α->Nat->σ->(σ->Option β)->Option β} {kx:σ->Option β} {xs:List α} {r:Option β} {s0:σ} (h:each b kx (xs.drop 0) 0 s0=r) (F:Nat->σ->Fr) (M:Nat->σ->Loc) (hf:Fits N.base l L (F 0 s0) (M 0 s0)) (hr:∀ i s,each b kx (xs.drop i) i s=r->∀ K:Fr->Loc->Prop,(∀ l L i' s',each b kx (xs.drop i') i' s'=r->xs.length - i' < xs.length - i->Fits N.base l L (F i' s') (M i' s')->K l L)->JC P N body (Q.seq K) (F i s) (M i s)):JC P N (.loop body) Q l L:=He (fun i s=>each b kx (xs.drop i) i s=r) F M (fun i=>xs.length - i) 0 s0 h hf hr
theorem GY {β:Type} {b:Nat->σ->(σ->Option β)->Option β} {kx:σ->Option β} {n:Nat} {r:Option β} {s0:σ} (h:upto b kx (n - 0) 0 s0=r) (F:Nat->σ->Fr) (M:Nat->σ->Loc) (hf:Fits N.base l L (F 0 s0) (M 0 s0)) (hr:∀ i s,upto b kx (n - i) i s=r->∀ K:Fr->Loc->Prop,(∀ l L i' s',upto b kx (n - i') i' s'=r->n - i' < n - i->Fits N.base l L (F i' s') (M i' s')->K l L)->JC P N body (Q.seq K) (F i s) (M i s)):JC P N (.loop body) Q l L:=He (fun i s=>upto b kx (n - i) i s=r) F M (fun i=>n - i) 0 s0 h hf hr
end code
end Go.Proofs.YtibhpogonkdiaaaGreat
