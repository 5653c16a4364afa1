/-
 Local structs that hold slices that are still appended to; results that lie in a variable.
-/
import Derived.Test.YthcpolfodgjekaaGreatTally
namespace Go.Proofs.YthcpolfodgjekaaGreat
open Go.RowKit
set_option linter.unusedVariables false
set_option linter.unusedSimpArgs false

/-! ### The cells of a box, one by one -/
def Hb2 (ok:Nat→Bool):List AV→List AV→Prop
 | [],[]=>True
 | u::r,u'::r'=>Conv ok u u'∧Hb2 ok r r'
 | _,_=>False
theorem Hb2.length {ok:Nat→Bool}:∀ {cs cs':List AV},Hb2 ok cs cs'→cs.length=cs'.length
 | [],[],_=>rfl
 | _::_,_::_,h=>by simp [Hb2.length h.2]
 | [],_::_,h=>h.elim
 | _::_,[],h=>h.elim
theorem Hb2.get {ok:Nat→Bool}:∀ {cs cs':List AV},Hb2 ok cs cs'→∀ (j:Nat) u u',cs[j]? = some u→cs'[j]? = some u'→Conv ok u u'
 | u::r,u'::r',h,0,x,x',hx,hx'=>by simp at hx hx'; subst hx; subst hx'; exact h.1
 | u::r,u'::r',h,j+1,x,x',hx,hx'=>by simp at hx hx'; exact Hb2.get h.2 j x x' hx hx'
 | [],[],_,j,_,_,hx,_=>by simp at hx
 | [],_::_,h,_,_,_,_,_=>h.elim
 | _::_,[],h,_,_,_,_,_=>h.elim
theorem Hb2.sm {ok:Nat→Bool}:∀ {us us':List AV},us=us'→us'.all (fun u=>u.refs ok)=true→Hb2 ok us us'
 | [],_,rfl,_=>trivial
 | u::r,_,rfl,h=>by
  rw [List.all_cons,Bool.and_eq_true] at h
  exact⟨.same h.1,Hb2.sm rfl h.2⟩
def looks (l:Fr):Fr→List AV
 | []=>[]
 | (t,_)::r=>look l t::looks l r
def vals:Fr→List AV
 | []=>[]
 | (_,u)::r=>u::vals r
theorem Jac.sm {ok:Nat→Bool} {l:Fr}:∀ {l':Fr},looks l l'=vals l'→(vals l').all (fun u=>u.refs ok)=true→Jac ok l l'
 | [],_,_=>trivial
 | (t,u)::r,h,h2=>by
  have h':look l t::looks l r=u::vals r:=h
  have h2':(u::vals r).all (fun u=>u.refs ok)=true:=h2
  rw [List.all_cons,Bool.and_eq_true] at h2'
  injection h' with e1 e2
  exact⟨.eq e1 h2'.1,Jac.sm e2 h2'.2⟩
theorem Gc0.boxL {ok:Nat→Bool} {o:Jn} {t:Nat} {cs cs':List AV} (ho:o=.box t cs) (h:Hb2 ok cs cs'):Gc0 ok o (.box t cs'):=by
 subst ho; exact .box h.length h.get

/-! ### A nil slice in a box that is going to be appended to -/
theorem H25 {w:World} {β:H7} {L:Loc} {i:Nat} (E k:Nat) (hi:lk L i=none):Step w β L w (Q5 β i none) ((i,.spare E k 0 0)::L):=by
 have hne:∀ id,(lk L id).isSome=true→i≠id:=fun id h e=>by subst e; rw [hi] at h; cases h
 refine⟨rfl,rfl,⟨rfl,Nat.le_refl _⟩,Nat.le_refl _,fun _ _ _=>Iff.rfl,fun b j hs=>⟨⟨hs.lt,hs.seen,fun id ob hid hb=>?_⟩,rfl⟩,fun b hb hfar=>⟨rfl,fun id hid e=>?_⟩,fun id t cs hid=>?_,fun id t cs hid=>?_,fun id t n cs hid=>?_,fun id t k' ver xs hid=>?_,fun id t k' ver hw hid=>?_⟩
 ·rw [Gs] at hid
  by_cases e:i=id
  ·subst e; simp [Q5] at hb
  ·rw [if_neg e] at hid; simp only [Q5,if_neg (Ne.symm e)] at hb; exact hs.kept id ob hid hb
 ·rw [Gs] at hid
  by_cases e':i=id
  ·subst e'; simp [Q5] at e
  ·rw [if_neg e'] at hid; simp only [Q5,if_neg (Ne.symm e')] at e; exact hfar id hid e
 all_goals
  have e:=hne id (by rw [hid]; rfl)
 ·exact⟨by simp [Q5,Ne.symm e],cs,by rw [Gs,if_neg e]; exact hid⟩
 ·exact⟨by simp [Q5,Ne.symm e],cs,by rw [Gs,if_neg e]; exact hid⟩
 ·exact⟨by simp [Q5,Ne.symm e],n,cs,by rw [Gs,if_neg e]; exact hid⟩
 ·exact⟨ver,xs,by rw [Gs,if_neg e]; exact hid,Nat.le_refl _,fun _=>⟨rfl,by simp [Q5,Ne.symm e],fun _ _=>rfl⟩⟩
 ·exact⟨ver,hw,by rw [Gs,if_neg e]; exact hid,Nat.le_refl _,fun _=>⟨rfl,by simp [Q5,Ne.symm e],fun _ _=>rfl⟩⟩
theorem J66 {w:World} {β:H7} {L:Loc} {i:Nat} (E k:Nat) (hsat:Sat w β L) (hi:lk L i=none):Sat w (Q5 β i none) ((i,.spare E k 0 0)::L):=by
 refine⟨hsat.hid,fun id b hid hb=>?_,fun id b j hid hb=>?_,fun id id' b h1 h2 h3 h4=>?_,fun id ob hid=>?_⟩
 ·rw [Gs] at hid
  by_cases e:i=id
  ·subst e; simp [Q5] at hb
  ·rw [if_neg e] at hid; simp only [Q5,if_neg (Ne.symm e)] at hb; exact hsat.bnd id b hid hb
 ·rw [Gs] at hid
  by_cases e:i=id
  ·subst e; simp [Q5] at hb
  ·rw [if_neg e] at hid; simp only [Q5,if_neg (Ne.symm e)] at hb; exact hsat.apart id b j hid hb
 ·by_cases e:i=id
  ·subst e; simp [Q5] at h3
  ·by_cases e':i=id'
   ·subst e'; simp [Q5] at h4
   ·rw [Gs,if_neg e] at h1
    rw [Gs,if_neg e'] at h2
    simp only [Q5,if_neg (Ne.symm e)] at h3
    simp only [Q5,if_neg (Ne.symm e')] at h4
    exact hsat.inj id id' b h1 h2 h3 h4
 ·rw [Gs] at hid
  by_cases e:i=id
  ·subst e; simp at hid; subst hid; exact .inl ⟨by simp [Q5],rfl⟩
  ·rw [if_neg e] at hid
   simp only [Q5,if_neg (Ne.symm e)]
   exact(hsat.obj id ob hid).step (H25 E k hi) (fun b hb=>rfl)
theorem nil_own {w:World} {β:H7} {L:Loc} {i:Nat} (E k:Nat):V w (Q5 β i none) ((i,.spare E k 0 0)::L) (.own i 0 k []) (.slice none 0 0):=
 .own (.nil (Nat.zero_le _)) ⟨E,0,0,by rw [Gs,if_pos rfl],Nat.le_refl _,fun _=>⟨rfl,by simp [Value.ownBlock,Q5],[],⟨by simp,.inl ⟨rfl,rfl⟩⟩,fun j u hu=>by simp [flat] at hu⟩⟩

theorem Y6.redescribeB {N:G4f} {w0 w:World} {β0 β:H7} {L0 L:Loc} {a:Act} {l:Fr} (hs:Y6 N w0 β0 L0 a w β l L) {i:Nat} {t:TypeId} {cs cs':List AV} (hi:lk L i=some (.box t cs)) (hl:cs.length=cs'.length)
  (h:∀ (vs:Array Value) (j:Nat) u v,(∃ b,β i=some b∧w.heap[b]? = some (.cells vs t (0,0)))→(∀ (j:Nat) u v,cs[j]? = some u→vs[j]? = some v→V w β L u v)→vs.size=cs.length→cs'[j]? = some u→vs[j]? = some v→V w β L u v):Y6 N w0 β0 L0 a w β l ((i,.box t cs')::L):=by
 obtain⟨b,hb,vs,hv1,hv2,hv3⟩:=hs.sat.obj i _ hi
 have hsome:∀ id,(lk ((i,Jn.box t cs')::L) id).isSome=(lk L id).isSome:=fun id=>by
  rw [Gs]; split
  ·rename_i e; subst e; rw [hi]; rfl
  ·rfl
 have hstab:∀ b j,Q6 w β L b j→Q6 w β ((i,.box t cs')::L) b j:=fun b j hst=>⟨hst.lt,hst.seen,fun id o ho hb=>by
  rw [Gs] at ho
  split at ho
  ·rename_i e; subst e; cases ho; exact(hst.kept i _ hi hb).elim
  ·exact hst.kept id o ho hb⟩
 have st:Step w β L w β ((i,.box t cs')::L):=by
  refine⟨rfl,rfl,⟨rfl,Nat.le_refl _⟩,Nat.le_refl _,fun _ _ _=>Iff.rfl,fun b j h=>⟨hstab b j h,rfl⟩,fun b hb hf=>⟨rfl,fun id hid e=>hf id (by rw [← hsome id]; exact hid) e⟩,fun id t2 cs2 hid=>?_,fun id t2 cs2 hid=>?_,fun id m n es hid=>?_,fun id t2 k2 ver xs hid=>?_,fun id t2 k2 ver hw hid=>?_⟩
  ·refine⟨rfl,?_⟩
   rw [Gs]; split
   ·rename_i e; subst e; rw [hi] at hid; cases hid; exact⟨_,rfl⟩
   ·exact⟨_,hid⟩
  ·refine⟨rfl,cs2,?_⟩
   rw [Gs,if_neg (fun e=>by subst e; rw [hi] at hid; cases hid)]; exact hid
  ·refine⟨rfl,n,es,?_⟩
   rw [Gs,if_neg (fun e=>by subst e; rw [hi] at hid; cases hid)]; exact hid
  ·refine⟨ver,xs,?_,Nat.le_refl _,fun _=>⟨rfl,rfl,fun _ _=>rfl⟩⟩
   rw [Gs,if_neg (fun e=>by subst e; rw [hi] at hid; cases hid)]; exact hid
  ·refine⟨ver,hw,?_,Nat.le_refl _,fun _=>⟨rfl,rfl,fun _ _=>rfl⟩⟩
   rw [Gs,if_neg (fun e=>by subst e; rw [hi] at hid; cases hid)]; exact hid
 refine⟨⟨hs.sat.hid,fun id b h1 h2=>hs.sat.bnd id b (by rw [← hsome id]; exact h1) h2,fun id b j h1 h2=>hs.sat.apart id b j (by rw [← hsome id]; exact h1) h2,fun id id' b h1 h2 h3 h4=>hs.sat.inj id id' b (by rw [← hsome id]; exact h1) (by rw [← hsome id']; exact h2) h3 h4,fun id o ho=>?_⟩,hs.step.trans st,hs.frame.step st,hs.size,hs.base,hs.defers.step st⟩
 rw [Gs] at ho
 split at ho
 ·rename_i e; subst e; cases ho
  exact⟨b,hb,vs,hv1,by omega,fun j u v hu hv=>(h vs j u v ⟨b,hb,hv1⟩ hv3 hv2 hu hv).step st⟩
 ·exact(hs.sat.obj id o ho).step st (fun b hb=>rfl)

theorem Y6.redescribe {N:G4f} {w0 w:World} {β0 β:H7} {L0 L:Loc} {a:Act} {l:Fr} (hs:Y6 N w0 β0 L0 a w β l L) {i:Nat} {t:TypeId} {cs cs':List AV} (hi:lk L i=some (.box t cs)) (hl:cs.length=cs'.length)
  (h:∀ (vs:Array Value) (j:Nat) u v,(∀ (j:Nat) u v,cs[j]? = some u→vs[j]? = some v→V w β L u v)→vs.size=cs.length→cs'[j]? = some u→vs[j]? = some v→V w β L u v):Y6 N w0 β0 L0 a w β l ((i,.box t cs')::L):=
 hs.redescribeB hi hl (fun vs j u v _=>h vs j u v)

theorem Y6.ownCell {N:G4f} {w0 w:World} {β0 β:H7} {L0 L:Loc} {a:Act} {l:Fr} (hs:Y6 N w0 β0 L0 a w β l L) (i j id E k:Nat) {t:TypeId} {cs cs':List AV} (hi:lk L i=some (.box t cs)) (hid:lk L id=none) (hj:cs[j]? = some (.sc (.slice none 0 0)))
  (hcs:cs.set j (.own id 0 k [])=cs'):∃ β',Y6 N w0 β0 L0 a w β' l ((i,.box t cs')::(id,.spare E k 0 0)::L):=by
 have st:=H25 (w:=w) (β:=β) E k hid
 have h1:Y6 N w0 β0 L0 a w (Q5 β id none) l ((id,.spare E k 0 0)::L):=⟨J66 E k hs.sat hid,hs.step.trans st,hs.frame.step st,hs.size,hs.base,hs.defers.step st⟩
 have hne:id≠i:=fun e=>by subst e; rw [hi] at hid; cases hid
 refine⟨_,h1.redescribe (i:=i) (t:=t) (cs:=cs) (by rw [Gs,if_neg hne]; exact hi) (by rw [← hcs]; simp) fun vs q u v hall hsz hu hv=>?_⟩
 rw [← hcs] at hu
 by_cases e:j=q
 ·subst e
  have hjl:j < cs.length:=(List.getElem?_eq_some_iff.1 hj).1
  simp [List.getElem?_set,hjl] at hu
  subst hu
  have:=hall j _ v hj hv
  rw [this.inv_sc]
  exact nil_own E k
 ·rw [List.getElem?_set_ne e] at hu
  exact hall q u v hu hv
theorem Q1a {P:Program} {N:G4f} {ops:Array Oper} {rest:List Oper} {Q:Post} {l:Fr} {L:Loc} (i j id E k:Nat) {t:TypeId} {cs cs':List AV} (hi:lk L i=some (.box t cs)) (hid:lk L id=none) (hj:cs[j]? = some (.sc (.slice none 0 0)))
  (hcs:cs.set j (.own id 0 k [])=cs') (hk:JL P N ops rest Q l ((i,.box t cs')::(id,.spare E k 0 0)::L)):JL P N ops rest Q l L:=
 fun n w0 β0 L0 a w β hs=>by
  obtain⟨β',h⟩:=hs.ownCell i j id E k hi hid hj hcs
  exact hk n w0 β0 L0 a w β' h

/-! ### Zero values whose slices are seen as empty lists -/
def ZOk:List AV→List Value→Prop
 | [],[]=>True
 | u::r,v::s=>(u=.sc v∨∃ k,u=.list k []∧v=.slice none 0 0)∧ZOk r s
 | _,_=>False
theorem ZOk.length:∀ {us:List AV} {vs:List Value},ZOk us vs→us.length=vs.length
 | [],[],_=>rfl
 | _::_,_::_,h=>by simp [ZOk.length h.2]
 | [],_::_,h=>h.elim
 | _::_,[],h=>h.elim
theorem ZOk.get {w:World} {β:H7} {L:Loc}:∀ {us:List AV} {vs:List Value},ZOk us vs→∀ (j:Nat) u v,us[j]? = some u→vs[j]? = some v→V w β L u v
 | u::r,v::s,h,0,x,y,hx,hy=>by
  simp at hx hy; subst hx; subst hy
  rcases h.1 with h | ⟨k,h1,h2⟩
  ·subst h; exact .sc
  ·subst h1; subst h2; exact .data (.nil (Nat.zero_le _))
 | u::r,v::s,h,j+1,x,y,hx,hy=>by simp at hx hy; exact ZOk.get h.2 j x y hx hy
 | [],[],_,j,_,_,hx,_=>by simp at hx
 | [],_::_,h,_,_,_,_,_=>h.elim
 | _::_,[],h,_,_,_,_,_=>h.elim
section
variable {P:Program} {o:Oper} {l:Fr} {L:Loc}
theorem G1d (i:Nat) {T:Nat} (us:List AV) (zs:List Value) (hz:(P.info? T).bind (fun i=>i.zero.map Value.cells)=some zs.toArray) (hu:ZOk us zs) (ho:o.op=.alloc T) (hi:lk L i=none) :
  H4 P o l L (Is (.ptr i 0) ((i,.box T us)::L)):=by
 intro a w β K Q hsat hf hK
 cases h1:P.info? T with
 | none=>rw [h1] at hz; simp at hz
 | some inf=>
  rw [h1] at hz
  cases h2:inf.zero with
  | none=>simp [h2] at hz
  | some z=>
   simp only [Option.bind_some,h2,Option.map_some,Option.some.injEq] at hz
   unfold Oper.wp
   have hr:(execOp a.eval o).run P w=.ok (.value (.pointer (some ⟨w.heap.size,0,none⟩))) (w.alloc (.cells z.cells T)):=by
    simp [execOp,ho,Instr.alloc,zeroValue,typeInfo,h1,h2,newVar,newRow]
   rw [hr]
   refine hK _ _ _ _ (Q5 β i (some w.heap.size)) ⟨rfl,rfl⟩ (hsat.alloc hi _ (fun hs=>⟨_,rfl,z.cells,heap_alloc_new w _,by simp [hz,hu.length],fun j u v hj hv=>?_⟩)) (Step.alloc hi hsat.bnd _) (.ptr (t:=T) (cs:=us) (by simp [Gs]) (by simp [Q5]))
   rw [hz] at hv
   exact hu.get j u v hj (by simpa using hv)
theorem Jj {T:TypeId} {parts:List (Nat×Operand)} {cs:List AV} (pl:List (Nat×Nat)) (us:List AV) (zs:List Value) (hpl:placesOf P T=some pl) (hz:(P.info? T).bind (fun i=>i.zero.map Value.cells)=some zs.toArray) (hu:ZOk us zs) (ho:o.op=.build T parts.toArray) (hfill:H69 (fun i=>pl[i]?) us (parts.map fun p=>(p.1,ev l p.2))=some cs):H4 P o l L (Is (.agg cs) L):=
 Hq fun a w β _ hf=>by
  cases h1:P.info? T with
  | none=>rw [h1] at hz; simp at hz
  | some inf=>
   rw [h1] at hz
   cases h2:inf.zero with
   | none=>simp [h2] at hz
   | some z=>
    simp only [Option.bind_some,h2,Option.map_some,Option.some.injEq] at hz
    unfold placesOf at hpl
    split at hpl
    ·rename_i fs hfs
     have hrp:=run_places (P:=P) (w:=w) fs.toList pl hpl
     obtain⟨vs',e1,e2,e3⟩:=H5a (w:=w) (β:=β) (L:=L) (qs:=parts.map fun p=>(p.1,a.eval p.2)) (vs:=zs.toArray) hfill (by simp) (fun j p q hp hq=>by
      simp only [List.getElem?_map,Option.map_eq_some_iff] at hp hq
      obtain⟨x,hx,rfl⟩:=hp
      obtain⟨y,hy,rfl⟩:=hq
      rw [hx] at hy; cases hy
      exact⟨rfl,hf.ev _⟩) (by simp [hu.length]) (fun j u v hj hv=>hu.get j u v hj (by simpa using hv))
     refine⟨.agg vs',?_,.agg e2 e3⟩
     have hm:(fs.mapM (fun f=>Prod.mk f.offset <$> sizeOf f.type:Field→Sem (Nat×Nat))).run P w=.ok pl.toArray w:=by
      rw [← Array.toArray_toList (xs:=fs),List.mapM_toArray]
      simp only [Sem.run_map,hrp,Result.andThen_ok]
     simp [execOp,ho,Instr.build,zeroValue,typeInfo,h1,h2,underlying,hfs,hm,hz,e1]
    ·cases hpl
end
/-! ### A result that lies in a variable -/
theorem J9d {P:Program} {T k b:Nat} {vs:Array Value} {t:TypeId} {w:World} (hT:Gd8 P T k=true) (hv:w.heap[b]? = some (.cells vs t (0,0))) (hk:vs.size=k) :
  (loadVar T ⟨b,0,none⟩).run P w=.ok (.agg vs) w:=by
 have h1:=Gca (P:=P) (T:=T) (k:=k) (b:=b) (o':=0) (vs:=vs.toList) hT (by simpa using hk) (w:=w) (fun j v h=>by
  simp at h
  simp [World.cell?,hv,h])
 simpa [Instr.loadAt,Instr.sureAddr,asAddr] using h1
end Go.Proofs.YthcpolfodgjekaaGreat
