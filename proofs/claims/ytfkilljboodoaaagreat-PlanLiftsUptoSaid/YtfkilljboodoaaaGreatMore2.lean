/-
 More steps: cells of boxes that hold slices which the call may write in place.
-/
import Derived.Test.YtfkilljboodoaaaGreatRangeF
namespace Go.Proofs.YtfkilljboodoaaaGreat
open Go.RowKit

theorem G06.vecCell {N:G41} {w0 w:World} {β0 β:H8} {L0 L:Loc} {a:Act} {l:Fr} (hs:G06 N w0 β0 L0 a w β l L) (i j id E k:Nat) {t:TypeId} {cs cs':List AV} (hi:lk L i=some (.box t cs)) (hid:lk L id=none) (hj:cs[j]? = some (.sc (.slice none 0 0)))
  (hcs:cs.set j (.vec id 0 k 0)=cs'):∃ β',G06 N w0 β0 L0 a w β' l ((i,.box t cs')::(id,.vec E k 0 [])::L):=by
 obtain⟨st,sat⟩:=G1e (w':=w) (t:=E) (k:=k) (ver1:=0) (xs':=[]) (ob':=none) hs.sat (.inl hid) rfl rfl ⟨rfl,Nat.le_refl _⟩ (Nat.le_refl _) (fun _ _ _=>rfl) (.inl rfl)
 have h1:G06 N w0 β0 L0 a w (Qe β id none) l ((id,.vec E k 0 [])::L):=⟨sat ⟨by simp,.inl ⟨rfl,rfl⟩⟩,hs.step.trans st,hs.frame.step st,hs.size,hs.base,hs.defers.step st⟩
 have hne:id≠i:=fun e=>by subst e; rw [hi] at hid; cases hid
 refine⟨_,h1.redescribe (i:=i) (t:=t) (cs:=cs) (by rw [Gm,if_neg hne]; exact hi) (by rw [← hcs]; simp) fun vs q u v hall hsz hu hv=>?_⟩
 rw [← hcs] at hu
 by_cases e:j=q
 ·subst e
  have hjl:j < cs.length:=(List.getElem?_eq_some_iff.1 hj).1
  simp [List.getElem?_set,hjl] at hu
  subst hu
  have:=hall j _ v hj hv
  rw [this.inv_sc]
  exact .vec ⟨E,0,[],(by rw [Gm,if_pos rfl]:lk ((id,Je.vec E k 0 [])::L) id=_),Nat.le_refl _,fun _=>⟨rfl,.inl ⟨rfl,rfl,by rw [show (Qe β id none).at_ id=none by simp [Qe]]⟩⟩⟩ rfl
 ·rw [List.getElem?_set_ne e] at hu
  exact hall q u v hu hv
theorem J92 {P:Program} {N:G41} {ops:Array Oper} {rest:List Oper} {Q:Post} {l:Fr} {L:Loc} (i j id E k:Nat) {t:TypeId} {cs cs':List AV} (hi:lk L i=some (.box t cs)) (hid:lk L id=none) (hj:cs[j]? = some (.sc (.slice none 0 0)))
  (hcs:cs.set j (.vec id 0 k 0)=cs') (hk:JL P N ops rest Q l ((i,.box t cs')::(id,.vec E k 0 [])::L)):JL P N ops rest Q l L:=
 fun n w0 β0 L0 a w β hs=>by
  obtain⟨β',h⟩:=hs.vecCell i j id E k hi hid hj hcs
  exact hk n w0 β0 L0 a w β' h

theorem A_store0 {P:Program} {o:Oper} {l:Fr} {L:Loc} {u:AV} {x y:Operand} {T i:Nat} {t:TypeId} (hT:Rv P T 0=true) (ho:o.op=.store T x y) (hu:ev l y=u) (hx:ev l x=.ptr i 0) (hi:lk L i=some (.box t []))
  (hc:u.flatOk=true) (hk:u.cells=[]):H4 P o l L (Is .junk ((i,.box t [])::L)):=by
 subst hu
 intro a w β K Q hsat hf hK
 have h1:=hf.ev x
 rw [hx] at h1
 obtain⟨b,hb,hax⟩:=h1.inv_ptr
 obtain⟨old,ho1,ho2,ho3⟩:=H8a hsat hi hb
 obtain⟨c1,c2,c3⟩:=(hf.ev y).cells hc
 rw [hk] at c1
 have hr:=H18 (P:=P) (off:=0) hT c1 c3 ho1 (by omega)
 unfold Oper.wp
 have hr':(execOp a.eval o).run P w=.ok .skip (w.setRow b (old.toList.take 0++(a.eval y).cells.toList++old.toList.drop (0+0)).toArray):=by
  simp [execOp,ho,hax,hr]
 rw [hr']
 have ho2':old.size=0:=by simpa using ho2
 have hcz:(a.eval y).cells.size=0:=by simpa using c1
 refine hK _ _ _ _ β ⟨rfl,rfl⟩ (hsat.set hi hb ho1 _ ?_ ?_) (Step.set hsat hi hb _) .junk
 ·simp [hcz,ho2']
 ·intro j u v hu hv
  simp at hu

theorem Ym.fresh0 {P:Program} {f:FuncId} {args:List AV} {i E k n:Nat} {xs:List AV} (h:Ym P f args [] (fun av L'=>∃ p,av=.vec i p k n∧L'=[(i,.vec E k p xs)])):Ym P f args [] (fun av L'=>av=.vec i 0 k n∧L'=[(i,.vec E k 0 xs)]):=by
 intro w β vs hsat hl hv
 refine(h w β vs hsat hl hv).mono fun e w' hh=>?_
 obtain⟨v,r,β',L',rfl,hs,st,hvr,p,rfl,rfl⟩:=hh
 have some1:∀ id,(lk [(i,Je.vec E k 0 xs)] id).isSome=true→(lk [(i,Je.vec E k p xs)] id).isSome=true:=fun id h=>by
  rw [Gm] at h ⊢
  split at h
  ·rename_i e; subst e; simp
  ·simp [lk] at h
 have stab:∀ b j,Jw w' β' [(i,Je.vec E k p xs)] b j→Jw w' β' [(i,Je.vec E k 0 xs)] b j:=fun b j hs=>⟨hs.lt,hs.seen,fun id o ho hb=>by
  rw [Gm] at ho
  split at ho
  ·rename_i e; subst e; cases ho
   exact hs.kept i (.vec E k p xs) (by rw [Gm,if_pos rfl]) hb
  ·simp [lk] at ho⟩
 refine⟨v,_,β',_,rfl,⟨hs.hid,fun id b h1 h2=>hs.bnd id b (some1 id h1) h2,fun id b j h1 h2=>hs.apart id b j (some1 id h1) h2,fun id id' b h1 h2=>hs.inj id id' b (some1 id h1) (some1 id' h2),fun id o ho=>?_⟩,
  ⟨st.os,st.tape,st.output,st.size,st.hid,fun b j hb=>⟨stab b j (st.stab b j hb).1,(st.stab b j hb).2⟩,fun b hb hf=>⟨(st.far b hb hf).1,fun id h1=>(st.far b hb hf).2 id (some1 id h1)⟩,fun id t cs h=>by simp [lk] at h,fun id t cs h=>by simp [lk] at h,fun id m n es h=>by simp [lk] at h,fun id t k ver xs h=>by simp [lk] at h,fun id t k ver hw h=>by simp [lk] at h⟩,?_,rfl,rfl⟩
 ·rw [Gm] at ho
  split at ho
  ·rename_i e; subst e; cases ho
   have ho:=hs.obj i (.vec E k p xs) (by rw [Gm,if_pos rfl])
   refine⟨ho.1,ho.2.imp _root_.id fun⟨b,h1,vs',h2,h3,h4⟩=>⟨b,h1,vs',h2,h3,fun j u v hu hv'=>(h4 j u v hu hv').mono fun b j hb=>⟨stab b j hb,rfl⟩⟩⟩
  ·simp [lk] at ho
 ·cases hvr with
  | data h=>cases h
  | vec hp h1=>
   obtain⟨t,ver',xs',hk,_,h3⟩:=hp
   rw [Gm,if_pos rfl] at hk
   cases hk
   exact .vec ⟨E,0,xs,by rw [Gm,if_pos rfl],Nat.le_refl _,fun _=>h3 rfl⟩ h1

theorem Ym.lentData {P:Program} {f:FuncId} {args:List AV} {i E k n q:Nat} {xs ys:List AV} (h:Ym P f args [(i,.vec E k q ys)] (fun av L'=>∃ p,av=.vec i p k n∧L'=[(i,.vec E k p xs)])) :
  Ym P f args [(i,.vec E k q ys)] (fun av L'=>av=.list k xs∧L'=[(i,.vec E k (q+1) [])]):=by
 intro w β vs hsat hl hv
 refine(h w β vs hsat hl hv).mono fun e w' hh=>?_
 obtain⟨v,r,β',L',rfl,hs,st,hvr,p,rfl,rfl⟩:=hh
 have hi:lk [(i,Je.vec E k p xs)] i=some (.vec E k p xs):=by rw [Gm,if_pos rfl]
 have hd:V w' β' [] (.list k xs) v:=V.vfreeze hs hi ⟨fun id o h=>by simp [lk] at h⟩ rfl hvr
 have none1:∀ id b,(lk [(i,Je.vec E k (q+1) [])] id).isSome=true→(Qe β' i none) id≠some b:=fun id b h1 h2=>by
  rw [Gm] at h1
  split at h1
  ·rename_i e; subst e; simp [Qe] at h2
  ·simp [lk] at h1
 have stab:∀ b j,b < w'.heap.size→¬ β'.hid b j→Jw w' (Qe β' i none) [(i,Je.vec E k (q+1) [])] b j:=fun b j h1 h2=>⟨h1,h2,fun id o ho hb=>(none1 id b (by rw [ho]; rfl) hb).elim⟩
 refine⟨v,_,Qe β' i none,_,rfl,⟨hs.hid,fun id b h1 h2=>(none1 id b h1 h2).elim,fun id b j h1 h2=>(none1 id b h1 h2).elim,fun id id' b h1 h2 h3=>(none1 id b h1 h3).elim,fun id o ho=>?_⟩,
  ⟨st.os,st.tape,st.output,st.size,st.hid,fun b j hb=>⟨stab b j (st.stab b j hb).1.lt (st.stab b j hb).1.seen,(st.stab b j hb).2⟩,fun b hb hf=>⟨(st.far b hb hf).1,fun id h1=>none1 id b h1⟩,fun id t cs h=>?_,fun id t cs h=>?_,fun id m n es h=>?_,fun id t k' ver xs' h=>?_,fun id t k' ver hw h=>?_⟩,?_,rfl,rfl⟩
 ·rw [Gm] at ho
  split at ho
  ·rename_i e; subst e; cases ho
   exact⟨fun x hx=>by simp at hx,.inl ⟨by simp [Qe],rfl⟩⟩
  ·simp [lk] at ho
 ·rw [Gm] at h; split at h <;> simp [lk] at h
 ·rw [Gm] at h; split at h <;> simp [lk] at h
 ·rw [Gm] at h; split at h <;> simp [lk] at h
 ·rw [Gm] at h
  split at h
  ·rename_i e; subst e; cases h
   exact⟨_,_,by rw [Gm,if_pos rfl],Nat.le_succ _,fun e=>by omega⟩
  ·simp [lk] at h
 ·rw [Gm] at h; split at h <;> simp [lk] at h
 ·exact .data ((hd.toD rfl).mono fun b j hb=>⟨stab b j hb.lt hb.seen,rfl⟩)

def G78 (l:Fr):List Operand→List AV→Prop
 | [],[]=>True
 | x::r,u::s=>((ev l x).plain=u∨∃ k,u=.list k []∧ev l x=.sc (.slice none 0 0))∧u.isData=true∧G78 l r s
 | _,_=>False
theorem G78.length {l:Fr}:∀ {xs:List Operand} {us:List AV},G78 l xs us→xs.length=us.length
 | [],[],_=>rfl
 | _::_,_::_,h=>by simp [G78.length h.2.2]
 | [],_::_,h=>h.elim
 | _::_,[],h=>h.elim
theorem G78.get {l:Fr}:∀ {xs:List Operand} {us:List AV},G78 l xs us→∀ {j:Nat} {x:Operand} {u:AV},xs[j]? = some x→us[j]? = some u→((ev l x).plain=u∨∃ k,u=.list k []∧ev l x=.sc (.slice none 0 0))∧u.isData=true
 | x::r,u::s,h,j,x',u',hx,hu=>by
  cases j with
  | zero=>simp at hx hu; subst hx; subst hu; exact⟨h.1,h.2.1⟩
  | succ j=>simp at hx hu; exact h.2.2.get hx hu
 | [],[],_,j,_,_,hx,_=>by simp at hx
 | [],_::_,h,_,_,_,_,_=>h.elim
 | _::_,[],h,_,_,_,_,_=>h.elim
theorem Ja2 {P:Program} {o:Oper} {l:Fr} {L:Loc} {T E k n:Nat} {parts:List (Nat×Operand)} {xs:List AV} (ho:o.op=.buildSlice T n parts.toArray) (hd:G78 l (parts.map (·.2)) xs) (hT:sliceB P T E k=true) (hz:Rw P E k=true)
  (hix:parts.map (·.1)=List.range n) (hc:H58 k xs=true) (hn:Nat.ble (n*k) 16777216=true) (hk0:Nat.blt 0 k=true):H4 P o l L (Is (.list k xs) L):=by
 intro a w β K Q hsat hf hK
 have hlen:=hd.length
 have hnl:n=xs.length:=by
  have:=congrArg List.length hix
  simp only [List.length_map,List.length_range] at this hlen
  omega
 subst hnl
 have hc':=H1d hc
 have hkc:∀ x∈xs,x.cells.length=k:=fun x hx=>(hc' x hx).1
 have hdata:∀ x∈xs,x.isData=true:=by
  intro x hx
  obtain⟨j,hj,e⟩:=List.mem_iff_getElem.1 hx
  have hj2:j < (parts.map (·.2)).length:=by omega
  exact e ▸ (hd.get (j:=j) (x:=(parts.map (·.2))[j]) (u:=xs[j]) (List.getElem?_eq_getElem hj2) (List.getElem?_eq_getElem hj)).2
 have hfill:=H86 (k:=k) xs 0 (List.replicate (xs.length*k) .junk) (by simp) hc'
 obtain⟨inf,z,hi,hz1,hz2⟩:=Rw.out hz
 let zs:Array Value:=if xs.length*k=0 then #[] else z.cells
 obtain⟨vs',e1,e2,e3⟩:=H1c (w:=w) (β:=β) (L:=L) (qs:=parts.map fun p=>(p.1,a.eval p.2)) (vs:=(Array.range (xs.length*k)).map (zs[· % zs.size]!)) hfill (by
   have:=congrArg List.length hix
   simp only [List.length_map,List.length_range] at this
   simp [this]) (fun j p q hp hq=>by
   simp only [List.getElem?_map,Option.map_eq_some_iff] at hq
   obtain⟨y,hy,rfl⟩:=hq
   rw [List.getElem?_zip_eq_some] at hp
   obtain⟨hp1,hp2⟩:=hp
   have hix':(parts.map (·.1))[j]? = (List.range xs.length)[j]? := by rw [hix]
   simp only [List.getElem?_map,hy,Option.map_some] at hix'
   rw [List.range_eq_range',hp1] at hix'
   have:=(hd.get (j:=j) (x:=y.2) (u:=p.2) (by rw [List.getElem?_map,hy]; rfl) hp2)
   refine⟨(Option.some.inj hix').symm,?_⟩
   rcases this.1 with h1 | ⟨k0,h1,h2⟩
   ·have hv:=(hf.ev y.2).plain
    rw [h1] at hv
    exact hv
   ·have hv:=hf.ev y.2
    rw [h2] at hv
    rw [h1,hv.inv_sc]
    exact .data (.nil (Nat.zero_le _))) (by simp) (fun j u v hu _=>by
   have:=List.eq_of_mem_replicate (List.mem_of_getElem? hu)
   subst this; exact .junk)
 have hflat:(List.take (0*k) (List.replicate (xs.length*k) AV.junk))++flat xs=flat xs:=by simp
 rw [hflat] at e2 e3
 have hr:(execOp a.eval o).run P w=.ok (.value (.slice (some ⟨w.heap.size,0,none⟩) xs.length xs.length)) (w.alloc (.cells vs' E)):=by
  have hsz:=Qj (sliceB.out hT).2 w
  have hle0:xs.length*k≤16777216:=by simpa using hn
  have hle:¬ (xs.length*k > 2 ^ 24):=by
   have:(2:Nat) ^ 24=16777216:=by decide
   omega
  have hp:(parts.toArray.map fun(x:Nat×Operand)=>(x.1,a.eval x.2)).toList=parts.map fun p=>(p.1,a.eval p.2):=by simp
  by_cases h0:xs.length*k=0
  ·have hzs:zs=#[]:=by simp only [zs,if_pos h0]
   rw [hzs] at e1
   simp only [execOp,ho,Instr.buildSlice,underlying,(sliceB.out hT).1,run_program,Sem.run_bind,Result.andThen_ok,hsz,hle,if_false,Sem.run_pure,if_pos h0,hp,e1,newRow,run_newObj]
   rfl
  ·have hzs:zs=z.cells:=by simp only [zs,if_neg h0]
   rw [hzs] at e1
   simp only [execOp,ho,Instr.buildSlice,underlying,(sliceB.out hT).1,run_program,Sem.run_bind,Result.andThen_ok,hsz,hle,if_false,Sem.run_pure,if_neg h0,zeroValue,typeInfo,hi,hz1,hp,e1,newRow,run_newObj]
   rfl
 unfold Oper.wp
 rw [hr]
 exact hK _ _ _ _ β ⟨rfl,rfl⟩ (hsat.new _) (Step.new hsat _) (.data (D.newRow hsat hkc (by
  have h1:xs.length*k≤16777216:=by simpa using hn
  have h2:0 < k:=by simpa [Nat.blt_eq] using hk0
  have:xs.length*1≤xs.length*k:=Nat.mul_le_mul_left _ h2
  simp only [maxLen]; omega) e2 (fun j u v hu hv=>(e3 j u v hu hv).toD (H9f hdata u (List.mem_of_getElem? hu)))))

/-! ### A variable of a map's type is set anew: the new map takes the old one's name -/
theorem G84.conv {w:World} {β:H8} {L L':Loc} {ob:Option Nat} {o o':Je} (hd:Hcd L L') (hc:G89 (fun i=>(lk L' i).isSome) o o') (h0:G84 w β L ob o):G84 w β L' ob o':=by
 cases hc with
 | same=>exact h0
 | map=>
  obtain⟨b,h1,ents,h2,h3,h4⟩:=h0
  exact⟨b,h1,ents,h2,h3,fun i e k u he hu=>⟨(h4 i e k u he hu).1,(h4 i e k u he hu).2.1.mono fun b i hs=>⟨hd.stab hs,rfl⟩,(h4 i e k u he hu).2.2⟩⟩
 | vec=>
  obtain⟨h00,h0⟩:=h0
  refine⟨h00,?_⟩
  rcases h0 with h0 | ⟨b,h1,vs,h2,h3,h4⟩
  ·exact .inl h0
  ·exact .inr ⟨b,h1,vs,h2,h3,fun j u v hu hv=>(h4 j u v hu hv).mono fun b i hs=>⟨hd.stab hs,rfl⟩⟩
 | iter hm=>
  obtain⟨b,h1,bm,t,es,h2,h3,h4⟩:=h0
  obtain⟨o',ho'⟩:=Option.isSome_iff_exists.1 hm
  obtain⟨o2,ho2,hl⟩:=hd.like _ o' ho'
  rw [h2] at ho2; cases ho2
  cases o' <;> simp [Je.like] at hl
  subst hl
  exact⟨b,h1,bm,_,_,ho',h3,h4⟩
 | box hl hc=>
  obtain⟨b,h1,vs,h2,h3,h4⟩:=h0
  refine⟨b,h1,vs,h2,h3.trans hl,fun j u' v hu' hv=>?_⟩
  rename_i cs cs'
  have hj:j < cs.length:=by
   rcases Nat.lt_or_ge j cs'.length with h | h
   ·omega
   ·simp [List.getElem?_eq_none h] at hu'
  exact(h4 j cs[j] v (by simp [hj]) hv).conv hd (hc j _ _ (by simp [hj]) hu')

def RenF (i j:Nat) (ok:Nat→Bool) (l:Fr):Fr→Prop
 | []=>True
 | (s,u)::r=>((look l s=.mp j∧u=.mp i)∨(look l s=u∧u.refs ok=true))∧RenF i j ok l r
theorem RenF.get {i j:Nat} {ok:Nat→Bool} {l:Fr}:∀ {l':Fr},RenF i j ok l l'→∀ t,look l' t=.junk∨(look l t=.mp j∧look l' t=.mp i)∨(look l t=look l' t∧(look l' t).refs ok=true)
 | [],_,t=>.inl (by simp [look])
 | (s,u)::r,h,t=>by
  by_cases e:s=t
  ·subst e
   have e1:look ((s,u)::r) s=u:=by simp [look]
   rw [e1]; exact .inr h.1
  ·have hb:Nat.beq s t=false:=by
    cases hb:Nat.beq s t with
    | false=>rfl
    | true=>exact absurd (Nat.eq_of_beq_eq_true hb) e
   have e1:look ((s,u)::r) t=look r t:=by simp [look,hb]
   rw [e1]; exact RenF.get h.2 t

end Go.Proofs.YtfkilljboodoaaaGreat
