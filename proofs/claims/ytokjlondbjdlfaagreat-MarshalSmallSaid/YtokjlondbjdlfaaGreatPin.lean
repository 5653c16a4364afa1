/- Blocks that are the call's own to write and whose places are -/
import Derived.Test.YtokjlondbjdlfaaGreatPsm
import Derived.Laws.CopyRow
namespace Go.Proofs.YtokjlondbjdlfaaGreat
open Go.RowKit
set_option linter.unusedVariables false

abbrev PT (b off:Nat):AV:=.sc (.pointer (some ⟨b,off,none⟩))
abbrev SL (b off n cap:Nat):AV:=.sc (.slice (some ⟨b,off,none⟩) n cap)

section moves
variable {w:World} {β:Gx} {L:Loc} {i t b:Nat} {cs cs':List AV}
theorem H86 (h0:Sat w β L) (hi:lk L i=some (.pin t b cs)):β i=some b∧∃ vs:Array Value,w.heap[b]? = some (.cells vs t (0,0))∧vs.size=cs.length∧∀ (j:Nat) u v,cs[j]? = some u→vs[j]? = some v→D w (J5 w β L) u v:=h0.obj i _ hi

theorem Ha7 {w':World} (h0:Sat w β L) (hi:lk L i=some (.pin t b cs)) (a2:w'.os=w.os) (a3:w'.tape=w.tape) (a0:w'.output=w.output∧w.drawn≤w'.drawn) (h8:w.heap.size≤w'.heap.size)
  (h6:∀ b',b' < w.heap.size→b'≠b→w'.heap[b']? = w.heap[b']?) (vs:Array Value) (a1:w'.heap[b]? = some (.cells vs t (0,0))) (hl:vs.size=cs'.length) (h:∀ (j:Nat) u v,cs'[j]? = some u→vs[j]? = some v→D w (J5 w β L) u v) :
  Step w β L w' β ((i,.pin t b cs')::L)∧Sat w' β ((i,.pin t b cs')::L):=by
 obtain⟨hb,old,a5,a6,a7⟩:=H86 h0 hi
 have h9:∀ id b',(lk L id).isSome=true→β id=some b'→i≠id→w'.heap[b']? = w.heap[b']? := fun id b' h1 h2 h5=>
  h6 b' (h0.bnd id b' h1 h2) (fun e=>h5 (by subst e; exact h0.inj i id b' (by rw [hi]; rfl) h1 hb h2))
 have st:Step w β L w' β ((i,.pin t b cs')::L):=by
  refine⟨a2,a3,a0,h8,fun _ _ _=>Iff.rfl,fun b' j hs=>?_,fun b' a4 hf=>?_,fun id t' cs'' hid=>?_,fun id t' es hid=>?_,fun id t' n es hid=>?_,fun id t' k ver xs hid=>?_,fun id t' k ver hw hid=>?_⟩
  ·have h5:b'≠b:=fun e=>by subst e; exact hs.kept i _ hi hb
   refine⟨⟨Ek hs.lt h8,hs.seen,fun id o hid h7=>?_⟩,J4 (w:=w) (h6 b' hs.lt h5)⟩
   rw [G9] at hid
   by_cases e:i=id
   ·subst e; rw [hb] at h7; exact absurd (Ez h7) (Ne.symm h5)
   ·rw [if_neg e] at hid; exact hs.kept id o hid h7
  ·have h5:b'≠b:=fun e=>by subst e; exact hf i (by rw [hi]; rfl) hb
   refine⟨h6 b' a4 h5,fun id hid=>?_⟩
   rw [G9] at hid
   by_cases e:i=id
   ·subst e; rw [hb]; exact fun e=>h5 (Ez e).symm
   ·rw [if_neg e] at hid; exact hf id hid
  ·exact⟨rfl,cs'',by rw [G9,if_neg (fun e=>by subst e; rw [hi] at hid; cases hid)]; exact hid⟩
  ·exact⟨rfl,es,by rw [G9,if_neg (fun e=>by subst e; rw [hi] at hid; cases hid)]; exact hid⟩
  ·exact⟨rfl,n,es,by rw [G9,if_neg (fun e=>by subst e; rw [hi] at hid; cases hid)]; exact hid⟩
  ·have e:i≠id:=fun e=>by subst e; rw [hi] at hid; cases hid
   exact⟨ver,xs,by rw [G9,if_neg e]; exact hid,Kb,fun _=>⟨rfl,rfl,fun b' h3=>Y6 (h9 id b' (by rw [hid]; rfl) h3 e)⟩⟩
  ·have e:i≠id:=fun e=>by subst e; rw [hi] at hid; cases hid
   exact⟨ver,hw,by rw [G9,if_neg e]; exact hid,Kb,fun _=>⟨rfl,rfl,fun b' h3=>h9 id b' (by rw [hid]; rfl) h3 e⟩⟩
 have h4:∀ id,(lk ((i,J3.pin t b cs')::L) id).isSome=true→(lk L id).isSome=true:=fun id h=>by
  rw [G9] at h
  by_cases e:i=id
  ·subst e; rw [hi]; rfl
  ·rwa [if_neg e] at h
 refine⟨st,fun b i h=>Ek (h0.hid b i h) h8,fun id b' hid h3=>Ek (h0.bnd id b' (h4 id hid) h3) h8,fun id b' j hid h3=>h0.apart id b' j (h4 id hid) h3,fun id id' b' h1 h2=>h0.inj id id' b' (h4 id h1) (h4 id' h2),fun id ob hid=>?_⟩
 rw [G9] at hid
 by_cases e:i=id
 ·subst e
  simp at hid; subst hid
  exact⟨hb,vs,a1,hl,fun j u v hu hv=>(h j u v hu hv).mono st.stab⟩
 ·rw [if_neg e] at hid
  exact(h0.obj id ob hid).step st (fun b' h3=>h9 id b' (by rw [hid]; rfl) h3 e)
theorem R24 {w':World} (h5:Sat w β L) (hi:lk L i=none) (a3:w'.os=w.os) (a4:w'.tape=w.tape) (a2:w'.output=w.output∧w.drawn≤w'.drawn) (vs:Array Value) (hh:w'.heap=w.heap.push (.cells vs t (0,0))) (hl:vs.size=cs.length)
  (h:∀ (j:Nat) u v,cs[j]? = some u→vs[j]? = some v→D w (J5 w β L) u v) :
  Step w β L w' (upP β i (some w.heap.size)) ((i,.pin t w.heap.size cs)::L)∧Sat w' (upP β i (some w.heap.size)) ((i,.pin t w.heap.size cs)::L):=by
 have ne:∀ {id},(lk L id).isSome=true→i≠id:=fun {id} h e=>by subst e; rw [hi] at h; cases h
 have h9:∀ b',b' < w.heap.size→w'.heap[b']? = w.heap[b']? := fun b' h0=>by rw [hh,Array.getElem?_push,if_neg (by omega)]
 have a0:w.heap.size≤w'.heap.size:=by rw [hh,Array.size_push]; omega
 have h6:∀ {id},i≠id→(upP β i (some w.heap.size)).at_ id=β.at_ id:=fun e=>by simp [upP,Ne.symm e]
 have h7:(upP β i (some w.heap.size)).at_ i=some w.heap.size:=by simp [upP]
 have st:Step w β L w' (upP β i (some w.heap.size)) ((i,.pin t w.heap.size cs)::L):=by
  refine⟨a3,a4,a2,a0,fun _ _ _=>Iff.rfl,fun b' j hs=>⟨⟨Ek hs.lt a0,hs.seen,fun id o hid h8=>?_⟩,J4 (w:=w) (h9 b' hs.lt)⟩,fun b' h0 hf=>⟨h9 b' h0,fun id hid e=>?_⟩,fun id t' cs'' hid=>?_,fun id t' es hid=>?_,fun id t' n es hid=>?_,fun id t' k ver xs hid=>?_,fun id t' k ver hw hid=>?_⟩
  ·rw [G9] at hid
   by_cases e:i=id
   ·subst e; rw [show (upP β i (some w.heap.size)) i=some w.heap.size from h7] at h8; have:=hs.lt; cases h8; omega
   ·rw [if_neg e] at hid; rw [show (upP β i (some w.heap.size)) id=β id from h6 e] at h8; exact hs.kept id o hid h8
  ·rw [G9] at hid
   by_cases e':i=id
   ·subst e'; rw [show (upP β i (some w.heap.size)) i=some w.heap.size from h7] at e; cases e; omega
   ·rw [if_neg e'] at hid; rw [show (upP β i (some w.heap.size)) id=β id from h6 e'] at e; exact hf id hid e
  ·have e:=ne (id:=id) (by rw [hid]; rfl); exact⟨h6 e,cs'',by rw [G9,if_neg e]; exact hid⟩
  ·have e:=ne (id:=id) (by rw [hid]; rfl); exact⟨h6 e,es,by rw [G9,if_neg e]; exact hid⟩
  ·have e:=ne (id:=id) (by rw [hid]; rfl); exact⟨h6 e,n,es,by rw [G9,if_neg e]; exact hid⟩
  ·have e:=ne (id:=id) (by rw [hid]; rfl)
   exact⟨ver,xs,by rw [G9,if_neg e]; exact hid,Kb,fun _=>⟨rfl,h6 e,fun b' h0=>Y6 (h9 b' (h5.bnd id b' (by rw [hid]; rfl) h0))⟩⟩
  ·have e:=ne (id:=id) (by rw [hid]; rfl)
   exact⟨ver,hw,by rw [G9,if_neg e]; exact hid,Kb,fun _=>⟨rfl,h6 e,fun b' h0=>h9 b' (h5.bnd id b' (by rw [hid]; rfl) h0)⟩⟩
 refine⟨st,fun b i h=>Ek (h5.hid b i h) a0,fun id b' hid h0=>?_,fun id b' j hid h0 a1=>?_,fun id id' b' h1 h2 h3 h4=>?_,fun id o hid=>?_⟩
 ·rw [G9] at hid
  by_cases e:i=id
  ·subst e; rw [show (upP β i (some w.heap.size)) i=some w.heap.size from h7] at h0; cases h0; rw [hh,Array.size_push]; omega
  ·rw [if_neg e] at hid; rw [show (upP β i (some w.heap.size)) id=β id from h6 e] at h0; exact Ek (h5.bnd id b' hid h0) a0
 ·rw [G9] at hid
  by_cases e:i=id
  ·subst e; rw [show (upP β i (some w.heap.size)) i=some w.heap.size from h7] at h0; cases h0; have:=h5.hid _ _ a1; omega
  ·rw [if_neg e] at hid; rw [show (upP β i (some w.heap.size)) id=β id from h6 e] at h0; exact h5.apart id b' j hid h0 a1
 ·rw [G9] at h1 h2
  by_cases e:i=id
  ·by_cases e':i=id'
   ·rw [← e,e']
   ·subst e
    rw [if_neg e'] at h2
    rw [show (upP β i (some w.heap.size)) i=some w.heap.size from h7] at h3; cases h3
    rw [show (upP β i (some w.heap.size)) id'=β id' from h6 e'] at h4
    have:=h5.bnd id' _ h2 h4; omega
  ·rw [if_neg e] at h1
   rw [show (upP β i (some w.heap.size)) id=β id from h6 e] at h3
   by_cases e':i=id'
   ·subst e'
    rw [show (upP β i (some w.heap.size)) i=some w.heap.size from h7] at h4; cases h4
    have:=h5.bnd id _ h1 h3; omega
   ·rw [if_neg e'] at h2
    rw [show (upP β i (some w.heap.size)) id'=β id' from h6 e'] at h4
    exact h5.inj id id' b' h1 h2 h3 h4
 ·rw [G9] at hid
  by_cases e:i=id
  ·subst e
   simp at hid; subst hid
   refine⟨h7,vs,by rw [hh]; simp,hl,fun j u v hu hv=>(h j u v hu hv).mono st.stab⟩
  ·rw [if_neg e] at hid
   rw [show (upP β i (some w.heap.size)) id=β id from h6 e]
   exact(h5.obj id o hid).step st (fun b' h0=>h9 b' (h5.bnd id b' (by rw [hid]; rfl) h0))
end moves

theorem Jc1 {P:Program} {T E k:Nat} (hT:sliceB P T E k=true) (a:Option Addr) (len cap m n x:Nat) (k1 k2 k3:IntKind) (w:World) (h0:m≤n) (hn:n≤x) (hx:x≤cap) :
  (Instr.sliceAt T (.slice a len cap) (some (.int k1 m)) (some (.int k2 n)) (some (.int k3 x))).run P w=.ok (.slice (if x=m then a else a.map (·.add (m*k))) (n - m) (x - m)) w:=by
 obtain⟨h1,h2⟩:=sliceB.out hT
 have h3:=Ja h2 w
 have hb:∀ (kd:IntKind) (i:Nat) (y:Nat) (c:BoundsCode),i≤y→(Instr.sliceBound (.int kd (i:Int)) y c).run P w=.ok i w:=fun kd i y c hi=>by
  have:(0:Int)≤i∧(i:Int)≤y:=⟨by omega,by omega⟩
  simp [Instr.sliceBound,asIntOf,this]
 have hs:(Instr.sliceBounds true len cap (some (.int k1 m)) (some (.int k2 n)) (some (.int k3 x))).run P w=.ok (m,n,x) w:=by
  simp [Instr.sliceBounds,hb _ m n _ h0,hb _ n x _ hn,hb _ x cap _ hx]
 simp [Instr.sliceAt,Instr.slice,run_underlying h1,hs,h3]

section ops
variable {P:Program} {N:Cfg} {o:Oper} {l:Fr} {L:Loc} {u:AV}
theorem Ja6 {x:Operand} {T E k':Nat} {a:Option Addr} {n cap:Nat} (ho:o.op=.call { callee:=.builtin .len,args:=#[x],argTypes:=#[T] }) (hT:sliceB P T E k'=true) (hx:ev l x=.sc (.slice a n cap)):Gn P o l L (Is (.sc (.int .i64 n)) L):=
 H2 fun a w β _ hf=>by
  have h:=hf.ev x
  rw [hx] at h
  exact⟨.int .i64 n,by simp [execOp,ho,resolve,invoke,builtin,Builtin.len_,underlying,(sliceB.out hT).1,h.inv_sc,goInt],.sc⟩
theorem R9a {x ix:Operand} {T E k:Nat} {kd:IntKind} {z:Int} {b off n cap m:Nat} (ho:o.op=.indexAddr T x ix) (hx:ev l x=SL b off n cap) (hi:ev l ix=.sc (.int kd z)) (hT:sliceB P T E k=true) (hz:z=(m:Int)) (hm:m < n):Gn P o l L (Is (PT b (off+m*k)) L):=
 H2 fun a w β _ hf=>by
  subst hz
  have h1:=hf.ev x
  rw [hx] at h1
  have h2:=hf.ev ix
  rw [hi] at h2
  have hr:=Ja (sliceB.out hT).2 w
  refine⟨_,?_,.sc⟩
  simp [execOp,ho,Instr.indexAt,h2.inv_sc,h1.inv_sc,asIntOf,underlying,(sliceB.out hT).1,hm,hr,Addr.add_lit]
theorem R46 {x:Operand} {T i t b off:Nat} {cs:List AV} (ho:o.op=.load T x) (hx:ev l x=PT b off) (hT:Qs P T=true) (hi:lk L i=some (.pin t b cs)) (h0:cs[off]? = some u):Gn P o l L (Is u L):=
 H2 fun a w β h3 hf=>by
  have h1:=hf.ev x
  rw [hx] at h1
  obtain⟨hb,vs,g1,g2,g3⟩:=H86 h3 hi
  have h2:off < vs.size:=by
   have:=(Ex h0).1
   omega
  have hv:vs[off]? = some vs[off]:=by simp [h2]
  refine⟨vs[off],?_,.data (g3 off u _ h0 hv)⟩
  have hc:w.cell? ⟨b,off,none⟩=some vs[off]:=by simp [World.cell?,g1,h2]
  simp [execOp,ho,h1.inv_sc,G2d hT hc]
theorem R98 {x p:Operand} {T E k:Nat} {kd:IntKind} {z:Int} {b off n cap m:Nat} (ho:o.op=.slice T x none (some p) none) (hx:ev l x=SL b off n cap) (hp:ev l p=.sc (.int kd z)) (hT:sliceB P T E k=true) (hz:z=(m:Int)) (hm:m≤n) (hn:n≤cap):Gn P o l L (Is (SL b off m cap) L):=
 H2 fun a w β _ hf=>by
  subst hz
  have h1:=hf.ev x
  rw [hx] at h1
  have h2:=hf.ev p
  rw [hp] at h2
  have hr:=Gb4 (P:=P) hT (some ⟨b,off,none⟩) n cap 0 m none (some (.int kd (m:Int))) w (Nat.zero_le _) hm hn (.inl ⟨rfl,rfl⟩) (.inr ⟨kd,rfl⟩)
  refine⟨.slice (some ⟨b,off,none⟩) m cap,?_,.sc⟩
  simp only [execOp,ho,h1.inv_sc,h2.inv_sc,Option.map_none,Option.map_some,Sem.run_bind]
  rw [hr]
  simp [Addr.add_lit]
theorem R97 {x p:Operand} {T E k:Nat} {kd:IntKind} {z:Int} {b off n cap m:Nat} (ho:o.op=.slice T x (some p) none none) (hx:ev l x=SL b off n cap) (hp:ev l p=.sc (.int kd z)) (hT:sliceB P T E k=true) (hz:z=(m:Int)) (hm:m≤n) (hn:n≤cap):Gn P o l L (Is (.sc (.slice (if cap=m then some ⟨b,off,none⟩ else some ⟨b,off+m*k,none⟩) (n - m) (cap - m))) L):=
 H2 fun a w β _ hf=>by
  subst hz
  have h1:=hf.ev x
  rw [hx] at h1
  have h2:=hf.ev p
  rw [hp] at h2
  have hr:=Gb4 (P:=P) hT (some ⟨b,off,none⟩) n cap m n (some (.int kd (m:Int))) none w hm (Kb) hn (.inr ⟨kd,rfl⟩) (.inl ⟨rfl,rfl⟩)
  refine⟨_,?_,.sc⟩
  simp only [execOp,ho,h1.inv_sc,h2.inv_sc,Option.map_none,Option.map_some,Sem.run_bind]
  rw [hr]
  by_cases e:cap=m <;> simp [e,Addr.add_lit]
theorem Rf1 {x p q r:Operand} {T E k:Nat} {k1 k2 k3:IntKind} {z1 z2 z3:Int} {b off n cap lo hi mx:Nat} (ho:o.op=.slice T x (some p) (some q) (some r)) (hx:ev l x=SL b off n cap) (hp:ev l p=.sc (.int k1 z1)) (hq:ev l q=.sc (.int k2 z2)) (hr:ev l r=.sc (.int k3 z3)) (hT:sliceB P T E k=true) (h1:z1=(lo:Int)) (h2:z2=(hi:Int)) (h3:z3=(mx:Int)) (h0:lo≤hi) (h4:hi≤mx) (h5:mx≤cap) (h6:lo < mx) :
  Gn P o l L (Is (SL b (off+lo*k) (hi - lo) (mx - lo)) L):=
 H2 fun a w β _ hf=>by
  subst h1 h2 h3
  have g1:=hf.ev x
  rw [hx] at g1
  have g2:=hf.ev p
  rw [hp] at g2
  have g3:=hf.ev q
  rw [hq] at g3
  have g4:=hf.ev r
  rw [hr] at g4
  have hr:=Jc1 (P:=P) hT (some ⟨b,off,none⟩) n cap lo hi mx k1 k2 k3 w h0 h4 h5
  refine⟨_,?_,.sc⟩
  simp only [execOp,ho,g1.inv_sc,g2.inv_sc,g3.inv_sc,g4.inv_sc,Option.map_some,Sem.run_bind]
  rw [hr]
  simp [Addr.add_lit,Nat.ne_of_gt h6]
theorem J18 (w:World) (t ty e:TypeId) (i:TypeInfo) (ht:P.underlying t=some (.slice e)) (hi:P.info? e=some i)
  (b off sLen sCap:Nat) (old:Array Value) (hold:w.heap[b]? = some (.cells old e (0,0))) (a:Addr) (m c:Nat) (news:List Value) (hl:news.length=m*i.size) (h0:∀ j u,news[j]? = some u→w.cell? (a.add j)=some u) (h1:∀ u∈news,u.oneCell'=true)
  (h2:sLen+m≤sCap) (h4:off+sLen*i.size+news.length≤old.size) :
  (Builtin.append_ #[t,t] ty #[.slice (some ⟨b,off,none⟩) sLen sCap,.slice (some a) m c]).run P w=.ok (.slice (some ⟨b,off,none⟩) (sLen+m) sCap) (w.setRow b (old.toList.take (off+sLen*i.size)++news++old.toList.drop (off+sLen*i.size+news.length)).toArray):=by
 have h5:=run_firstCells_some (P:=P) w i.size m a m c news hl h0
 have h3:=run_storeCells_at P b (off+sLen*i.size) e news 0 old w hold (by simpa using h4) h1
 simp only [Nat.add_zero] at h3
 simp [Builtin.append_,run_underlying ht,sizeOf,typeInfo,hi,Builtin.lenOf,h2,h5,Addr.add_lit,h3]
theorem Jc9 {w:World} {β:Gx} {L:Loc} {cs us:List AV} {old ws:List Value} {off:Nat} (h3:old.length=cs.length) (h4:ws.length=us.length) (h0:off+us.length≤cs.length)
  (h:∀ (j:Nat) u v,cs[j]? = some u→old[j]? = some v→D w (J5 w β L) u v) (h':∀ (j:Nat) u v,us[j]? = some u→ws[j]? = some v→D w (J5 w β L) u v) :
  ∀ (j:Nat) u v,(cs.take off++us++cs.drop (off+us.length))[j]? = some u→(old.take off++ws++old.drop (off+us.length))[j]? = some v→D w (J5 w β L) u v:=by
 intro j u v hu hv
 rcases Ep j off with h1 | h1
 ·rw [List.append_assoc,Kd (by simp; omega),Kg,if_pos h1] at hu hv
  exact h j u v hu hv
 ·rcases Ep j (off+us.length) with h2 | h2
  ·rw [Kd (by simp; omega),Kc (by simp; omega)] at hu hv
   simp only [List.length_take] at hu hv
   rw [Nat.min_eq_left (by omega)] at hu hv
   exact h' _ u v hu hv
  ·rw [Kc (by simp; omega)] at hu hv
   simp only [Ki,List.length_take,Kh] at hu hv
   rw [Nat.min_eq_left (by omega)] at hu hv
   rw [show off+us.length+(j - (off+us.length))=j by omega] at hu
   rw [show off+us.length+(j - (off+ws.length))=j by omega] at hv
   exact h j u v hu hv
theorem R9c {s x:Operand} {T E k by_ i b off n cap kx:Nat} {cs ys:List AV} (ho:o.op=.call { callee:=.builtin .append,args:=#[s,x],argTypes:=#[T,T] }) (hs:ev l s=SL b off n cap) (hi:lk L i=some (.pin E b cs)) (hx:Jj (ev l x)=some (kx,ys))
  (hT:sliceB P T E k=true) (hE:Qk P E k by_=true) (h7:∀ y∈ys,y.flatOk=true) (hk:kx=k) (b1:0 < ys.length) (h3:n+ys.length≤cap) (b2:off+cap*k≤cs.length) :
  Gn P o l L (Is (SL b off (n+ys.length) cap) ((i,.pin E b (cs.take (off+n*k)++flat ys++cs.drop (off+n*k+(flat ys).length)))::L)):=by
 subst hk
 intro a w β K Q h4 hf hK
 have h1:=hf.ev s
 rw [hs] at h1
 obtain⟨hb,old,h8,a5,a6⟩:=H86 h4 hi
 have hd:=(hf.ev x).Jj hx
 obtain⟨ao,c,h9,_,_⟩:=hd.len
 rw [h9] at hd
 obtain⟨_,a7,a8,vals,h0,a9,a0⟩:=hd.vals
 obtain⟨inf,zv,e1,e2,e3,e4,e5,e6⟩:=Qk.out hE
 cases ao with
 | none=>have:=a8 rfl; omega
 | some ad=>
  have h5:(flat ys).length=ys.length*kx:=Hm a7
  have a2:(n+ys.length)*kx≤cap*kx:=Nat.mul_le_mul_right _ h3
  rw [Nat.add_mul] at a2
  have a3:∀ u∈vals,u.oneCell'=true:=fun u hu=>by
   obtain⟨j,hj⟩:=List.getElem?_of_mem hu
   have a1:j < (flat ys).length:=by have:=(Ex hj).1; omega
   obtain⟨x',h2,h6⟩:=a0 j _ (Ey a1)
   rw [hj] at h2; cases h2
   exact(V.data (β:=β) (L:=L) h6).cell (G8e h7 (List.getElem_mem a1))
  have hr:=J18 (P:=P) w T o.type E inf (sliceB.out hT).1 e1 b off n cap old h8 ad ys.length c vals (by rw [h0,h5,e2]) (fun j u hu=>a9 ad j u rfl hu) a3 h3 (by rw [e2,h0,h5]; omega)
  have a4:(execOp a.eval o).run P w=.ok (.value (.slice (some ⟨b,off,none⟩) (n+ys.length) cap)) (w.setRow b (old.toList.take (off+n*inf.size)++vals++old.toList.drop (off+n*inf.size+vals.length)).toArray):=by
   simp [execOp,ho,resolve,invoke,builtin,h1.inv_sc,h9,hr]
  unfold Oper.wp
  rw [a4]
  rw [e2,h0]
  obtain⟨st,sat⟩:=Ha7 (cs':=cs.take (off+n*kx)++flat ys++cs.drop (off+n*kx+(flat ys).length)) (w':=w.setRow b (old.toList.take (off+n*kx)++vals++old.toList.drop (off+n*kx+(flat ys).length)).toArray) h4 hi rfl rfl ⟨rfl,Kb⟩ (by simp) (fun b' _ b0=>setRow_other w b b' _ b0) _ (setRow_heap w b old _ E (0,0) h8)
   (by simp [h0]; omega) (fun j u v hu hv=>Jc9 (old:=old.toList) (ws:=vals) (by rw [Array.length_toList]; exact a5) h0 (by rw [h5]; omega) (fun j u v hu hv=>a6 j u v hu (by simpa using hv)) (fun j u v hu hv=>by
    obtain⟨x',h2,h6⟩:=a0 j u hu
    rw [hv] at h2; cases h2
    exact h6) j u v hu (by simpa using hv))
  exact hK _ _ _ _ β ⟨rfl,rfl⟩ sat st .sc
theorem R45 (i:Nat) {x y:Operand} {T E k by_ n:Nat} {kd kd':IntKind} {nx ny:Int} (zs:List Value) (ho:o.op=.makeSlice T x y) (hx:ev l x=.sc (.int kd nx)) (hy:ev l y=.sc (.int kd' ny)) (hi:lk L i=none)
  (hT:sliceB P T E k=true) (hE:Qk P E k by_=true) (hz:(P.info? E).bind (fun i=>i.zero.map Value.cells)=some zs.toArray) (hn:nx=(n:Int)) (hm:ny=(n:Int)) (hb:by_*n≤281474976710656∧n≤maxLen) (cs:List AV) (h5:cs.length=n*k)
  (h6:∀ (w:World) (S:Nat→Nat→Prop) (j:Nat) u v,cs[j]? = some u→(madeCells zs.toArray (n*k))[j]? = some v→D w S u v) :
  Gn P o l L (fun u L'=>∃ b,u=SL b 0 n n∧L'=(i,.pin E b cs)::L):=by
 subst hn hm
 intro a w β K Q h2 hf hK
 obtain⟨inf,zv,e1,e2,e3,e4,e5,e6⟩:=Qk.out hE
 have h0:=hf.ev x
 rw [hx] at h0
 have h1:=hf.ev y
 rw [hy] at h1
 have h3:(n:Int)≤9223372036854775807:=by
  have h:=hb.2
  simp [maxLen] at h
  omega
 have h7:(inf.bytes:Int)*(n:Int)≤281474976710656:=by
  have h:((inf.bytes*n:Nat):Int)≤281474976710656:=by rw [e3]; have:=hb.1; omega
  rwa [Int.natCast_mul] at h
 have hr:=run_make (P:=P) w T E inf zv (sliceB.out hT).1 e1 e4 kd kd' n n (by omega) (Int.le_refl _) h7 h3
 simp only [Int.toNat_natCast] at hr
 have h4:(execOp a.eval o).run P w=.ok (.value (.slice (some ⟨w.heap.size,0,none⟩) n n)) (w.alloc (.cells (madeCells zv.cells (n*inf.size)) E)):=by
  simp [execOp,ho,h0.inv_sc,h1.inv_sc,hr]
 unfold Oper.wp
 rw [h4]
 have h8:zv.cells=zs.toArray:=by
  rw [e1] at hz
  simp [e4] at hz
  exact hz
 rw [h8,e2]
 obtain⟨st,sat⟩:=R24 (w':=w.alloc (.cells (madeCells zs.toArray (n*k)) E)) (t:=E) (cs:=cs) h2 hi rfl rfl ⟨rfl,Kb⟩ (madeCells zs.toArray (n*k)) rfl (by rw [h5,size_madeCells]) (fun j u v hu hv=>h6 _ _ j u v hu hv)
 exact hK _ _ _ _ _ ⟨_,rfl,rfl⟩ sat st .sc
theorem R43 {x p:Operand} {T E k:Nat} {kd:IntKind} {z:Int} {b off n cap m:Nat} (ho:o.op=.slice T x (some p) none none) (hx:ev l x=SL b off n cap) (hp:ev l p=.sc (.int kd z)) (hT:sliceB P T E k=true) (hz:z=(m:Int)) (hm:m≤n) (hn:n≤cap) (h0:m < cap):Gn P o l L (Is (SL b (off+m*k) (n - m) (cap - m)) L):=by
 have h:=R97 (P:=P) (L:=L) ho hx hp hT hz hm hn
 rwa [if_neg (by omega)] at h
theorem J55 (w:World) (dT sT ty elem:TypeId) (d a:Option Addr) (dLen dCap cap:Nat) (hu:P.underlying dT=some (.slice elem)) (hs:((P.info? elem).map (·.size)).isSome=true) :
  (Builtin.copy_ #[dT,sT] ty #[.slice d dLen dCap,.slice a 0 cap]).run P w=.ok (goInt 0) w:=by
 cases hq:P.info? elem with
 | none=>simp [hq] at hs
 | some i=>cases d <;> cases a <;> simp [Builtin.copy_,run_underlying hu,Builtin.lenOf,Builtin.firstCells,sizeOf,typeInfo,hq,storeCells,loadCells,loadCellsFrom]
theorem R47 {d x:Operand} {T T2 E i b off n cap kx:Nat} {cs ys:List AV} (ho:o.op=.call { callee:=.builtin .copy,args:=#[d,x],argTypes:=#[T,T2] }) (hT:sliceB P T E 1=true) (hd:ev l d=SL b off n cap) (hi:lk L i=some (.pin E b cs)) (hx:Jj (ev l x)=some (kx,ys))
  (a2:∀ y∈ys,y.flatOk=true) (hk:kx=1) (a7:ys.length≤n) (b5:off+n≤cs.length) :
  Gn P o l L (Is (I64 (ys.length:Int)) ((i,.pin E b (cs.take off++flat ys++cs.drop (off+(flat ys).length)))::L)):=by
 subst hk
 intro a w β K Q h3 hf hK
 have h1:=hf.ev d
 rw [hd] at h1
 obtain⟨hb,old,h7,a3,a4⟩:=H86 h3 hi
 have h8:=(hf.ev x).Jj hx
 obtain⟨ao,c,h9,_,_⟩:=h8.len
 rw [h9] at h8
 obtain⟨_,b0,b1,vals,h0,b2,a5⟩:=h8.vals
 have h5:(flat ys).length=ys.length:=by rw [Hm b0,Nat.mul_one]
 obtain⟨inf,a0,b3⟩:=Rw.out (sliceB.out hT).2
 have a8:∀ u∈vals,u.oneCell'=true:=fun u hu=>by
  obtain⟨j,hj⟩:=List.getElem?_of_mem hu
  have a6:j < (flat ys).length:=by have:=(Ex hj).1; omega
  obtain⟨x',h2,a1⟩:=a5 j _ (Ey a6)
  rw [hj] at h2; cases h2
  exact(V.data (β:=β) (L:=L) a1).cell (G8e a2 (List.getElem_mem a6))
 have h6:(execOp a.eval o).run P w=((Builtin.copy_ #[T,T2] o.type #[a.eval d,a.eval x]).run P w).andThen fun v w'=>.ok (.value v) w':=by simp [execOp,ho,resolve,invoke,builtin]
 unfold Oper.wp
 cases ys with
 | nil=>
  have h4:(execOp a.eval o).run P w=.ok (.value (.int .i64 ((([]:List AV).length:Nat):Int))) w:=by
   rw [h6,h1.inv_sc,h9,List.length_nil]
   rw [J55 (P:=P) w T T2 o.type E (some ⟨b,off,none⟩) ao n cap c (sliceB.out hT).1 (by rw [a0]; rfl)]
   rfl
  rw [h4]
  obtain⟨st,sat⟩:=Ha7 (w':=w) (cs':=cs.take off++flat []++cs.drop (off+(flat ([]:List AV)).length)) h3 hi rfl rfl ⟨rfl,Kb⟩ (Kb) (fun _ _ _=>rfl) old h7 (by simp [flat,a3]) (fun j u v hu hv=>a4 j u v (by simpa [flat] using hu) hv)
  exact hK _ _ _ _ β ⟨rfl,rfl⟩ sat st .sc
 | cons y0 yr=>
  cases ao with
  | none=>have:=b1 rfl; simp at this
  | some ad=>
   have a9:Nat.min (y0::yr).length n=(y0::yr).length:=Nat.min_eq_left a7
   have hr:=run_copy_row (P:=P) w T T2 o.type E b off n cap ad (y0::yr).length c old E vals (sliceB.out hT).1 (by rw [a0]; simp [b3]) h7 (by rw [a9,h0,h5]) (fun j u hu=>b2 ad j u rfl hu) (by rw [h0,h5]; omega) a8
   have h4:(execOp a.eval o).run P w=.ok (.value (.int .i64 (((y0::yr).length:Nat):Int))) (w.setRow b (old.toList.take off++vals++old.toList.drop (off+vals.length)).toArray):=by
    have e:vals.length=(y0::yr).length:=by rw [h0,h5]
    rw [h6,h1.inv_sc,h9,hr]
    show Result.ok (Next.value (goInt vals.length)) _=_
    rw [e]; rfl
   rw [h4,h0]
   obtain⟨st,sat⟩:=Ha7 (cs':=cs.take off++flat (y0::yr)++cs.drop (off+(flat (y0::yr)).length)) (w':=w.setRow b (old.toList.take off++vals++old.toList.drop (off+(flat (y0::yr)).length)).toArray) h3 hi rfl rfl ⟨rfl,Kb⟩ (by simp) (fun b' _ b4=>setRow_other w b b' _ b4) _ (setRow_heap w b old _ E (0,0) h7)
    (by simp [h0]; omega) (fun j u v hu hv=>Jc9 (old:=old.toList) (ws:=vals) (by rw [Array.length_toList]; exact a3) h0 (by rw [h5]; omega) (fun j u v hu hv=>a4 j u v hu (by simpa using hv)) (fun j u v hu hv=>by
     obtain⟨x',h2,a1⟩:=a5 j u hu
     rw [hv] at h2; cases h2
     exact a1) j u v hu (by simpa using hv))
   exact hK _ _ _ _ β ⟨rfl,rfl⟩ sat st .sc
end ops
end Go.Proofs.YtokjlondbjdlfaaGreat
