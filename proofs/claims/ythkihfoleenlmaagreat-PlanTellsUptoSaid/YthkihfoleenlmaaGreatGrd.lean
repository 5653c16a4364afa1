/-
 Blocks that are the call's own to write and whose places are Guards that are known to hold;
-/
import Derived.Test.YthkihfoleenlmaaGreatIns
import Derived.Laws.CopyRow
import Derived.Test.YthkihfoleenlmaaGreatDraw2
namespace Go.Proofs.YthkihfoleenlmaaGreat
open Go.RowKit
set_option linter.unusedVariables false

abbrev PT (b off:Nat):AV:=.sc (.pointer (some ⟨b,off,none⟩))
abbrev SL (b off n cap:Nat):AV:=.sc (.slice (some ⟨b,off,none⟩) n cap)

section moves
variable {w:World} {β:H4} {L:Loc} {i t b:Nat} {cs cs':List AV}
theorem uI (h0:Sat w β L) (hi:lk L i=some (.pin t b cs)):β i=some b/\∃ vs:Array Value,w.heap[b]? = some (.cells vs t (0,0))/\vs.size=cs.length/\∀ (j:Nat) u v,cs[j]? = some u→vs[j]? = some v→D w (Ji w β L) u v:=h0.obj i _ hi

theorem GP {w':World} (h0:Sat w β L) (hi:lk L i=some (.pin t b cs)) (a2:w'.os=w.os) (a3:w'.tape=w.tape) (a0:w'.output=w.output/\w.drawn≤w'.drawn) (h8:w.heap.size≤w'.heap.size)
  (h6:∀ b',b' < w.heap.size→b'≠b→w'.heap[b']? = w.heap[b']?) (vs:Array Value) (a1:w'.heap[b]? = some (.cells vs t (0,0))) (hl:vs.size=cs'.length) (h:∀ (j:Nat) u v,cs'[j]? = some u→vs[j]? = some v→D w (Ji w β L) u v) :
  Step w β L w' β ((i,.pin t b cs')::L)/\Sat w' β ((i,.pin t b cs')::L):=by
 obtain⟨hb,old,a5,a6,a7⟩:=uI h0 hi
 have h9:∀ id b',(lk L id).isSome=true→β id=some b'→i≠id→w'.heap[b']? = w.heap[b']? := fun id b' h1 h2 h5=>
  h6 b' (h0.bnd id b' h1 h2) (fun e=>h5 (by subst e; exact h0.inj i id b' (by rw [hi]; rfl) h1 hb h2))
 have st:Step w β L w' β ((i,.pin t b cs')::L):=by
  refine⟨a2,a3,a0,h8,fun _ _ _=>Iff.rfl,fun b' j hs=>?_,fun b' a4 hf=>?_,fun id t' cs'' hid=>?_,fun id t' es hid=>?_,fun id t' n es hid=>?_,fun id t' k ver xs hid=>?_,fun id t' k ver hw hid=>?_⟩
  .have h5:b'≠b:=fun e=>by subst e; exact hs.kept i _ hi hb
   refine⟨⟨P0 hs.lt h8,hs.seen,fun id o hid h7=>?_⟩,Q1 (w:=w) (h6 b' hs.lt h5)⟩
   rw [Gm] at hid
   by_cases e:i=id
   .subst e; rw [hb] at h7; exact absurd (Pc h7) (Ne.symm h5)
   .rw [if_neg e] at hid; exact hs.kept id o hid h7
  .have h5:b'≠b:=fun e=>by subst e; exact hf i (by rw [hi]; rfl) hb
   refine⟨h6 b' a4 h5,fun id hid=>?_⟩
   rw [Gm] at hid
   by_cases e:i=id
   .subst e; rw [hb]; exact fun e=>h5 (Pc e).symm
   .rw [if_neg e] at hid; exact hf id hid
  .exact⟨rfl,cs'',by rw [Gm,if_neg (fun e=>by subst e; rw [hi] at hid; cases hid)]; exact hid⟩
  .exact⟨rfl,es,by rw [Gm,if_neg (fun e=>by subst e; rw [hi] at hid; cases hid)]; exact hid⟩
  .exact⟨rfl,n,es,by rw [Gm,if_neg (fun e=>by subst e; rw [hi] at hid; cases hid)]; exact hid⟩
  .have e:i≠id:=fun e=>by subst e; rw [hi] at hid; cases hid
   exact⟨ver,xs,by rw [Gm,if_neg e]; exact hid,Pf,fun _=>⟨rfl,rfl,fun b' h3=>cN (h9 id b' (by rw [hid]; rfl) h3 e)⟩⟩
  .have e:i≠id:=fun e=>by subst e; rw [hi] at hid; cases hid
   exact⟨ver,hw,by rw [Gm,if_neg e]; exact hid,Pf,fun _=>⟨rfl,rfl,fun b' h3=>h9 id b' (by rw [hid]; rfl) h3 e⟩⟩
 have h4:∀ id,(lk ((i,Jn.pin t b cs')::L) id).isSome=true→(lk L id).isSome=true:=fun id h=>by
  rw [Gm] at h
  by_cases e:i=id
  .subst e; rw [hi]; rfl
  .rwa [if_neg e] at h
 refine⟨st,fun b i h=>P0 (h0.hid b i h) h8,fun id b' hid h3=>P0 (h0.bnd id b' (h4 id hid) h3) h8,fun id b' j hid h3=>h0.apart id b' j (h4 id hid) h3,fun id id' b' h1 h2=>h0.inj id id' b' (h4 id h1) (h4 id' h2),fun id ob hid=>?_⟩
 rw [Gm] at hid
 by_cases e:i=id
 .subst e
  simp at hid; subst hid
  exact⟨hb,vs,a1,hl,fun j u v hu hv=>(h j u v hu hv).mono st.stab⟩
 .rw [if_neg e] at hid
  exact(h0.obj id ob hid).step st (fun b' h3=>h9 id b' (by rw [hid]; rfl) h3 e)
theorem Hb5 {w':World} (h5:Sat w β L) (hi:lk L i=none) (a3:w'.os=w.os) (a4:w'.tape=w.tape) (a2:w'.output=w.output/\w.drawn≤w'.drawn) (vs:Array Value) (hh:w'.heap=w.heap.push (.cells vs t (0,0))) (hl:vs.size=cs.length)
  (h:∀ (j:Nat) u v,cs[j]? = some u→vs[j]? = some v→D w (Ji w β L) u v) :
  Step w β L w' (upP β i (some w.heap.size)) ((i,.pin t w.heap.size cs)::L)/\Sat w' (upP β i (some w.heap.size)) ((i,.pin t w.heap.size cs)::L):=by
 have ne:∀ {id},(lk L id).isSome=true→i≠id:=fun {id} h e=>by subst e; rw [hi] at h; cases h
 have h9:∀ b',b' < w.heap.size→w'.heap[b']? = w.heap[b']? := fun b' h0=>by rw [hh,Array.getElem?_push,if_neg (by omega)]
 have a0:w.heap.size≤w'.heap.size:=by rw [hh,Array.size_push]; omega
 have h6:∀ {id},i≠id→(upP β i (some w.heap.size)).at_ id=β.at_ id:=fun e=>by simp [upP,Ne.symm e]
 have h7:(upP β i (some w.heap.size)).at_ i=some w.heap.size:=by simp [upP]
 have st:Step w β L w' (upP β i (some w.heap.size)) ((i,.pin t w.heap.size cs)::L):=by
  refine⟨a3,a4,a2,a0,fun _ _ _=>Iff.rfl,fun b' j hs=>⟨⟨P0 hs.lt a0,hs.seen,fun id o hid h8=>?_⟩,Q1 (w:=w) (h9 b' hs.lt)⟩,fun b' h0 hf=>⟨h9 b' h0,fun id hid e=>?_⟩,fun id t' cs'' hid=>?_,fun id t' es hid=>?_,fun id t' n es hid=>?_,fun id t' k ver xs hid=>?_,fun id t' k ver hw hid=>?_⟩
  .rw [Gm] at hid
   by_cases e:i=id
   .subst e; rw [show (upP β i (some w.heap.size)) i=some w.heap.size from h7] at h8; have:=hs.lt; cases h8; omega
   .rw [if_neg e] at hid; rw [show (upP β i (some w.heap.size)) id=β id from h6 e] at h8; exact hs.kept id o hid h8
  .rw [Gm] at hid
   by_cases e':i=id
   .subst e'; rw [show (upP β i (some w.heap.size)) i=some w.heap.size from h7] at e; cases e; omega
   .rw [if_neg e'] at hid; rw [show (upP β i (some w.heap.size)) id=β id from h6 e'] at e; exact hf id hid e
  .have e:=ne (id:=id) (by rw [hid]; rfl); exact⟨h6 e,cs'',by rw [Gm,if_neg e]; exact hid⟩
  .have e:=ne (id:=id) (by rw [hid]; rfl); exact⟨h6 e,es,by rw [Gm,if_neg e]; exact hid⟩
  .have e:=ne (id:=id) (by rw [hid]; rfl); exact⟨h6 e,n,es,by rw [Gm,if_neg e]; exact hid⟩
  .have e:=ne (id:=id) (by rw [hid]; rfl)
   exact⟨ver,xs,by rw [Gm,if_neg e]; exact hid,Pf,fun _=>⟨rfl,h6 e,fun b' h0=>cN (h9 b' (h5.bnd id b' (by rw [hid]; rfl) h0))⟩⟩
  .have e:=ne (id:=id) (by rw [hid]; rfl)
   exact⟨ver,hw,by rw [Gm,if_neg e]; exact hid,Pf,fun _=>⟨rfl,h6 e,fun b' h0=>h9 b' (h5.bnd id b' (by rw [hid]; rfl) h0)⟩⟩
 refine⟨st,fun b i h=>P0 (h5.hid b i h) a0,fun id b' hid h0=>?_,fun id b' j hid h0 a1=>?_,fun id id' b' h1 h2 h3 h4=>?_,fun id o hid=>?_⟩
 .rw [Gm] at hid
  by_cases e:i=id
  .subst e; rw [show (upP β i (some w.heap.size)) i=some w.heap.size from h7] at h0; cases h0; rw [hh,Array.size_push]; omega
  .rw [if_neg e] at hid; rw [show (upP β i (some w.heap.size)) id=β id from h6 e] at h0; exact P0 (h5.bnd id b' hid h0) a0
 .rw [Gm] at hid
  by_cases e:i=id
  .subst e; rw [show (upP β i (some w.heap.size)) i=some w.heap.size from h7] at h0; cases h0; have:=h5.hid _ _ a1; omega
  .rw [if_neg e] at hid; rw [show (upP β i (some w.heap.size)) id=β id from h6 e] at h0; exact h5.apart id b' j hid h0 a1
 .rw [Gm] at h1 h2
  by_cases e:i=id
  .by_cases e':i=id'
   .rw [← e,e']
   .subst e
    rw [if_neg e'] at h2
    rw [show (upP β i (some w.heap.size)) i=some w.heap.size from h7] at h3; cases h3
    rw [show (upP β i (some w.heap.size)) id'=β id' from h6 e'] at h4
    have:=h5.bnd id' _ h2 h4; omega
  .rw [if_neg e] at h1
   rw [show (upP β i (some w.heap.size)) id=β id from h6 e] at h3
   by_cases e':i=id'
   .subst e'
    rw [show (upP β i (some w.heap.size)) i=some w.heap.size from h7] at h4; cases h4
    have:=h5.bnd id _ h1 h3; omega
   .rw [if_neg e'] at h2
    rw [show (upP β i (some w.heap.size)) id'=β id' from h6 e'] at h4
    exact h5.inj id id' b' h1 h2 h3 h4
 .rw [Gm] at hid
  by_cases e:i=id
  .subst e
   simp at hid; subst hid
   refine⟨h7,vs,by rw [hh]; simp,hl,fun j u v hu hv=>(h j u v hu hv).mono st.stab⟩
  .rw [if_neg e] at hid
   rw [show (upP β i (some w.heap.size)) id=β id from h6 e]
   exact(h5.obj id o hid).step st (fun b' h0=>h9 b' (h5.bnd id b' (by rw [hid]; rfl) h0))
end moves

section ops
variable {P:Program} {N:Cfg} {o:Oper} {l:Fr} {L:Loc} {u:AV}
theorem rO {x:Operand} {T E k':Nat} {a:Option Addr} {n cap:Nat} (ho:o.op=.call { callee:=.builtin .len,args:=#[x],argTypes:=#[T] }) (hT:sliceB P T E k'=true) (hx:ev l x=.sc (.slice a n cap)):H2 P o l L (Is (.sc (.int .i64 n)) L):=
 Hm fun a w β _ hf=>by
  have h:=hf.ev x
  rw [hx] at h
  exact⟨.int .i64 n,by simp [execOp,ho,resolve,invoke,builtin,Builtin.len_,underlying,(sliceB.out hT).1,h.inv_sc,goInt],.sc⟩
theorem Q02 {x ix:Operand} {T E k:Nat} {kd:IntKind} {z:Int} {b off n cap m:Nat} (ho:o.op=.indexAddr T x ix) (hx:ev l x=SL b off n cap) (hi:ev l ix=.sc (.int kd z)) (hT:sliceB P T E k=true) (hz:z=(m:Int)) (hm:m < n):H2 P o l L (Is (PT b (off+m*k)) L):=
 Hm fun a w β _ hf=>by
  subst hz
  have h1:=hf.ev x
  rw [hx] at h1
  have h2:=hf.ev ix
  rw [hi] at h2
  have hr:=Qn (sliceB.out hT).2 w
  refine⟨_,?_,.sc⟩
  simp [execOp,ho,Instr.indexAt,h2.inv_sc,h1.inv_sc,asIntOf,underlying,(sliceB.out hT).1,hm,hr,Addr.add_lit]
theorem Jb5 {x:Operand} {T i t b off:Nat} {cs:List AV} (ho:o.op=.load T x) (hx:ev l x=PT b off) (hT:Jc P T=true) (hi:lk L i=some (.pin t b cs)) (h0:cs[off]? = some u):H2 P o l L (Is u L):=
 Hm fun a w β h3 hf=>by
  have h1:=hf.ev x
  rw [hx] at h1
  obtain⟨hb,vs,g1,g2,g3⟩:=uI h3 hi
  have h2:off < vs.size:=by
   have:=(Pa h0).1
   omega
  have hv:vs[off]? = some vs[off]:=by simp [h2]
  refine⟨vs[off],?_,.data (g3 off u _ h0 hv)⟩
  have hc:w.cell? ⟨b,off,none⟩=some vs[off]:=by simp [World.cell?,g1,h2]
  simp [execOp,ho,h1.inv_sc,gA hT hc]
theorem J59 {x y:Operand} {T i b off k:Nat} {t:TypeId} {cs:List AV} (ho:o.op=.store T x y) (hx:ev l x=PT b off) (hT:Rc P T k=true) (hu:ev l y=u) (hi:lk L i=some (.pin t b cs)) (hc:u.flatOk=true) (hd:Ys (fun _=>false) u.cells=true) (hk:u.cells.length=k) (h9:off+k≤cs.length) :
  H2 P o l L (Is .junk ((i,.pin t b (cs.take off++u.cells++cs.drop (off+k)))::L)):=by
 subst hu
 intro a w β K Q h3 hf hK
 have h1:=hf.ev x
 rw [hx] at h1
 obtain⟨hb,old,h4,a0,h5⟩:=uI h3 hi
 obtain⟨c1,c2,c3⟩:=(hf.ev y).cells hc
 have hr:=mH (P:=P) (off:=off) hT (c1.trans hk) c3 h4 (by omega)
 unfold Oper.wp
 have h6:(execOp a.eval o).run P w=.ok .skip (w.setRow b (old.toList.take off++(a.eval y).cells.toList++old.toList.drop (off+k)).toArray):=by
  simp [execOp,ho,h1.inv_sc,hr]
 rw [h6]
 obtain⟨st,sat⟩:=GP (cs':=cs.take off++(ev l y).cells++cs.drop (off+k)) (w':=w.setRow b (old.toList.take off++(a.eval y).cells.toList++old.toList.drop (off+k)).toArray) h3 hi rfl rfl ⟨rfl,Pf⟩ (by simp) (fun b' _ h7=>setRow_other w b b' _ h7) _ (setRow_heap w b old _ t (0,0) h4)
  (by simp [c1]; omega) (fun j u v hu hv=>by
   have h0:(old.toList.take off++(a.eval y).cells.toList++old.toList.drop (off+k))[j]? = some v:=by simpa using hv
   have a1:off≤old.toList.length:=by rw [Array.length_toList]; omega
   rcases P4 j off with h | h
   .rw [List.append_assoc,Ph (by simp; omega),Pk,if_pos h] at hu h0
    exact h5 j u v hu (by simpa using h0)
   .rcases P4 j (off+k) with h2 | h2
    .rw [Ph (by simp; omega),Pg (by simp; omega)] at hu h0
     simp only [List.length_take] at hu h0
     rw [Nat.min_eq_left (by omega)] at hu h0
     exact(c2 _ u v hu (by simpa using h0)).toD (bO hd u (Pd hu))
    .have h8:((a.eval y).cells.toList).length=k:=by rw [Array.length_toList]; omega
     rw [Pg (by simp; omega)] at hu h0
     simp only [Pn,List.length_take,Pm,h8,hk] at hu h0
     rw [Nat.min_eq_left (by omega)] at hu h0
     rw [show off+k+(j - (off+k))=j by omega] at hu h0
     exact h5 j u v hu (by simpa using h0))
 exact hK _ _ _ _ β ⟨rfl,rfl⟩ sat st .junk
theorem G05 (w:World) (t ty e:TypeId) (i:TypeInfo) (ht:P.underlying t=some (.slice e)) (hi:P.info? e=some i)
  (b off sLen sCap:Nat) (old:Array Value) (hold:w.heap[b]? = some (.cells old e (0,0))) (a:Addr) (m c:Nat) (news:List Value) (hl:news.length=m*i.size) (h0:∀ j u,news[j]? = some u→w.cell? (a.add j)=some u) (h1:∀ u∈news,u.oneCell'=true)
  (h2:sLen+m≤sCap) (h4:off+sLen*i.size+news.length≤old.size) :
  (Builtin.append_ #[t,t] ty #[.slice (some ⟨b,off,none⟩) sLen sCap,.slice (some a) m c]).run P w=.ok (.slice (some ⟨b,off,none⟩) (sLen+m) sCap) (w.setRow b (old.toList.take (off+sLen*i.size)++news++old.toList.drop (off+sLen*i.size+news.length)).toArray):=by
 have h5:=run_firstCells_some (P:=P) w i.size m a m c news hl h0
 have h3:=run_storeCells_at P b (off+sLen*i.size) e news 0 old w hold (by simpa using h4) h1
 simp only [Nat.add_zero] at h3
 simp [Builtin.append_,run_underlying ht,sizeOf,typeInfo,hi,Builtin.lenOf,h2,h5,Addr.add_lit,h3]
theorem H17 {w:World} {β:H4} {L:Loc} {cs us:List AV} {old ws:List Value} {off:Nat} (h3:old.length=cs.length) (h4:ws.length=us.length) (h0:off+us.length≤cs.length)
  (h:∀ (j:Nat) u v,cs[j]? = some u→old[j]? = some v→D w (Ji w β L) u v) (h':∀ (j:Nat) u v,us[j]? = some u→ws[j]? = some v→D w (Ji w β L) u v) :
  ∀ (j:Nat) u v,(cs.take off++us++cs.drop (off+us.length))[j]? = some u→(old.take off++ws++old.drop (off+us.length))[j]? = some v→D w (Ji w β L) u v:=by
 intro j u v hu hv
 rcases P4 j off with h1 | h1
 .rw [List.append_assoc,Ph (by simp; omega),Pk,if_pos h1] at hu hv
  exact h j u v hu hv
 .rcases P4 j (off+us.length) with h2 | h2
  .rw [Ph (by simp; omega),Pg (by simp; omega)] at hu hv
   simp only [List.length_take] at hu hv
   rw [Nat.min_eq_left (by omega)] at hu hv
   exact h' _ u v hu hv
  .rw [Pg (by simp; omega)] at hu hv
   simp only [Pn,List.length_take,Pm] at hu hv
   rw [Nat.min_eq_left (by omega)] at hu hv
   rw [show off+us.length+(j - (off+us.length))=j by omega] at hu
   rw [show off+us.length+(j - (off+ws.length))=j by omega] at hv
   exact h j u v hu hv
theorem Q04 {s x:Operand} {T E k by_ i b off n cap kx:Nat} {cs ys:List AV} (ho:o.op=.call { callee:=.builtin .append,args:=#[s,x],argTypes:=#[T,T] }) (hs:ev l s=SL b off n cap) (hi:lk L i=some (.pin E b cs)) (hx:Jz (ev l x)=some (kx,ys))
  (hT:sliceB P T E k=true) (hE:Qo P E k by_=true) (h7:∀ y∈ys,y.flatOk=true) (hk:kx=k) (b1:0 < ys.length) (h3:n+ys.length≤cap) (b2:off+cap*k≤cs.length) :
  H2 P o l L (Is (SL b off (n+ys.length) cap) ((i,.pin E b (cs.take (off+n*k)++flat ys++cs.drop (off+n*k+(flat ys).length)))::L)):=by
 subst hk
 intro a w β K Q h4 hf hK
 have h1:=hf.ev s
 rw [hs] at h1
 obtain⟨hb,old,h8,a5,a6⟩:=uI h4 hi
 have hd:=(hf.ev x).Jz hx
 obtain⟨ao,c,h9,_,_⟩:=hd.len
 rw [h9] at hd
 obtain⟨_,a7,a8,vals,h0,a9,a0⟩:=hd.vals
 obtain⟨inf,zv,e1,e2,e3,e4,e5,e6⟩:=Qo.out hE
 cases ao with
 | none=>have:=a8 rfl; omega
 | some ad=>
  have h5:(flat ys).length=ys.length*kx:=Jf a7
  have a2:(n+ys.length)*kx≤cap*kx:=Nat.mul_le_mul_right _ h3
  rw [Nat.add_mul] at a2
  have a3:∀ u∈vals,u.oneCell'=true:=fun u hu=>by
   obtain⟨j,hj⟩:=List.getElem?_of_mem hu
   have a1:j < (flat ys).length:=by have:=(Pa hj).1; omega
   obtain⟨x',h2,h6⟩:=a0 j _ (Pb a1)
   rw [hj] at h2; cases h2
   exact(V.data (β:=β) (L:=L) h6).cell (jT h7 (List.getElem_mem a1))
  have hr:=G05 (P:=P) w T o.type E inf (sliceB.out hT).1 e1 b off n cap old h8 ad ys.length c vals (by rw [h0,h5,e2]) (fun j u hu=>a9 ad j u rfl hu) a3 h3 (by rw [e2,h0,h5]; omega)
  have a4:(execOp a.eval o).run P w=.ok (.value (.slice (some ⟨b,off,none⟩) (n+ys.length) cap)) (w.setRow b (old.toList.take (off+n*inf.size)++vals++old.toList.drop (off+n*inf.size+vals.length)).toArray):=by
   simp [execOp,ho,resolve,invoke,builtin,h1.inv_sc,h9,hr]
  unfold Oper.wp
  rw [a4]
  rw [e2,h0]
  obtain⟨st,sat⟩:=GP (cs':=cs.take (off+n*kx)++flat ys++cs.drop (off+n*kx+(flat ys).length)) (w':=w.setRow b (old.toList.take (off+n*kx)++vals++old.toList.drop (off+n*kx+(flat ys).length)).toArray) h4 hi rfl rfl ⟨rfl,Pf⟩ (by simp) (fun b' _ b0=>setRow_other w b b' _ b0) _ (setRow_heap w b old _ E (0,0) h8)
   (by simp [h0]; omega) (fun j u v hu hv=>H17 (old:=old.toList) (ws:=vals) (by rw [Array.length_toList]; exact a5) h0 (by rw [h5]; omega) (fun j u v hu hv=>a6 j u v hu (by simpa using hv)) (fun j u v hu hv=>by
    obtain⟨x',h2,h6⟩:=a0 j u hu
    rw [hv] at h2; cases h2
    exact h6) j u v hu (by simpa using hv))
  exact hK _ _ _ _ β ⟨rfl,rfl⟩ sat st .sc
end ops

/-! ### A guard that is known to hold -/
section guards
variable {P:Program} {N:Cfg} {ops:Array Oper} {o:Oper} {rest:List Oper} {Q:Post} {l:Fr} {L L':Loc} {u:AV}
theorem gG {j dj d:Nat} {want:Bool} {gv:AV} (hg:o.guard=some (j,want)) (hj:(ops[j]?).bind (·.dst)=some dj) (h2:look l dj=gv) (h3:tH gv want true) (h:H2 P o l L (Is u L')) (hk:JL P N ops rest Q ((d,u)::l) L')
  (hd:o.dst=some d) (hn:Nat.blt d N.n=true) (h4:Nat.blt dj N.n=true) (h5:dR o=true:=by rfl):JL P N ops (o::rest) Q l L:=by
 subst h2
 intro n w0 β0 L0 a w β hs
 have hw:=h3.wanted (ops:=ops) hs.frame (P0 (by simpa [Nat.blt_eq] using h4) hs.size) hg hj
 have h6:d < a.tmps.size:=P0 (by simpa [Nat.blt_eq] using hn) hs.size
 refine wpListIn_step fun K hK=>?_
 rw [hw,if_pos rfl]
 refine gM h5 (h a w β K _ hs.sat hs.frame ?_)
 intro u' L'' v w' J' hr h1 h0 hv
 obtain⟨rfl,rfl⟩:=hr
 rw [hd]
 exact hK _ _ (hk n w0 β0 L0 _ w' J' ⟨h1,hs.step.trans h0,(hs.frame.step h0).put h6 hv,by rw [Act.put_size]; exact hs.size,hs.base,by rw [Act.put_defers']; exact hs.defers.step h0⟩)
theorem iQ {j dj:Nat} {want:Bool} {gv:AV} (hg:o.guard=some (j,want)) (hj:(ops[j]?).bind (·.dst)=some dj) (h1:look l dj=gv) (h2:tH gv want true) (h:H2 P o l L (Is u L')) (h3:Nat.blt dj N.n=true:=by rfl):fA P N ops o l L u L':=by
 subst h1
 intro a w β K Q h0 hf hn hK
 have hw:=h2.wanted (ops:=ops) hf (P0 (by simpa [Nat.blt_eq] using h3) hn) hg hj
 rw [hw,if_pos rfl]
 exact h a w β K Q h0 hf (fun u' L'' v w' J' hr=>by obtain⟨rfl,rfl⟩:=hr; exact hK v w' J')
theorem rP {c x y:Operand} (b:Bool) (ho:o.op=.pick c x y) (hc:ev l c=.sc (.bool b)) (hu:(bif b then ev l x else ev l y)=u):H2 P o l L (Is u L):=by
 subst hu
 exact Q03 ho hc
end guards
end Go.Proofs.YthkihfoleenlmaaGreat
